/- The walks of Star and its closures. -/
import Derived.Test.YtjckidjljkjhfaaStW
namespace Go.Proofs.Ytjckidjljkjhfaa
open Go.RowKit Go.Proofs.YtjckidjljkjhfaaW.PrintWords
set_option linter.unusedSimpArgs false
set_option linter.unusedVariables false
/-- The set of the first state alone. -/
def fstS : Sta := adS noS 0
/-- What a set stands for: none for the first one. -/
def actS (m : Sta) : Sta := if m = noS then fstS else m
def stSt (x : AutV) (m : Sta) (l : Nat) : Sta := if meS x (fwS x (actS m) l x.acc.length) then adS (fwS x (actS m) l x.acc.length) 0 else fwS x (actS m) l x.acc.length
def stG (x : AutV) (m : Sta) : Bool := decide (m = noS) || meS x m
noncomputable def stE (x : AutV) : Int := if autE x = 0 then srE x.k.toNat (stSt x) noS else 80
noncomputable def stV (x : AutV) : AutV := if autE x = 0 then srV x.k.toNat (stSt x) noS (stG x) else ⟨0, [], []⟩
def Stop (p : Prop) : Prop := p
theorem stop_of {p : Prop} (h : Stop p) : p := h
set_option maxRecDepth 100000 in
set_option maxHeartbeats 1600000 in
theorem starN_any (x : AutV) (A : Option Addr) (c : Nat) (B : Option Addr) (d : Nat) (gx gf : Nat) (hx : AutOk x) (m : Sta) (l : Nat) (hl : (l : Int) < x.k) (w : World) (hg : w.heap[gx]? = some (AB x A c B d)) (hf : w.heap[gf]? = some (.cells (ccS fstS) 88 (0, 0))) (hr : ARd w x A B) :
    Calls Try.prog 85 #[.agg (ccS m), .int .i64 (l : Int), .pointer (some ⟨gf, 0, none⟩), .pointer (some ⟨gx, 0, none⟩)] w fun e w' => e = .returned (.agg (ccS (stSt x m l))) ∧ Below w.heap.size w w' := by
  have HR := Aside0.mk hr
  have HG := Lib.hid hg
  have HF := Lib.hid hf
  have HX := Lib.hid hx
  have HNN := Lib.hid hx.2.2.2.1
  have h00 := ((Hp.start w).alloc (.cells (ccS m) 88)).alloc (.cells (ccS noS) 88)
  rw [World.size_alloc] at h00
  have H0 := Lib.hid h00
  have hfl : gf < w.heap.size := hp_lt hf
  have hgl : gx < w.heap.size := hp_lt hg
  have MV := Aside0.mk (fun (n : Sta) (W : World) (h : Below w.heap.size w W) => movedS_any x A c B d hx n l hl W (hr.below h))
  have ME := Aside0.mk (fun (n : Sta) (W : World) (h : Below w.heap.size w W) => meetsS_any x A c B d hx.2.2.2.1 n W (hr.below h))
  have HF0 := Lib.hid (hp_old (o := .cells (ccS noS) 88) (hp_old (o := .cells (ccS m) 88) hf))
  have hst : stSt x m l = (if meS x (fwS x (actS m) l x.acc.length) then adS (fwS x (actS m) l x.acc.length) 0 else fwS x (actS m) l x.acc.length) := rfl
  rw [hst]
  clear hst hg hf h00 hr hx
  by_cases hm : m = noS
  · have ha : actS m = fstS := by unfold actS; rw [if_pos hm]
    have hd := Lib.hid (decide_eq_true hm)
    rw [ha]
    have H1 : Hid (Hp [(w.heap.size + 1, .cells (ccS noS) 88), (w.heap.size, .cells (ccS fstS) 88)] w (((w.alloc (.cells (ccS m) 88)).alloc (.cells (ccS noS) 88)).setRow w.heap.size (ccS fstS))) := Lib.hid ⟨fun p hp => by
      simp only [List.mem_cons, List.not_mem_nil, or_false] at hp
      rcases hp with rfl | rfl
      · exact hp_row (by show w.heap.size + 1 ≠ w.heap.size; omega) (H0.out.at 0 rfl)
      · exact setRow_heap _ _ _ _ _ _ (H0.out.at 1 rfl), bl_row H0.out.2 (Nat.le_refl _) _⟩
    generalize hz : fwS x fstS l x.acc.length = z
    have HZ := Lib.hid hz
    generalize hrr : (if meS x z then adS z 0 else z) = r
    have HRR := Lib.hid hrr
    clear hm ha hz hrr
    go_enter Try.func85, Try.ntmps85
    go_wp2_with (first | ((with_reducible refine gate_alloc (t := 88) rfl ?_); refine wpl_allocS rfl rfl ?_) | ((with_reducible refine gate_build (t := 88) rfl ?_); refine wpl_buildS rfl rfl ?_) | ((with_reducible refine gate_bin (t := 88) rfl ?_); refine wpl_eqS rfl _ _ rfl m noS true hd.out rfl rfl ?_) | ((with_reducible refine gate_ld (t := 88) rfl ?_); refine wpl_rowS (cs := ccS m) rfl 88 _ rfl (w.heap.size) rfl (H0.out.at 1 rfl) rfl Try.underlying88 (by rw [ccS_size]; kernel_rfl) ?_) | ((with_reducible refine gate_ld (t := 88) rfl ?_); refine wpl_rowS (cs := ccS fstS) rfl 88 _ rfl (gf) rfl (HF0.out) rfl Try.underlying88 (by rw [ccS_size]; kernel_rfl) ?_) | ((with_reducible refine gate_st (t := 88) rfl ?_); refine wpList_store_row rfl 88 _ _ rfl (w.heap.size) (ccS fstS) rfl rfl 88 (ccS m) (H0.out.at 1 rfl) (by rw [ccS_size]; kernel_rfl) (by rw [ccS_size, ccS_size]) (ccS_all _) ?_; refine stop_of ?_))
    unfold Stop
    have H1Z := H1.out
    generalize hW0 : (((w.alloc (.cells (ccS m) 88)).alloc (.cells (ccS noS) 88)).setRow w.heap.size (ccS fstS)) = W0 at H1Z ⊢
    have HW0 := Lib.hid hW0
    have HQ := Lib.hid H1Z
    have HGW := Lib.hid (hp_below' HQ.out.2 HG.out)
    clear H1 H1Z hW0
    go_wp2_with (first | ((with_reducible refine gate_ld (t := 25) rfl ?_); refine ld_au (y := x) _ rfl gx rfl (HGW.out) rfl ?_) | ((with_reducible refine gate_ld (t := 88) rfl ?_); refine wpl_rowS (cs := ccS fstS) rfl 88 _ rfl (w.heap.size) rfl (HQ.out.at 1 rfl) rfl Try.underlying88 (by rw [ccS_size]; kernel_rfl) ?_))
    refine (MV.out fstS W0 HQ.out.2).mono ?_
    rintro e w1 ⟨rfl, hb⟩
    rw [HZ.out]
    have H2 := Lib.hid ((HQ.out.keep hb).alloc (.cells (ccS z) 88))
    have HG2 := Lib.hid (hp_below' H2.out.2 HG.out)
    have HLT : Hid (w.heap.size + 1 < w1.heap.size) := Lib.hid (hp_lt ((HQ.out.keep hb).at 0 rfl))
    clear hb HQ HGW MV HW0
    go_wp2_with (first | ((with_reducible refine gate_alloc (t := 88) rfl ?_); refine wpl_allocS rfl rfl ?_) | ((with_reducible refine gate_st (t := 88) rfl ?_); refine st_new (cs := ccS z) _ _ rfl rfl rfl rfl (by rw [ccS_size]; kernel_rfl) (by rw [ccS_size, ccS_size]) (ccS_all _) ?_) | ((with_reducible refine gate_ld (t := 25) rfl ?_); refine ld_au (y := x) _ rfl gx rfl (HG2.out) rfl ?_) | ((with_reducible refine gate_ld (t := 88) rfl ?_); refine wpl_rowS (cs := ccS z) rfl 88 _ rfl (w1.heap.size) rfl (H2.out.at 0 rfl) rfl Try.underlying88 (by rw [ccS_size]; kernel_rfl) ?_))
    refine (ME.out z _ H2.out.2).mono ?_
    rintro e w3 ⟨rfl, hb⟩
    have H3 := Lib.hid (H2.out.keep hb)
    clear hb H2 HG2 ME
    cases hme : meS x z
    · have HE : Hid (r = z) := Lib.hid (by rw [← HRR.out, hme, if_neg (by decide)])
      clear hme
      go_wp2_with (first | ((with_reducible refine gate_ld (t := 88) rfl ?_); refine wpl_rowS (cs := ccS z) rfl 88 _ rfl (w1.heap.size) rfl (H3.out.at 0 rfl) rfl Try.underlying88 (by rw [ccS_size]; kernel_rfl) ?_) | ((with_reducible refine gate_st (t := 88) rfl ?_); refine wpList_store_row rfl 88 _ _ rfl (w.heap.size + 1) (ccS z) rfl rfl 88 (ccS noS) (H3.out.at 1 rfl) (by rw [ccS_size]; kernel_rfl) (by rw [ccS_size, ccS_size]) (ccS_all _) ?_))
      refine bodyPost_ret (v := .agg (ccS z)) ?_ rfl ⟨by rw [HE.out], bl_row H3.out.2 (by omega) _⟩
      exact results_cell_row rfl _ _ (w.heap.size + 1) 88 _ _ _ rfl (setRow_heap _ _ _ _ _ _ (H3.out.at 1 rfl)) Try.underlying88 rfl (by rw [ccS_size]; kernel_rfl)
    · have HE : Hid (r = adS z 0) := Lib.hid (by rw [← HRR.out, hme, if_pos rfl])
      clear hme
      have AD := Aside0.mk (add_any z 0 (by decide) w1.heap.size w3 (H3.out.at 0 rfl))
      go_wp2_with fail
      refine AD.out.mono ?_
      rintro e w4 ⟨rfl, hw⟩
      have hl1 : w.heap.size + 1 < w1.heap.size := HLT.out
      have H4 := Lib.hid (show w4.heap[w.heap.size + 1]? = some (.cells (ccS noS) 88 (0, 0)) ∧ w4.heap[w1.heap.size]? = some (.cells (ccS (adS z 0)) 88 (0, 0)) ∧ Below w.heap.size w w4 from ⟨(hw.no _ (by omega)).trans (H3.out.at 1 rfl), hw.is, hw.bel w H3.out.2 (by omega)⟩)
      clear hw AD H3
      go_wp2_with (first | ((with_reducible refine gate_ld (t := 88) rfl ?_); refine wpl_rowS (cs := ccS (adS z 0)) rfl 88 _ rfl (w1.heap.size) rfl (H4.out.2.1) rfl Try.underlying88 (by rw [ccS_size]; kernel_rfl) ?_) | ((with_reducible refine gate_st (t := 88) rfl ?_); refine wpList_store_row rfl 88 _ _ rfl (w.heap.size + 1) (ccS (adS z 0)) rfl rfl 88 (ccS noS) (H4.out.1) (by rw [ccS_size]; kernel_rfl) (by rw [ccS_size, ccS_size]) (ccS_all _) ?_))
      refine bodyPost_ret (v := .agg (ccS (adS z 0))) ?_ rfl ⟨by rw [HE.out], bl_row H4.out.2.2 (by omega) _⟩
      exact results_cell_row rfl _ _ (w.heap.size + 1) 88 _ _ _ rfl (setRow_heap _ _ _ _ _ _ H4.out.1) Try.underlying88 rfl (by rw [ccS_size]; kernel_rfl)
  · have ha : actS m = m := by unfold actS; rw [if_neg hm]
    have hd := Lib.hid (decide_eq_false hm)
    rw [ha]
    have H1 := H0
    generalize hz : fwS x m l x.acc.length = z
    have HZ := Lib.hid hz
    generalize hrr : (if meS x z then adS z 0 else z) = r
    have HRR := Lib.hid hrr
    clear hm ha hz hrr
    go_enter Try.func85, Try.ntmps85
    go_wp2_with (first | ((with_reducible refine gate_alloc (t := 88) rfl ?_); refine wpl_allocS rfl rfl ?_) | ((with_reducible refine gate_build (t := 88) rfl ?_); refine wpl_buildS rfl rfl ?_) | ((with_reducible refine gate_bin (t := 88) rfl ?_); refine wpl_eqS rfl _ _ rfl m noS false hd.out rfl rfl ?_; refine stop_of ?_) | ((with_reducible refine gate_ld (t := 88) rfl ?_); refine wpl_rowS (cs := ccS m) rfl 88 _ rfl (w.heap.size) rfl (H0.out.at 1 rfl) rfl Try.underlying88 (by rw [ccS_size]; kernel_rfl) ?_))
    unfold Stop
    have H1Z := H1.out
    generalize hW0 : ((w.alloc (.cells (ccS m) 88)).alloc (.cells (ccS noS) 88)) = W0 at H1Z ⊢
    have HW0 := Lib.hid hW0
    have HQ := Lib.hid H1Z
    have HGW := Lib.hid (hp_below' HQ.out.2 HG.out)
    clear H1 H1Z hW0
    go_wp2_with (first | ((with_reducible refine gate_ld (t := 25) rfl ?_); refine ld_au (y := x) _ rfl gx rfl (HGW.out) rfl ?_) | ((with_reducible refine gate_ld (t := 88) rfl ?_); refine wpl_rowS (cs := ccS m) rfl 88 _ rfl (w.heap.size) rfl (HQ.out.at 1 rfl) rfl Try.underlying88 (by rw [ccS_size]; kernel_rfl) ?_))
    refine (MV.out m W0 HQ.out.2).mono ?_
    rintro e w1 ⟨rfl, hb⟩
    rw [HZ.out]
    have H2 := Lib.hid ((HQ.out.keep hb).alloc (.cells (ccS z) 88))
    have HG2 := Lib.hid (hp_below' H2.out.2 HG.out)
    have HLT : Hid (w.heap.size + 1 < w1.heap.size) := Lib.hid (hp_lt ((HQ.out.keep hb).at 0 rfl))
    clear hb HQ HGW MV HW0
    go_wp2_with (first | ((with_reducible refine gate_alloc (t := 88) rfl ?_); refine wpl_allocS rfl rfl ?_) | ((with_reducible refine gate_st (t := 88) rfl ?_); refine st_new (cs := ccS z) _ _ rfl rfl rfl rfl (by rw [ccS_size]; kernel_rfl) (by rw [ccS_size, ccS_size]) (ccS_all _) ?_) | ((with_reducible refine gate_ld (t := 25) rfl ?_); refine ld_au (y := x) _ rfl gx rfl (HG2.out) rfl ?_) | ((with_reducible refine gate_ld (t := 88) rfl ?_); refine wpl_rowS (cs := ccS z) rfl 88 _ rfl (w1.heap.size) rfl (H2.out.at 0 rfl) rfl Try.underlying88 (by rw [ccS_size]; kernel_rfl) ?_))
    refine (ME.out z _ H2.out.2).mono ?_
    rintro e w3 ⟨rfl, hb⟩
    have H3 := Lib.hid (H2.out.keep hb)
    clear hb H2 HG2 ME
    cases hme : meS x z
    · have HE : Hid (r = z) := Lib.hid (by rw [← HRR.out, hme, if_neg (by decide)])
      clear hme
      go_wp2_with (first | ((with_reducible refine gate_ld (t := 88) rfl ?_); refine wpl_rowS (cs := ccS z) rfl 88 _ rfl (w1.heap.size) rfl (H3.out.at 0 rfl) rfl Try.underlying88 (by rw [ccS_size]; kernel_rfl) ?_) | ((with_reducible refine gate_st (t := 88) rfl ?_); refine wpList_store_row rfl 88 _ _ rfl (w.heap.size + 1) (ccS z) rfl rfl 88 (ccS noS) (H3.out.at 1 rfl) (by rw [ccS_size]; kernel_rfl) (by rw [ccS_size, ccS_size]) (ccS_all _) ?_))
      refine bodyPost_ret (v := .agg (ccS z)) ?_ rfl ⟨by rw [HE.out], bl_row H3.out.2 (by omega) _⟩
      exact results_cell_row rfl _ _ (w.heap.size + 1) 88 _ _ _ rfl (setRow_heap _ _ _ _ _ _ (H3.out.at 1 rfl)) Try.underlying88 rfl (by rw [ccS_size]; kernel_rfl)
    · have HE : Hid (r = adS z 0) := Lib.hid (by rw [← HRR.out, hme, if_pos rfl])
      clear hme
      have AD := Aside0.mk (add_any z 0 (by decide) w1.heap.size w3 (H3.out.at 0 rfl))
      go_wp2_with fail
      refine AD.out.mono ?_
      rintro e w4 ⟨rfl, hw⟩
      have hl1 : w.heap.size + 1 < w1.heap.size := HLT.out
      have H4 := Lib.hid (show w4.heap[w.heap.size + 1]? = some (.cells (ccS noS) 88 (0, 0)) ∧ w4.heap[w1.heap.size]? = some (.cells (ccS (adS z 0)) 88 (0, 0)) ∧ Below w.heap.size w w4 from ⟨(hw.no _ (by omega)).trans (H3.out.at 1 rfl), hw.is, hw.bel w H3.out.2 (by omega)⟩)
      clear hw AD H3
      go_wp2_with (first | ((with_reducible refine gate_ld (t := 88) rfl ?_); refine wpl_rowS (cs := ccS (adS z 0)) rfl 88 _ rfl (w1.heap.size) rfl (H4.out.2.1) rfl Try.underlying88 (by rw [ccS_size]; kernel_rfl) ?_) | ((with_reducible refine gate_st (t := 88) rfl ?_); refine wpList_store_row rfl 88 _ _ rfl (w.heap.size + 1) (ccS (adS z 0)) rfl rfl 88 (ccS noS) (H4.out.1) (by rw [ccS_size]; kernel_rfl) (by rw [ccS_size, ccS_size]) (ccS_all _) ?_))
      refine bodyPost_ret (v := .agg (ccS (adS z 0))) ?_ rfl ⟨by rw [HE.out], bl_row H4.out.2.2 (by omega) _⟩
      exact results_cell_row rfl _ _ (w.heap.size + 1) 88 _ _ _ rfl (setRow_heap _ _ _ _ _ _ H4.out.1) Try.underlying88 rfl (by rw [ccS_size]; kernel_rfl)
set_option maxRecDepth 100000 in
set_option maxHeartbeats 800000 in
theorem starG_any (x : AutV) (A : Option Addr) (c : Nat) (B : Option Addr) (d : Nat) (gx : Nat) (hn : x.acc.length ≤ 4096) (m : Sta) (w : World) (hg : w.heap[gx]? = some (AB x A c B d)) (hr : ARd w x A B) :
    Calls Try.prog 86 #[.agg (ccS m), .pointer (some ⟨gx, 0, none⟩)] w fun e w' => e = .returned (.bool (stG x m)) ∧ Below w.heap.size w w' := by
  have H0 := Lib.hid ((Hp.start w).alloc (.cells (ccS m) 88))
  have HG := Lib.hid (hp_below' H0.out.2 hg)
  have ME := Aside0.mk (meetsS_any x A c B d hn m _ (hr.below H0.out.2))
  have hst : stG x m = (decide (m = noS) || meS x m) := rfl
  rw [hst]
  clear hst hg hr
  cases hd : decide (m = noS)
  · have HD := Lib.hid hd
    clear hd
    go_enter Try.func86, Try.ntmps86
    go_wp2_with (first | ((with_reducible refine gate_build (t := 88) rfl ?_); refine wpl_buildS rfl rfl ?_) | ((with_reducible refine gate_bin (t := 88) rfl ?_); refine wpl_eqS rfl _ _ rfl m noS false HD.out rfl rfl ?_) | ((with_reducible refine gate_ld (t := 88) rfl ?_); refine wpl_rowW (m := m) _ rfl (w.heap.size) rfl (H0.out.at 0 rfl) rfl ?_) | ((with_reducible refine gate_ld (t := 25) rfl ?_); refine ld_au (y := x) _ rfl gx rfl (HG.out) rfl ?_))
    refine ME.out.mono ?_
    rintro e w2 ⟨rfl, hb⟩
    have H2 := Lib.hid (bl_then H0.out.2 hb)
    clear hb ME H0 HG
    go_wp2
    go_ret
    exact ⟨by simp, H2.out⟩
  · have HD := Lib.hid hd
    clear hd ME
    go_enter Try.func86, Try.ntmps86
    go_wp2_with (first | ((with_reducible refine gate_build (t := 88) rfl ?_); refine wpl_buildS rfl rfl ?_) | ((with_reducible refine gate_bin (t := 88) rfl ?_); refine wpl_eqS rfl _ _ rfl m noS true HD.out rfl rfl ?_) | ((with_reducible refine gate_ld (t := 88) rfl ?_); refine wpl_rowW (m := m) _ rfl (w.heap.size) rfl (H0.out.at 0 rfl) rfl ?_))
    go_ret
    exact ⟨by simp, H0.out.2⟩
set_option maxRecDepth 100000 in
set_option maxHeartbeats 800000 in
theorem star_any (x : AutV) (A : Option Addr) (c : Nat) (B : Option Addr) (d : Nat) (w : World) (hr : ARd w x A B) :
    Calls Try.prog 44 #[.agg (ac x A c B d)] w fun e w' => ∃ vn va, e = .returned (.tuple #[.agg #[.int .i64 (stV x).k, vn, va], .int .i64 (stE x)]) ∧
      Own w' w.heap.size vn (stV x).next ∧ Kd.R Kd.bool 4 w' w.heap.size (fun _ => True) va (stV x).acc ∧ Below w.heap.size w w' := by
  have HR := Aside0.mk hr
  have h00 := ((Hp.start w).alloc (AB x A c B d)).alloc (.cells #[.int .i64 0, .slice none 0 0, .slice none 0 0] 25)
  rw [World.size_alloc] at h00
  have H0 := Lib.hid h00
  clear h00
  have CK := Aside0.mk (acheck_any x A c B d ((w.alloc (AB x A c B d)).alloc (.cells #[.int .i64 0, .slice none 0 0, .slice none 0 0] 25)) (hr.below H0.out.2))
  by_cases h0 : autE x = 0
  · have hx := autE_is h0
    have hkk : ((x.k.toNat : Nat) : Int) = x.k := by have := hx.1; omega
    have SR := fun (gf : Nat) (W : World) (hf : W.heap[gf]? = some (.cells (ccS fstS) 88 (0, 0))) (hW : W.heap[w.heap.size]? = some (AB x A c B d)) (hB : Below w.heap.size w W) => searchS_any x.k.toNat (by have := hx.1; omega) (by have := hx.2.1; omega) (stSt x) (noS) (stG x) 85 86 #[.pointer (some ⟨gf, 0, none⟩), .pointer (some ⟨w.heap.size, 0, none⟩)] #[.pointer (some ⟨w.heap.size, 0, none⟩)] W
      (fun m s hs => keyS s) (fun args W => by kernel_rfl) (fun args W => by kernel_rfl)
      (fun s m l hs hl W' hb => starN_any x A c B d w.heap.size gf hx s l (by omega) W' (hp_below' hb hW) (hp_below' hb hf) ((HR.out.below hB).below hb))
      (fun s m hs W' hb => starG_any x A c B d w.heap.size hx.2.2.2.1 s W' (hp_below' hb hW) ((HR.out.below hB).below hb))
    rw [hkk] at SR
    replace SR := Aside0.mk SR
    have hE : stE x = srE x.k.toNat (stSt x) (noS) := by unfold stE; rw [if_pos h0]
    have hV : stV x = srV x.k.toNat (stSt x) (noS) (stG x) := by unfold stV; rw [if_pos h0]
    rw [hE, hV]
    rw [h0] at CK
    have hn2 := hx.2.2.2.1
    generalize srV x.k.toNat (stSt x) (noS) (stG x) = V at *
    generalize srE x.k.toNat (stSt x) (noS) = E at *
    clear hE hV hx hr h0 hkk
    go_enter Try.func44, Try.ntmps44
    go_wp2_with (refine ld_au (y := x) _ rfl w.heap.size rfl (H0.out.at 1 rfl) rfl ?_)
    refine CK.out.mono ?_
    rintro e w1 ⟨rfl, hb⟩
    have H1 := Lib.hid (H0.out.keep hb)
    have SI : Hid (RvY x A c B d noS w1.heap.size w (w1.alloc (.cells (ccS noS) 88))) := Lib.hid ⟨hp_old (H1.out.at 1 rfl), hp_old (H1.out.at 0 rfl), hp_new rfl, bl_alloc H1.out.2 _, hp_lt (H1.out.at 0 rfl)⟩
    have AD := Aside0.mk (add_any noS 0 (by decide) w1.heap.size (w1.alloc (.cells (ccS noS) 88)) SI.out.out)
    clear hb CK H0 H1
    go_wp2_with (((with_reducible refine gate_alloc (t := 88) rfl ?_); refine wpl_allocS rfl rfl ?_))
    refine AD.out.mono ?_
    rintro e w2 ⟨rfl, hw⟩
    have H := Lib.hid (SI.out.wrote hw)
    have c0 : w2.cell? ⟨w.heap.size, 0, none⟩ = some (.int .i64 x.k) := by rw [cell_of_row _ _ _ _ _ _ H.out.box]; rfl
    have SRW := Aside0.mk (SR.out w1.heap.size w2 H.out.out H.out.box H.out.bel)
    clear SR hw AD SI
    go_wp2_with (((with_reducible refine gate_build (t := 88) rfl ?_); refine wpl_buildS rfl rfl ?_))
    refine SRW.out.mono ?_
    rintro e w3 ⟨vn, va, rfl, hn, ha, hb⟩
    obtain ⟨An, cn, rfl⟩ := Kd.R_slice hn
    obtain ⟨Aa, ca, rfl⟩ := Kd.R_slice ha
    have HS := Lib.hid (show w3.heap[w.heap.size + 1]? = some (.cells #[.int .i64 0, .slice none 0 0, .slice none 0 0] 25 (0, 0)) from hp_below' hb H.out.res)
    have HN := Aside0.mk (Kd.R_lower hn H.out.bel.size)
    have HA := Aside0.mk (Kd.R_lower ha H.out.bel.size)
    have HB := Lib.hid (bl_then H.out.bel hb)
    clear hn ha hb SRW H c0
    go_wp2_with ((with_reducible refine gate_st (t := 25) rfl ?_); refine wpList_store_row rfl 25 _ _ rfl (w.heap.size + 1) (ac V An cn Aa ca) rfl rfl 25 _ HS.out (by show _ = some 3; kernel_rfl) rfl (by simp [Value.oneCell']) ?_)
    refine bodyPost_ret (v := .tuple #[.agg (ac V An cn Aa ca), .int .i64 E]) ?_ rfl ⟨_, _, rfl, own_rowT HS.out HN.out (by decide) rfl _, own_rowT HS.out HA.out (by decide) rfl _, bl_row HB.out (by omega) _⟩
    refine (results_cell_tmp (p := 2) (t := 3) (by rfl) _ _ (w.heap.size + 1) 25 _ _ _ ?_ (setRow_heap _ _ _ _ _ _ HS.out) Try.underlying25 rfl (by show _ = some 3; kernel_rfl)).trans ?_ <;> rfl
  · have h80 : autE x = 80 := autE_no (fun h => h0 (autE_ok h))
    have hE : stE x = 80 := by unfold stE; rw [if_neg h0]
    have hV : stV x = ⟨0, [], []⟩ := by unfold stV; rw [if_neg h0]
    rw [hE, hV]
    rw [h80] at CK
    clear hE hV hr h0 h80
    go_enter Try.func44, Try.ntmps44
    go_wp2_with (refine ld_au (y := x) _ rfl w.heap.size rfl (H0.out.at 1 rfl) rfl ?_)
    refine CK.out.mono ?_
    rintro e w1 ⟨rfl, hb⟩
    have H1 := Lib.hid (H0.out.keep hb)
    have HS := Lib.hid (show w1.heap[w.heap.size + 1]? = some (.cells #[.int .i64 0, .slice none 0 0, .slice none 0 0] 25 (0, 0)) from H1.out.at 0 rfl)
    clear hb CK H0
    go_wp2_with ((with_reducible refine gate_st (t := 25) rfl ?_); refine wpList_store_row rfl 25 _ _ rfl (w.heap.size + 1) #[.int .i64 0, .slice none 0 0, .slice none 0 0] rfl rfl 25 _ HS.out (by show _ = some 3; kernel_rfl) rfl (by simp [Value.oneCell']) ?_)
    refine bodyPost_ret (v := .tuple #[.agg #[.int .i64 0, .slice none 0 0, .slice none 0 0], .int .i64 80]) ?_ rfl ⟨_, _, rfl, Kd.R_nil _ _ _ _ _, Kd.R_nil _ _ _ _ _, bl_row H1.out.2 (by omega) _⟩
    refine (results_cell_tmp (p := 2) (t := 3) (by rfl) _ _ (w.heap.size + 1) 25 _ _ _ ?_ (setRow_heap _ _ _ _ _ _ HS.out) Try.underlying25 rfl (by show _ = some 3; kernel_rfl)).trans ?_ <;> rfl
end Go.Proofs.Ytjckidjljkjhfaa
