/- The walk of auto.Reverse. -/
import Derived.Test.YtjckidjljkjhfaaRvW
import Derived.Test.YtjckidjljkjhfaaSrSt
namespace Go.Proofs.Ytjckidjljkjhfaa
open Go.RowKit Go.Proofs.YtjckidjljkjhfaaW.PrintWords
set_option linter.unusedSimpArgs false
set_option linter.unusedVariables false
/-- The accepted states. -/
def accS (x : AutV) : Nat → Sta
  | 0 => noS
  | n + 1 => if rdOf false x.acc (n : Int) then adS (accS x n) n else accS x n
theorem accS_bit (x : AutV) (i : Nat) : ∀ n, n ≤ 4096 → (accS x n).getLsbD i = (decide (i < n) && rdOf false x.acc (i : Int))
  | 0, _ => by rw [show accS x 0 = noS from rfl, noS_bit]; simp
  | n + 1, h => by
    have ih := accS_bit x i n (by omega)
    rw [accS]
    by_cases e : i = n
    · subst e
      by_cases hm : rdOf false x.acc (i : Int)
      · rw [if_pos hm, adS_bit, hm]; simp; omega
      · rw [if_neg hm, ih]; simp [hm]
    · have h1 : (decide (i < n + 1)) = decide (i < n) := by
        by_cases hl : i < n
        · simp [hl]; omega
        · simp [hl]; omega
      split
      · rw [adS_bit, ih, h1, decide_eq_false (fun h => e h.symm : ¬ n = i)]; simp
      · rw [ih, h1]
def rvSt (x : AutV) (m : Sta) (l : Nat) : Sta := rvS x m l x.acc.length
def rvG (m : Sta) : Bool := m.getLsbD 0
noncomputable def rvE (x : AutV) : Int := if autE x = 0 then srE x.k.toNat (rvSt x) (accS x x.acc.length) else 80
noncomputable def rvV (x : AutV) : AutV := if autE x = 0 then srV x.k.toNat (rvSt x) (accS x x.acc.length) rvG else ⟨0, [], []⟩
/-- Where Reverse stands. -/
structure RvY (x : AutV) (A : Option Addr) (c : Nat) (B : Option Addr) (d : Nat) (o : Sta) (gs : Nat) (w wr : World) : Prop where
  box : wr.heap[w.heap.size]? = some (AB x A c B d)
  res : wr.heap[w.heap.size + 1]? = some (.cells #[.int .i64 0, .slice none 0 0, .slice none 0 0] 25 (0, 0))
  out : wr.heap[gs]? = some (.cells (ccS o) 88 (0, 0))
  bel : Below w.heap.size w wr
  gsb : w.heap.size + 1 < gs
theorem RvY.wrote {x : AutV} {A : Option Addr} {c : Nat} {B : Option Addr} {d : Nat} {o o2 : Sta} {gs : Nat} {w wr w2 : World} (h : RvY x A c B d o gs w wr) (hw : Wrote wr gs (ccS o2) w2) : RvY x A c B d o2 gs w w2 :=
  have := h.gsb
  ⟨(hw.no _ (by omega)).trans h.box, (hw.no _ (by omega)).trans h.res, hw.is, hw.bel w h.bel (by omega), h.gsb⟩
set_option maxRecDepth 100000 in
set_option maxHeartbeats 800000 in
theorem reverse_any (x : AutV) (A : Option Addr) (c : Nat) (B : Option Addr) (d : Nat) (w : World) (hr : ARd w x A B) :
    Calls Try.prog 43 #[.agg (ac x A c B d)] w fun e w' => ∃ vn va, e = .returned (.tuple #[.agg #[.int .i64 (rvV x).k, vn, va], .int .i64 (rvE x)]) ∧
      Own w' w.heap.size vn (rvV x).next ∧ Kd.R Kd.bool 4 w' w.heap.size (fun _ => True) va (rvV x).acc ∧ Below w.heap.size w w' := by
  have HR := Aside0.mk hr
  have h00 := ((Hp.start w).alloc (AB x A c B d)).alloc (.cells #[.int .i64 0, .slice none 0 0, .slice none 0 0] 25)
  rw [World.size_alloc] at h00
  have H0 := Lib.hid h00
  clear h00
  have CK := Aside0.mk (acheck_any x A c B d ((w.alloc (AB x A c B d)).alloc (.cells #[.int .i64 0, .slice none 0 0, .slice none 0 0] 25)) (hr.below H0.out.2))
  by_cases h0 : autE x = 0
  · have hx := autE_is h0
    have hkk : ((x.k.toNat : Nat) : Int) = x.k := by have := hx.1; omega
    have SR := fun (W : World) (hW : W.heap[w.heap.size]? = some (AB x A c B d)) (hB : Below w.heap.size w W) => searchS_any x.k.toNat (by have := hx.1; omega) (by have := hx.2.1; omega) (rvSt x) (accS x x.acc.length) rvG 82 84 #[.pointer (some ⟨w.heap.size, 0, none⟩)] #[] W
      (fun m s hs => keyS s) (fun args W => by kernel_rfl) (fun args W => by kernel_rfl)
      (fun s m l hs hl W' hb => revN_any x A c B d w.heap.size hx s l (by omega) W' (hp_below' hb hW) ((HR.out.below hB).below hb))
      (fun s m hs W' hb => revG_any s W')
    rw [hkk] at SR
    replace SR := Aside0.mk SR
    have hE : rvE x = srE x.k.toNat (rvSt x) (accS x x.acc.length) := by unfold rvE; rw [if_pos h0]
    have hV : rvV x = srV x.k.toNat (rvSt x) (accS x x.acc.length) rvG := by unfold rvV; rw [if_pos h0]
    rw [hE, hV]
    rw [h0] at CK
    have hn2 := hx.2.2.2.1
    generalize srV x.k.toNat (rvSt x) (accS x x.acc.length) rvG = V at *
    generalize srE x.k.toNat (rvSt x) (accS x x.acc.length) = E at *
    clear hE hV hx hr h0 hkk
    go_enter Try.func43, Try.ntmps43
    go_wp2_with (refine ld_au (y := x) _ rfl w.heap.size rfl (H0.out.at 1 rfl) rfl ?_)
    refine CK.out.mono ?_
    rintro e w1 ⟨rfl, hb⟩
    have H1 := Lib.hid (H0.out.keep hb)
    have SI : Hid (RvY x A c B d noS w1.heap.size w (w1.alloc (.cells (ccS noS) 88))) := Lib.hid ⟨hp_old (H1.out.at 1 rfl), hp_old (H1.out.at 0 rfl), hp_new rfl, bl_alloc H1.out.2 _, hp_lt (H1.out.at 0 rfl)⟩
    have c2 : (w1.alloc (.cells (ccS noS) 88)).cell? ⟨w.heap.size, 2, none⟩ = some (.slice B x.acc.length d) := by rw [cell_of_row _ _ _ _ _ _ SI.out.box]; rfl
    clear hb CK H0 H1
    go_wp2_with ((with_reducible refine gate_alloc (t := 88) rfl ?_); refine wpl_allocS rfl rfl ?_)
    clear c2
    generalize w1.heap.size = gs at *
    generalize w1.alloc (.cells (ccS noS) 88) = w2 at *
    go_loopw [17] (fun i wr => ∃ q : Nat, q ≤ x.acc.length ∧ i = .int .i64 q ∧ Hid (RvY x A c B d (accS x q) gs w wr)) (fun i _ => x.acc.length - (intOf i).toNat)
    case atStart => exact ⟨0, by omega, rfl, SI⟩
    case round =>
      obtain ⟨i, hi, rfl, H⟩ := hrel
      clear SI
      by_cases hil : i < x.acc.length
      · obtain ⟨ad, hB, cA⟩ := Kd.at_bool (HR.out.below H.out.bel).acc (i : Int) (by omega) (by omega)
        rw [Int.toNat_natCast] at cA
        have hnx : accS x (i + 1) = if rdOf false x.acc (i : Int) then adS (accS x i) i else accS x i := rfl
        generalize rdOf false x.acc (i : Int) = b at *
        subst hB
        cases b
        · rw [if_neg (by decide)] at hnx
          rw [← hnx] at H
          clear hnx
          go_wp2
          go_roundw
          case rel => exact ⟨i + 1, by omega, by go_num, H⟩
          case measure => simp [intOf]; omega
        · rw [if_pos rfl] at hnx
          have AD := Aside0.mk (add_any (accS x i) i (by omega) gs wr H.out.out)
          go_wp2_with fail
          refine AD.out.mono ?_
          rintro e w3 ⟨rfl, hw⟩
          have H3 := Lib.hid (H.out.wrote hw)
          rw [← hnx] at H3
          clear hw AD H hnx
          go_wp2
          go_roundw
          case rel => exact ⟨i + 1, by omega, by go_num, H3⟩
          case measure => simp [intOf]; omega
      · have hie : i = x.acc.length := by omega
        rw [hie] at H
        have c0 : wr.cell? ⟨w.heap.size, 0, none⟩ = some (.int .i64 x.k) := by rw [cell_of_row _ _ _ _ _ _ H.out.box]; rfl
        have SRW := Aside0.mk (SR.out wr H.out.box H.out.bel)
        clear hie SR
        go_wp2_with ((with_reducible refine gate_ld (t := 88) rfl ?_); refine wpl_rowS (cs := ccS (accS x x.acc.length)) rfl 88 _ rfl gs rfl H.out.out rfl Try.underlying88 (by rw [ccS_size]; kernel_rfl) ?_)
        refine SRW.out.mono ?_
        rintro e w3 ⟨vn, va, rfl, hn, ha, hb⟩
        obtain ⟨An, cn, rfl⟩ := Kd.R_slice hn
        obtain ⟨Aa, ca, rfl⟩ := Kd.R_slice ha
        have HS := Lib.hid (show w3.heap[w.heap.size + 1]? = some (.cells #[.int .i64 0, .slice none 0 0, .slice none 0 0] 25 (0, 0)) from hp_below' hb H.out.res)
        have HN := Aside0.mk (Kd.R_lower hn H.out.bel.size)
        have HA := Aside0.mk (Kd.R_lower ha H.out.bel.size)
        have HB := Lib.hid (bl_then H.out.bel hb)
        clear hn ha hb SRW H c0
        go_wp2_with ((with_reducible refine gate_st (t := 25) rfl ?_); refine wpList_store_row rfl 25 _ _ rfl (w.heap.size + 1) (ac V An cn Aa ca) rfl rfl 25 _ HS.out (by show _ = some 3; kernel_rfl) rfl (by simp [Value.oneCell']) ?_)
        refine bodyPost_ret (v := .tuple #[.agg (ac V An cn Aa ca), .int .i64 E]) ?_ rfl ⟨_, _, rfl, own_rowT HS.out HN.out (by decide) rfl _, own_rowT HS.out HA.out (by decide) rfl _, bl_row HB.out (by omega) _⟩
        refine (results_cell_tmp (p := 2) (t := 3) (by rfl) _ _ (w.heap.size + 1) 25 _ _ _ ?_ (setRow_heap _ _ _ _ _ _ HS.out) Try.underlying25 rfl (by show _ = some 3; kernel_rfl)).trans ?_ <;> rfl
  · have h80 : autE x = 80 := autE_no (fun h => h0 (autE_ok h))
    have hE : rvE x = 80 := by unfold rvE; rw [if_neg h0]
    have hV : rvV x = ⟨0, [], []⟩ := by unfold rvV; rw [if_neg h0]
    rw [hE, hV]
    rw [h80] at CK
    clear hE hV hr h0 h80
    go_enter Try.func43, Try.ntmps43
    go_wp2_with (refine ld_au (y := x) _ rfl w.heap.size rfl (H0.out.at 1 rfl) rfl ?_)
    refine CK.out.mono ?_
    rintro e w1 ⟨rfl, hb⟩
    have H1 := Lib.hid (H0.out.keep hb)
    have HS := Lib.hid (show w1.heap[w.heap.size + 1]? = some (.cells #[.int .i64 0, .slice none 0 0, .slice none 0 0] 25 (0, 0)) from H1.out.at 0 rfl)
    clear hb CK H0
    go_wp2_with ((with_reducible refine gate_st (t := 25) rfl ?_); refine wpList_store_row rfl 25 _ _ rfl (w.heap.size + 1) #[.int .i64 0, .slice none 0 0, .slice none 0 0] rfl rfl 25 _ HS.out (by show _ = some 3; kernel_rfl) rfl (by simp [Value.oneCell']) ?_)
    refine bodyPost_ret (v := .tuple #[.agg #[.int .i64 0, .slice none 0 0, .slice none 0 0], .int .i64 80]) ?_ rfl ⟨_, _, rfl, Kd.R_nil _ _ _ _ _, Kd.R_nil _ _ _ _ _, bl_row H1.out.2 (by omega) _⟩
    refine (results_cell_tmp (p := 2) (t := 3) (by rfl) _ _ (w.heap.size + 1) 25 _ _ _ ?_ (setRow_heap _ _ _ _ _ _ HS.out) Try.underlying25 rfl (by show _ = some 3; kernel_rfl)).trans ?_ <;> rfl
end Go.Proofs.Ytjckidjljkjhfaa
