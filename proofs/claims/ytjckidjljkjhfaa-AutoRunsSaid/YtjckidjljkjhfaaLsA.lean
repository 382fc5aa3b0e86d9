/- The walk of auto.Least. -/
import Derived.Test.YtjckidjljkjhfaaAp2
import Derived.Test.YtjckidjljkjhfaaFrom
import Derived.Test.YtjckidjljkjhfaaLst
import Derived.BigQuiet
namespace Go.Proofs.Ytjckidjljkjhfaa
open Go.RowKit Go.Proofs.YtjckidjljkjhfaaW.PrintWords
set_option linter.unusedSimpArgs false
set_option linter.unusedVariables false
/-- A word of letters as a text. -/
def encW (l : List Nat) : Value := .string (wb l)
/-- Lists of words. -/
abbrev wdK : Kd (List Nat) := Kd.scalar encW (fun _ => rfl)
theorem info_str : (Try.prog.info? 9).map (fun i => (i.zero, i.size, i.bytes)) = some (some (.string ByteArray.empty), 1, 16) := by kernel_rfl
/-- Is a state accepted? -/
abbrev gdA (x : AutV) (s : Nat) : Bool := rdOf false x.acc (s : Int)
/-- The least word. -/
def lstO (x : AutV) : Option (List Nat) := fnd x.k.toNat (stp x) 0 (gdA x) 4096
noncomputable def lstB (x : AutV) : Bool := if autE x = 0 then (lstO x).isSome else false
noncomputable def lstS (x : AutV) : ByteArray := if autE x = 0 then wb ((lstO x).getD []) else ByteArray.empty
/-- The marks of the states met. -/
def mtl (x : AutV) (k m : Nat) : List Bool := (List.range x.acc.length).map fun s => decide (s ∈ bs k (stp x) 0 m)
theorem mtl_len (x : AutV) (k m : Nat) : (mtl x k m).length = x.acc.length := by simp [mtl]
theorem mtl_get (x : AutV) (k m s : Nat) (h : s < x.acc.length) : (mtl x k m).getD s false = decide (s ∈ bs k (stp x) 0 m) := by
  simp [mtl, List.getD_eq_getElem?_getD, h]
theorem mtl_set {x : AutV} {k m m' s : Nat} (h : bs k (stp x) 0 m' = bs k (stp x) 0 m ++ [s]) : (mtl x k m).set s true = mtl x k m' := by
  apply List.ext_getElem (by simp [mtl])
  intro i h1 h2
  simp only [mtl, List.getElem_set, List.getElem_map, List.getElem_range, h, List.mem_append, List.mem_singleton]
  by_cases e : s = i
  · subst e; simp
  · rw [if_neg e]
    have : ¬ i = s := fun he => e he.symm
    simp [this]
theorem mtl_zero (x : AutV) (k : Nat) : (List.replicate x.acc.length false).set 0 true = mtl x k 0 := by
  apply List.ext_getElem (by simp [mtl])
  intro i h1 h2
  simp only [mtl, List.getElem_set, List.getElem_replicate, List.getElem_map, List.getElem_range, bs, bw, rn, List.map_cons, List.map_nil, List.foldl_nil, List.mem_singleton]
  by_cases e : 0 = i
  · subst e; simp
  · rw [if_neg e]
    have : ¬ i = 0 := fun he => e he.symm
    simp [this]
theorem mtl_keep {x : AutV} {k m m' : Nat} (h : bs k (stp x) 0 m' = bs k (stp x) 0 m) : mtl x k m' = mtl x k m := by unfold mtl; rw [h]
/-- One letter of one place's word. -/
theorem bw_step {σ : Type} [DecidableEq σ] {k : Nat} {step : σ → Nat → σ} {first : σ} {i c : Nat} {wd : List Nat} (hc : c < k) (hi : (bw k step first (i * k + c))[i]? = some wd) :
    bw k step first (i * k + (c + 1)) = if step (rn step first wd) c ∈ bs k step first (i * k + c) then bw k step first (i * k + c) else bw k step first (i * k + c) ++ [wd ++ [c]] := by
  have e1 : (i * k + c) / k = i := by rw [Nat.add_comm, Nat.add_mul_div_right _ _ (by omega), Nat.div_eq_of_lt hc, Nat.zero_add]
  have e2 : (i * k + c) % k = c := by rw [Nat.add_comm, Nat.add_mul_mod_self_right, Nat.mod_eq_of_lt hc]
  have h1 := bw_some (k := k) (step := step) (first := first) (m := i * k + c) (w := wd) (by rw [e1]; exact hi)
  rw [e2, rn_snoc] at h1
  exact h1
theorem bs_of_bw {σ : Type} [DecidableEq σ] {k : Nat} {step : σ → Nat → σ} {first : σ} {m m' : Nat} {wd : List Nat} (h : bw k step first m' = bw k step first m ++ [wd]) : bs k step first m' = bs k step first m ++ [rn step first wd] := by
  unfold bs; rw [h, List.map_append]; rfl
theorem fnd_stay {σ : Type} [DecidableEq σ] {k : Nat} {step : σ → Nat → σ} {first : σ} (hk : 0 < k) (good : σ → Bool) {n N : Nat} (h : Closed k step first n) (hn : n ≤ N) : fnd k step first good N = fnd k step first good n := by
  unfold fnd; rw [bw_stay hk (Nat.le_of_eq h) (Nat.mul_le_mul_right k hn)]
/-- Where Least stands. -/
structure LeS (x : AutV) (k : Nat) (A : Option Addr) (c : Nat) (B : Option Addr) (d : Nat) (w wr : World) (mb mc : Nat) (v u : Value) (m m2 : Nat) : Prop where
  box : wr.heap[w.heap.size]? = some (AB x A c B d)
  met : Kd.R Kd.bool 4 wr w.heap.size (fun _ => True) (.slice (some ⟨mb, 0, none⟩) x.acc.length mc) (mtl x k m2)
  lst : Kd.R natK 3 wr w.heap.size (fun _ => True) v (bs k (stp x) 0 m)
  wds : Kd.R wdK 9 wr w.heap.size (fun _ => True) u (bw k (stp x) 0 m)
  bel : Below w.heap.size w wr
  mbb : w.heap.size ≤ mb
section
variable {x : AutV} {k : Nat} {A : Option Addr} {c : Nat} {B : Option Addr} {d : Nat} {w wr : World} {mb mc : Nat} {v u : Value} {m m2 : Nat}
theorem LeS.drewN (h : LeS x k A c B d w wr mb mc v u m m2) (n : Nat) : LeS x k A c B d w (wr.drewN n) mb mc v u m m2 := ⟨h.box, Kd.R_drewN h.met n, Kd.R_drewN h.lst n, Kd.R_drewN h.wds n, bl_drewN h.bel n, h.mbb⟩
theorem LeS.drew (h : LeS x k A c B d w wr mb mc v u m m2) : LeS x k A c B d w wr.drew mb mc v u m m2 := ⟨h.box, Kd.R_drewN h.met 1, Kd.R_drewN h.lst 1, Kd.R_drewN h.wds 1, h.bel.drew, h.mbb⟩
theorem LeS.stay (h : LeS x k A c B d w wr mb mc v u m m) {m' : Nat} (hb : bw k (stp x) 0 m' = bw k (stp x) 0 m) : LeS x k A c B d w wr mb mc v u m' m' := by
  have hs : bs k (stp x) 0 m' = bs k (stp x) 0 m := by unfold bs; rw [hb]
  exact ⟨h.box, by rw [mtl_keep hs]; exact h.met, by rw [hs]; exact h.lst, by rw [hb]; exact h.wds, h.bel, h.mbb⟩
theorem LeS.mark (h : LeS x k A c B d w wr mb mc v u m m) {m' s : Nat} (hs : bs k (stp x) 0 m' = bs k (stp x) 0 m ++ [s]) : LeS x k A c B d w (wr.setCell ⟨mb, s, none⟩ (.bool true)) mb mc v u m m' := by
  have hne : mb ≠ w.heap.size := fun he => Kd.R_ne h.met h.box (by decide) (by rw [he]; rfl)
  have hp := (Kd.R_putn h.met (s : Int) true)
  rw [Int.toNat_natCast, mtl_set hs] at hp
  exact ⟨(heap_setCell_other _ _ _ _ (fun e => hne e.symm)).trans h.box, hp, own_cellS h.lst (sep_type h.lst h.met (by decide)) rfl _ _, own_cellS h.wds (sep_type h.wds h.met (by decide)) rfl _ _, bl_cell h.bel (show w.heap.size ≤ (⟨mb, s, none⟩ : Addr).block from h.mbb) _, h.mbb⟩
theorem LeS.both (h : LeS x k A c B d w wr mb mc v u m m2) {lb i : Nat} {cv v1 u1 : Value} {w1 : World} {s : Nat} {wd : List Nat} (hb : bw k (stp x) 0 m2 = bw k (stp x) 0 m ++ [wd]) (hw : rn (stp x) 0 wd = s)
    (hm : Mid encI (fun _ => rfl) 3 encW (fun _ => rfl) 9 w wr v u lb i cv v1 (bs k (stp x) 0 m ++ [s]) u1 (bw k (stp x) 0 m ++ [wd]) w1) : LeS x k A c B d w w1 mb mc v1 u1 m2 m2 := by
  have hs : bs k (stp x) 0 m2 = bs k (stp x) 0 m ++ [s] := by rw [bs_of_bw hb, hw]
  refine ⟨(hm.off.2 _ (hp_lt h.box) (Kd.R_ne h.lst h.box (by decide)) (Kd.R_ne h.wds h.box (by decide))).trans h.box, ?_, by rw [hs]; exact hm.A, by rw [hb]; exact hm.B, hm.bel, h.mbb⟩
  exact R_flat rfl (Kd.R_move (R_flat (ok' := fun k => (Value.slice (some ⟨mb, 0, none⟩) x.acc.length mc).ownBlock = some k) rfl h.met (fun k hk => hk)) (fun q hq => hm.off.2 q (Kd.R_lt h.met q hq) (fun e => sep_type h.met h.lst (by decide) q hq e.symm) (fun e => sep_type h.met h.wds (by decide) q hq e.symm))) h.met.1
end
theorem conv_rune (w : World) (c : Nat) (h : c < 8) : (convert 21 9 (.int .i32 (97 + c))).run Try.prog w = .ok (.string ⟨#[UInt8.ofNat (97 + c)]⟩) w := by
  have hc : c = 0 ∨ c = 1 ∨ c = 2 ∨ c = 3 ∨ c = 4 ∨ c = 5 ∨ c = 6 ∨ c = 7 := by omega
  simp only [convert, Sem.run_bind, run_underlying Try.underlying21, run_underlying Try.underlying9, Result.andThen_ok, Conv.intToString]
  rcases hc with rfl | rfl | rfl | rfl | rfl | rfl | rfl | rfl <;> rfl
set_option maxRecDepth 100000 in
set_option maxHeartbeats 1600000 in
theorem least_any (x : AutV) (A : Option Addr) (c : Nat) (B : Option Addr) (d : Nat) (w : World) (hr : ARd w x A B) :
    Calls Try.prog 22 #[.agg (ac x A c B d)] w fun e w' => e = .returned (.tuple #[.string (lstS x), .bool (lstB x), .int .i64 (autE x)]) ∧ Below w.heap.size w w' := by
  have HR := Aside0.mk hr
  have h00 := (Hp.start w).alloc (AB x A c B d)
  have H0 := Lib.hid h00
  clear h00
  have CK := Aside0.mk (acheck_any x A c B d (w.alloc (AB x A c B d)) (hr.below H0.out.2))
  by_cases h0 : autE x = 0
  · have hx := autE_is h0
    have HX := Lib.hid hx
    have eS : lstS x = wb ((lstO x).getD []) := by unfold lstS; rw [if_pos h0]
    have eB : lstB x = (lstO x).isSome := by unfold lstB; rw [if_pos h0]
    rw [eS, eB]
    rw [h0] at CK ⊢
    obtain ⟨hk1, hk2, hn1, hn2, hnl, hn6⟩ := hx
    obtain ⟨k, hk⟩ : ∃ k : Nat, x.k = (k : Int) := Int.eq_ofNat_of_zero_le (by omega)
    have HK := Lib.hid hk
    have hkn : x.k.toNat = k := by omega
    have HKN := Lib.hid hkn
    clear eS eB h0 hr hnl hkn hn6
    go_enter Try.func22, Try.ntmps22
    go_wp2_with (refine ld_au _ rfl w.heap.size rfl (H0.out.at 0 rfl) rfl ?_)
    refine CK.out.mono ?_
    rintro e w1 ⟨rfl, hb⟩
    have H1 := Lib.hid (H0.out.keep hb)
    clear hb CK H0
    have c2 : w1.cell? ⟨w.heap.size, 2, none⟩ = some (.slice B x.acc.length d) := by rw [cell_of_row _ _ _ _ _ _ (H1.out.at 0 rfl)]; rfl
    go_wp2_with (refine Kd.R_make Kd.bool (w0 := w) w.heap.size 4 rfl rfl 23 _ _ rfl (x.acc.length : Int) rfl rfl Try.underlying23 (.bool false) 1 info_bool rfl (by decide) (by decide) false (ok := fun _ => True) (okp := fun _ => False) rfl (fun _ h => h.elim) trivial (by omega) (by omega) H1.out.2 H1.out.2.size ?_)
    rintro v1 w2 hm hb hg b0 hb1 hb2
    obtain ⟨mb, mc, rfl, hmb, hmbs, hmcell⟩ := own_form false hm (by rw [List.length_replicate]; omega)
    obtain ⟨q1, q2⟩ := hmcell 0 (by rw [List.length_replicate]; omega)
    have hput := (Kd.R_put hm 0 true).1
    rw [Int.toNat_zero, mtl_zero x k] at hput
    have hmt : (List.replicate x.acc.length false).length = x.acc.length := by simp
    rw [hmt] at hput
    have hlen : (List.replicate x.acc.length false).length = x.acc.length := by simp
    have HPT := Lib.hid hput
    have hbx : w2.heap[w.heap.size]? = some (AB x A c B d) := (hg.block _ (hp_lt (H1.out.at 0 rfl)) (by simp)).trans (H1.out.at 0 rfl)
    have hmne : mb ≠ w.heap.size := fun he => by
      have := Kd.R_ne hm hbx (by decide)
      exact this (by rw [he]; rfl)
    have HBX := Lib.hid (show (w2.setCell ⟨mb, 0, none⟩ (.bool true)).heap[w.heap.size]? = some (AB x A c B d) from (heap_setCell_other _ _ _ _ (fun e => hmne e.symm)).trans hbx)
    have HBL := Lib.hid (bl_cell hb (show w.heap.size ≤ (⟨mb, 0, none⟩ : Addr).block from hmb) (.bool true))
    have q3 : ((0 : Int) < ((List.replicate x.acc.length false).length : Int)) := by rw [hlen]; omega
    rw [hlen]
    clear hput hg hb hm hmcell hbx hmne c2 H1 hb1 hb2 b0
    go_wp2
    have hz3 : (w2.setCell ⟨mb, 0, none⟩ (.bool true)).heap.size = w2.heap.size := by simp
    have HZ3 := Lib.hid hz3
    clear hz3
    generalize w2.setCell ⟨mb, 0, none⟩ (.bool true) = w3 at *
    have SI : Hid (LeS x k A c B d w ((w3.alloc (.cells #[.int .i64 0] 3)).alloc (.cells #[.string ByteArray.empty] 9)) mb mc (.slice (some ⟨w3.heap.size, 0, none⟩) 1 1) (.slice (some ⟨w3.heap.size + 1, 0, none⟩) 1 1) (0 * k) (0 * k)) := by
      rw [Nat.zero_mul]
      have e0 : bs k (stp x) 0 0 = [0] := rfl
      have e1 : bw k (stp x) 0 0 = [[]] := rfl
      have g1 := World.grownBy_alloc w3 (.cells #[.int .i64 0] 3) none
      have g2 := World.grownBy_alloc (w3.alloc (.cells #[.int .i64 0] 3)) (.cells #[.string ByteArray.empty] 9) none
      refine ⟨hp_old (hp_old HBX.out), Kd.R_grown (Kd.R_grown HPT.out g1 (fun _ _ => by simp)) g2 (fun _ _ => by simp), ?_, ?_, bl_alloc (bl_alloc HBL.out _) _, hmb⟩
      · rw [e0]
        refine Kd.R_of_own ⟨by simp [encs], .inr ⟨w3.heap.size, 1, _, rfl, HBL.out.size, hp_old (hp_new rfl), Nat.le_refl _, by unfold maxLen; omega, rfl, rfl⟩⟩ (fun _ _ => trivial)
      · rw [e1]
        refine Kd.R_of_own ⟨by simp [encs], .inr ⟨w3.heap.size + 1, 1, _, rfl, by have := HBL.out.size; omega, by rw [← World.size_alloc w3 (.cells #[.int .i64 0] 3)]; exact hp_new rfl, Nat.le_refl _, by unfold maxLen; omega, rfl, rfl⟩⟩ (fun _ _ => trivial)
    rw [HZ3.out] at SI
    have hk0 : 0 < k := by omega
    have HD : Hid (∀ m, ∀ s ∈ bs k (stp x) 0 m, s < x.acc.length) := Lib.hid (fun m => bs_all hk0 (fun s => s < x.acc.length) (by omega) (fun s c hs hc => (stp_lt HX.out hs (by omega)).1) m)
    have HLN : Hid (∀ m, (bs k (stp x) 0 m).length ≤ x.acc.length) := Lib.hid (fun m => nodup_le (bs_nodup m) (HD.out m))
    have HFE : Hid (∀ n, Closed k (stp x) 0 n → lstO x = fnd k (stp x) 0 (gdA x) n) := Lib.hid (fun n hn => by
      unfold lstO
      rw [HKN.out]
      refine fnd_stay hk0 _ hn ?_
      have h1 := HLN.out (n * k)
      rw [bs_len, hn] at h1
      omega)
    clear HBX HPT HBL hmb hmbs q1 q2 q3 hmt hlen
    go_loopw [7, 8, 9] (fun v u i wr => ∃ q : Nat, i = .int .i64 q ∧ Hid (q ≤ (bs k (stp x) 0 (q * k)).length) ∧ Hid (∀ j, j < q → ∀ s, (bs k (stp x) 0 (q * k))[j]? = some s → gdA x s = false) ∧ Hid (LeS x k A c B d w wr mb mc v u (q * k) (q * k))) (fun _ _ i _ => 4097 - (intOf i).toNat)
    case atStart => exact ⟨0, rfl, Lib.hid (Nat.zero_le _), Lib.hid (fun j hj => absurd hj (Nat.not_lt_zero j)), SI⟩
    case round =>
      obtain ⟨i, rfl, HQ, HN, H⟩ := hrel
      have hq := HQ.out
      have hql := HLN.out (i * k)
      obtain ⟨lb, lc, rfl, hlb, hlbs, hlcell⟩ := own_form (0 : Nat) H.out.lst (by rw [bs_len]; exact bw_len_pos _)
      obtain ⟨ub, uc, rfl, hub, hubs, hucell⟩ := own_form ([] : List Nat) H.out.wds (bw_len_pos _)
      by_cases hil : i < (bs k (stp x) 0 (i * k)).length
      · have hil2 : i < (bw k (stp x) 0 (i * k)).length := by rw [← bs_len]; exact hil
        obtain ⟨wd, hwd⟩ : ∃ wd, (bw k (stp x) 0 (i * k))[i]? = some wd := ⟨_, List.getElem?_eq_getElem hil2⟩
        obtain ⟨s, hs⟩ : ∃ s, s = rn (stp x) 0 wd := ⟨_, rfl⟩
        have hbs : (bs k (stp x) 0 (i * k))[i]? = some s := by rw [bs_get, hwd, hs]; rfl
        have hsd := HD.out _ s (List.mem_of_getElem? hbs)
        have cl1 := (hlcell i hil).1
        rw [List.getD_eq_getElem?_getD, hbs] at cl1
        replace cl1 : wr.cell? ⟨lb, i, none⟩ = some (.int .i64 (s : Int)) := cl1
        have cu1 := (hucell i hil2).1
        rw [List.getD_eq_getElem?_getD, hwd] at cu1
        replace cu1 : wr.cell? ⟨ub, i, none⟩ = some (.string (wb wd)) := cu1
        have c2 : wr.cell? ⟨w.heap.size, 2, none⟩ = some (.slice B x.acc.length d) := by rw [cell_of_row _ _ _ _ _ _ H.out.box]; rfl
        obtain ⟨ad, hB, hcell⟩ := Kd.at_bool (HR.out.below H.out.bel).acc (s : Int) (by omega) (by omega)
        rw [Int.toNat_natCast] at hcell
        obtain ⟨b, hb⟩ : ∃ b, b = gdA x s := ⟨_, rfl⟩
        replace hcell : wr.cell? (ad.add s) = some (.bool b) := by rw [hb]; exact hcell
        have HWD := Lib.hid hwd; have HS := Lib.hid hs; have HBS := Lib.hid hbs; have HBB := Lib.hid hb
        have hull : (bw k (stp x) 0 (i * k)).length = (bs k (stp x) 0 (i * k)).length := (bs_len _).symm
        rw [hull] at hil2 ⊢
        have HANS : Hid (b = false ∨ lstO x = some wd) := Lib.hid (by
          by_cases hbf : b = false
          · exact .inl hbf
          have hbt : b = true := by simpa using hbf
          right
          obtain ⟨n, _, hn⟩ := closed_of HLN.out
          rw [HFE.out n hn]
          refine fnd_at hk0 hn (m := i * k) hwd (by rw [← hs, ← hb]; exact hbt) (fun j hj u hu => HN.out j hj _ ?_)
          rw [bs_get, hu]; rfl)
        clear hwd hs hbs hb hlcell hucell
        generalize hL : (bs k (stp x) 0 (i * k)).length = L at *
        have HL := Lib.hid hL
        clear hL
        subst hB
        cases b
        · have c0 : wr.cell? ⟨w.heap.size, 0, none⟩ = some (.int .i64 (k : Int)) := by rw [cell_of_row _ _ _ _ _ _ H.out.box, ← HK.out]; rfl
          go_wp2
          go_quiet (fail)
          have G := Lib.hid (H.out.drewN nq)
          go_wp2
          generalize wr.drewN nq = w5 at *
          rw [hull] at G
          clear c0 c2 cl1 cu1 hcell H
          go_loopw [7, 8, 45] (fun v u l wi => ∃ c' : Nat, c' ≤ k ∧ l = .int .i64 c' ∧ Hid (LeS x k A c (some ad) d w wi mb mc v u (i * k + c') (i * k + c'))) (fun _ _ l _ => k - (intOf l).toNat)
          case atStart => exact ⟨0, by omega, rfl, G⟩
          case round =>
            obtain ⟨c', hc, rfl, G⟩ := hrel
            by_cases hck : c' < k
            · have hwq : (bw k (stp x) 0 (i * k + c'))[i]? = some wd := bw_keep (Nat.le_add_right _ _) HWD.out
              have hsq : (bs k (stp x) 0 (i * k + c'))[i]? = some s := bs_keep (Nat.le_add_right _ _) HBS.out
              have hll := HLN.out (i * k + c')
              have hbl2 : (bs k (stp x) 0 (i * k + c')).length = (bw k (stp x) 0 (i * k + c')).length := bs_len _
              obtain ⟨lb2, lc2, rfl, hlb2, hlbs2, hlcell2⟩ := own_form (0 : Nat) G.out.lst (by rw [bs_len]; exact bw_len_pos _)
              obtain ⟨ub2, uc2, rfl, hub2, hubs2, hucell2⟩ := own_form ([] : List Nat) G.out.wds (bw_len_pos _)
              have hi2 := (List.getElem?_eq_some_iff.1 hsq).1
              have hi3 := (List.getElem?_eq_some_iff.1 hwq).1
              have cl1 := (hlcell2 i hi2).1
              rw [List.getD_eq_getElem?_getD, hsq] at cl1
              replace cl1 : wr.cell? ⟨lb2, i, none⟩ = some (.int .i64 (s : Int)) := cl1
              have cu1 := (hucell2 i hi3).1
              rw [List.getD_eq_getElem?_getD, hwq] at cu1
              replace cu1 : wr.cell? ⟨ub2, i, none⟩ = some (.string (wb wd)) := cu1
              have c0 : wr.cell? ⟨w.heap.size, 0, none⟩ = some (.int .i64 (k : Int)) := by rw [cell_of_row _ _ _ _ _ _ G.out.box, ← HK.out]; rfl
              have c1 : wr.cell? ⟨w.heap.size, 1, none⟩ = some (.slice A x.next.length c) := by rw [cell_of_row _ _ _ _ _ _ G.out.box]; rfl
              have hck3 : (c' : Int) < x.k := by omega
              obtain ⟨z1, z2⟩ := stp_lt HX.out hsd hck3
              have hix := stp_idx HX.out hsd hck3
              have hxl : x.next.length ≤ 32768 := by
                have h1 := aut_mul hk1 hk2 hn2
                have h2 := HX.out.2.2.2.2.1
                omega
              obtain ⟨ad2, hA, hcell⟩ := Kd.at_int (HR.out.below G.out.bel).next ((s * x.k.toNat + c' : Nat) : Int) (by omega) (by omega)
              rw [Int.toNat_natCast, z2] at hcell
              rw [HKN.out] at hcell hix
              obtain ⟨t, ht⟩ : ∃ t, t = stp x s c' := ⟨_, rfl⟩
              rw [← ht] at hcell z1
              have hml : (mtl x k (i * k + c')).length = x.acc.length := mtl_len _ _ _
              obtain ⟨hm1, hm2⟩ := Kd.R_celln false G.out.met (t : Int) (by omega) (by omega)
              unfold rdOf at hm1
              rw [Int.toNat_natCast, mtl_get x k _ t z1] at hm1
              rw [Int.toNat_natCast] at hm2
              have htw : stp x (rn (stp x) 0 wd) c' = t := by rw [ht, ← HS.out]
              have hbwn := bw_step (step := stp x) hck hwq
              rw [htw] at hbwn
              have hmul : (s : Int) * (k : Int) = ((s * k : Nat) : Int) := by push_cast; rfl
              have hP : s * k ≤ 40960 := by
                have : s * k ≤ 4096 * 10 := Nat.mul_le_mul (by omega) (by omega)
                omega
              have HMUL := Lib.hid hmul
              have htw2 : stp x (rn (stp x) 0 wd) c' = t := htw
              clear hmul ht htw hlcell2 hucell2 hsq hck3 z2 hml
              generalize s * k = p at *
              subst hA
              have hw5 : IntKind.i64.wrap ((s : Int) * (k : Int)) = (p : Int) := by rw [HMUL.out]; exact IntWalk.i64_in _ ⟨by omega, by omega⟩
              have hw11 : IntKind.i64.wrap ((p : Int) + (c' : Int)) = (p : Int) + (c' : Int) := IntWalk.i64_in _ ⟨by omega, by omega⟩
              have hw12 : 0 ≤ (p : Int) + (c' : Int) := by omega
              have hw14 : (p : Int) + (c' : Int) < (x.next.length : Int) := by omega
              have hw13 : ((p : Int) + (c' : Int)).toNat = p + c' := by omega
              by_cases hm : t ∈ bs k (stp x) 0 (i * k + c')
              · rw [decide_eq_true hm] at hm1
                rw [if_pos hm] at hbwn
                have G2 := Lib.hid (G.out.stay hbwn)
                clear hbwn hm hwq
                go_wp2
                go_quiet (fail)
                go_wp2
                go_roundw
                case rel => exact ⟨c' + 1, by omega, by go_num, Lib.hid (G2.out.drewN _)⟩
                case measure => simp [intOf]; omega
              · rw [decide_eq_false hm] at hm1
                rw [if_neg hm] at hbwn
                have HTW : Hid (rn (stp x) 0 (wd ++ [c']) = t) := Lib.hid (by rw [rn_snoc]; exact htw2)
                have hbsn := bs_of_bw hbwn
                rw [HTW.out] at hbsn
                have HBW := Lib.hid hbwn; have HBN := Lib.hid hbsn
                have hlbw : (bw k (stp x) 0 (i * k + c')).length ≤ 4096 := by omega
                clear hm hwq hbwn hbsn htw2 hbl2
                go_wp2
                go_quiet (fail)
                have G2 := Lib.hid (G.out.drewN nq)
                go_wp2
                have G3 := Lib.hid (G2.out.mark HBN.out)
                have cu2 : ((wr.drewN nq).setCell ⟨mb, t, none⟩ (.bool true)).cell? ⟨ub2, i, none⟩ = some (.string (wb wd)) := by
                  rw [World.cell?_setCell_other]
                  · exact cu1
                  · intro e
                    injection e with e _
                    exact sep_type G2.out.wds G2.out.met (by decide) ub2 rfl (by rw [← e]; rfl)
                clear G G2 c0 c1 cl1 cu1 hcell hm1 hm2
                generalize (wr.drewN nq).setCell ⟨mb, t, none⟩ (.bool true) = w6 at *
                have G4 := Lib.hid G3.out.drew
                have CU := Lib.hid cu2
                have hw97 : IntKind.i64.wrap (97 + (c' : Int)) = 97 + (c' : Int) := IntWalk.i64_in _ ⟨by omega, by omega⟩
                have hw98 : IntKind.i32.wrap (97 + (c' : Int)) = 97 + (c' : Int) := by
                  have := (show c' = 0 ∨ c' = 1 ∨ c' = 2 ∨ c' = 3 ∨ c' = 4 ∨ c' = 5 ∨ c' = 6 ∨ c' = 7 by omega)
                  rcases this with rfl | rfl | rfl | rfl | rfl | rfl | rfl | rfl <;> rfl
                refine wp_region_held_drew (S := fun w' => w'.cell? ⟨ub2, i, none⟩ = some (.string (wb wd))) (by kernel_rfl) cu2 (fun hS => ?_)
                refine any_take (i := 0) (v := ?v3) rfl (by kernel_rfl) (by kernel_rfl) (by kernel_rfl) (fun _ _ _ h => h) hS (.inl ⟨by rfl, ?y3⟩) ?_
                case y3 => (intro w' h'; go_simp; with_reducible rfl)
                (try simp only [Act.put, List.setIfInBounds_toArray, List.set_cons_zero, List.set_cons_succ])
                refine any_take (i := 1) (v := ?v4) rfl (by kernel_rfl) (by kernel_rfl) (by kernel_rfl) (fun _ _ _ h => h) hS (.inl ⟨by rfl, ?y4⟩) ?_
                case y4 => (intro w' h'; go_simp; with_reducible rfl)
                (try simp only [Act.put, List.setIfInBounds_toArray, List.set_cons_zero, List.set_cons_succ])
                refine any_take (i := 4) (v := ?v5) rfl (by kernel_rfl) (by kernel_rfl) (by kernel_rfl) (fun _ _ _ h => h) hS (.inl ⟨by rfl, ?y5⟩) ?_
                case y5 => (intro w' h'; go_simp; with_reducible rfl)
                (try simp only [Act.put, List.setIfInBounds_toArray, List.set_cons_zero, List.set_cons_succ])
                refine any_take (i := 5) (v := ?v6) rfl (by kernel_rfl) (by kernel_rfl) (by kernel_rfl) (fun _ _ _ h => h) hS (.inl ⟨by rfl, ?y6⟩) ?_
                case y6 => (intro w' h'; go_simp; with_reducible rfl)
                (try simp only [Act.put, List.setIfInBounds_toArray, List.set_cons_zero, List.set_cons_succ])
                refine any_take (i := 6) (v := ?v7) rfl (by kernel_rfl) (by kernel_rfl) (by kernel_rfl) (fun _ _ _ h => h) hS (.inl ⟨by rfl, ?y7⟩) ?_
                case y7 => (intro w' h'; go_simp; with_reducible rfl)
                (try simp only [Act.put, List.setIfInBounds_toArray, List.set_cons_zero, List.set_cons_succ])
                refine any_take (i := 7) (v := ?v8) rfl (by kernel_rfl) (by kernel_rfl) (by kernel_rfl) (fun _ _ _ h => h) hS (.inl ⟨by rfl, ?y8⟩) ?_
                case y8 => (intro w' h'; go_simp; with_reducible rfl)
                (try simp only [Act.put, List.setIfInBounds_toArray, List.set_cons_zero, List.set_cons_succ])
                refine any_take (i := 8) (v := (.string (wb wd))) rfl (by kernel_rfl) (by kernel_rfl) (by kernel_rfl) (fun _ _ _ h => h) hS (yi_cell _ _ rfl (by rfl) ⟨ub2, i, none⟩ rfl _ Try.underlying9 rfl (fun w' h' => h')) ?_
                (try simp only [Act.put, List.setIfInBounds_toArray, List.set_cons_zero, List.set_cons_succ])
                refine any_take (i := 9) (v := ?v11) rfl (by kernel_rfl) (by kernel_rfl) (by kernel_rfl) (fun _ _ _ h => h) hS (.inl ⟨by rfl, ?y11⟩) ?_
                case y11 => (intro w' h'; go_simp; with_reducible rfl)
                (try simp only [Act.put, List.setIfInBounds_toArray, List.set_cons_zero, List.set_cons_succ])
                refine any_take (i := 10) (v := (.int .i64 (97 + (c' : Int)))) rfl (by kernel_rfl) (by kernel_rfl) (by kernel_rfl) (fun _ _ _ h => h) hS (yi_val (by rfl) (fun w' h' => ?y12)) ?_
                case y12 => first | rfl | (go_simp; done) | (go_simp; omega)
                (try simp only [Act.put, List.setIfInBounds_toArray, List.set_cons_zero, List.set_cons_succ])
                refine any_take (i := 11) (v := (.int .i32 (97 + (c' : Int)))) rfl (by kernel_rfl) (by kernel_rfl) (by kernel_rfl) (fun _ _ _ h => h) hS (yi_val (by rfl) (fun w' h' => ?y13)) ?_
                case y13 => first | rfl | (go_simp; done) | (go_simp; omega)
                (try simp only [Act.put, List.setIfInBounds_toArray, List.set_cons_zero, List.set_cons_succ])
                refine any_take (i := 12) (v := .string ⟨#[UInt8.ofNat (97 + c')]⟩) rfl (by kernel_rfl) (by kernel_rfl) (by kernel_rfl) (fun _ _ _ h => h) hS (yi_val (by rfl) (fun w' h' => ?y12)) ?_
                case y12 =>
                  unfold execOp
                  simp only [Sem.run_bind]
                  have := conv_rune w' c' (by omega)
                  exact (congrArg (fun r => Result.andThen r _) this).trans rfl
                (try simp only [Act.put, List.setIfInBounds_toArray, List.set_cons_zero, List.set_cons_succ])
                have hws : (wb wd).size ≤ 4096 := by
                  rw [wb_size]
                  have := bw_short hk0 HWD.out
                  omega
                refine any_take (i := 13) (v := (.string (wb wd ++ ⟨#[UInt8.ofNat (97 + c')]⟩))) rfl (by kernel_rfl) (by kernel_rfl) (by kernel_rfl) (fun _ _ _ h => h) hS (yi_val (by rfl) (fun w' h' => ?y15)) ?_
                case y15 => first | rfl | (go_simp; done) | (go_simp; omega)
                (try simp only [Act.put, List.setIfInBounds_toArray, List.set_cons_zero, List.set_cons_succ])
                rw [← wb_snoc]
                have hlbl : (bs k (stp x) 0 (i * k + c')).length ≤ 4096 := by omega
                refine any_apps2 (i1 := 2) (i2 := 3) (j1 := 14) (j2 := 15) (n1 := 71) (n2 := 72) (n3 := 83) (n4 := 84) (w0 := w) (lb := ub2) (i := i) (cv := .string (wb wd)) (encA := encI) (e1A := fun _ => rfl) (encB := encW) (e1B := fun _ => rfl) (eA := 3) (eB := 9)
                  (v := .slice (some ⟨lb2, 0, none⟩) (bs k (stp x) 0 (i * k + c')).length lc2) (u := .slice (some ⟨ub2, 0, none⟩) (bw k (stp x) 0 (i * k + c')).length uc2) (xs := bs k (stp x) 0 (i * k + c')) (ys := bw k (stp x) 0 (i * k + c'))
                  rfl rfl rfl rfl rfl rfl rfl rfl rfl rfl rfl rfl (by decide) (by decide) (by decide) (by decide) (by decide) (by decide) (by decide) (by decide) (by decide) (by decide) (show 71 < 86 by decide) (show 83 < 86 by decide)
                  (by kernel_rfl) (by kernel_rfl) (by kernel_rfl) (by kernel_rfl) (by kernel_rfl) (by kernel_rfl)
                  22 (.int .i64 0) 8 72 (.string ByteArray.empty) 16 rfl rfl rfl rfl (by simp) (by simp) (by simp) (by simp) (by simp) (by simp) (by simp) (by simp) (by simp) (by simp)
                  Try.underlying22 info_int rfl (by decide) Try.underlying72 info_str rfl (by decide) (by decide) t (wd ++ [c']) rfl rfl rfl rfl rfl rfl rfl ?lt (by omega) (by omega) (by omega) G4.out.lst G4.out.wds G4.out.bel hS (fun v1 u1 w7 p1 q1 hmid => ?fin)
                case lt => exact World.block_lt_of_cell? _ _ hS
                case fin =>
                  (try simp only [Act.put, List.setIfInBounds_toArray, List.set_cons_zero, List.set_cons_succ])
                  refine any_take (i := 16) (v := ?v19) rfl (by kernel_rfl) (by kernel_rfl) (by kernel_rfl) (fun _ _ _ h => h) hmid.cell (.inl ⟨by rfl, ?y19⟩) ?_
                  case y19 => (intro w' h'; go_simp; with_reducible rfl)
                  (try simp only [Act.put, List.setIfInBounds_toArray, List.set_cons_zero, List.set_cons_succ])
                  refine any_take (i := 17) (v := ?v20) rfl (by kernel_rfl) (by kernel_rfl) (by kernel_rfl) (fun _ _ _ h => h) hmid.cell (.inl ⟨by rfl, ?y20⟩) ?_
                  case y20 => (intro w' h'; go_simp; with_reducible rfl)
                  (try simp only [Act.put, List.setIfInBounds_toArray, List.set_cons_zero, List.set_cons_succ])
                  refine wpAnyH_done (by kernel_rfl) ?_ _
                  have G5 := Lib.hid (G4.out.both HBW.out HTW.out hmid)
                  clear hmid hS cu2
                  go_wp2
                  go_roundw
                  case rel => exact ⟨c' + 1, by omega, by go_num, G5⟩
                  case measure => simp [intOf]; omega
            · have hce : c' = k := by omega
              have hmm : i * k + c' = (i + 1) * k := by rw [Nat.succ_mul, hce]
              have hle : (bs k (stp x) 0 (i * k)).length ≤ (bs k (stp x) 0 ((i + 1) * k)).length := by
                rw [bs_len, bs_len]; exact bw_le (Nat.mul_le_mul_right k (Nat.le_succ i))
              have HQ2 : Hid (i + 1 ≤ (bs k (stp x) 0 ((i + 1) * k)).length) := Lib.hid (by have := HL.out; omega)
              have HN2 : Hid (∀ j, j < i + 1 → ∀ s, (bs k (stp x) 0 ((i + 1) * k))[j]? = some s → gdA x s = false) := Lib.hid (by
                intro j hj s' hs'
                by_cases hji : j < i
                · have hjl : j < (bs k (stp x) 0 (i * k)).length := by have := HL.out; omega
                  have h1 := bs_keep (k := k) (step := stp x) (first := 0) (Nat.mul_le_mul_right k (Nat.le_succ i)) (List.getElem?_eq_getElem hjl)
                  have h2 := hs'.symm.trans h1
                  injection h2 with h2
                  rw [h2]
                  exact HN.out j hji _ (List.getElem?_eq_getElem hjl)
                · obtain rfl : j = i := by omega
                  have h1 := bs_keep (k := k) (step := stp x) (first := 0) (Nat.mul_le_mul_right k (Nat.le_succ j)) HBS.out
                  have h2 := hs'.symm.trans h1
                  injection h2 with h2
                  rw [h2]
                  exact HBB.out.symm)
              rw [hmm] at G
              have HLT : Hid (i < 4096) := Lib.hid (by omega)
              clear hle
              go_wp2
              go_roundw
              case rel => exact ⟨i + 1, by go_num, HQ2, HN2, G⟩
              case measure => have := HLT.out; simp [intOf]; omega
        · go_wp2
          go_quiet (fail)
          go_wp2
          go_ret3
          rcases HANS.out with hh | hh
          · cases hh
          · exact ⟨by rw [hh]; rfl, bl_drewN H.out.bel _⟩
      · have hcl : Closed k (stp x) 0 i := by unfold Closed; rw [← bs_len]; omega
        have hno : lstO x = none := by
          rw [HFE.out i hcl]
          refine fnd_end hcl (fun j hj u hu => HN.out j hj _ ?_)
          rw [bs_get, hu]; rfl
        have HNO := Lib.hid hno
        clear hno hcl hlcell hucell
        go_wp2
        go_ret3
        exact ⟨by rw [HNO.out]; rfl, H.out.bel⟩
  · have h80 : autE x = 80 := autE_no (fun h => h0 (autE_ok h))
    have eS : lstS x = ByteArray.empty := by unfold lstS; rw [if_neg h0]
    have eB : lstB x = false := by unfold lstB; rw [if_neg h0]
    rw [eS, eB]
    rw [h80] at CK ⊢
    clear eS eB h0 h80 hr
    go_enter Try.func22, Try.ntmps22
    go_wp2_with (refine ld_au _ rfl w.heap.size rfl (H0.out.at 0 rfl) rfl ?_)
    refine CK.out.mono ?_
    rintro e w1 ⟨rfl, hb⟩
    have H1 := Lib.hid (H0.out.keep hb)
    clear hb CK H0
    go_wp2
    go_ret3
    exact ⟨rfl, H1.out.2⟩
end Go.Proofs.Ytjckidjljkjhfaa
