/- Merged by tools/merge2.py out of: XMoo XSam XIsM XIsE (a claim bears 60 files at most). -/
import Derived.Test.YtjedippbjjedlaaA2
import Derived.Test.YtjedippbjjedlaaB1
import Derived.BigQuiet
import Derived.Test.YtjedippbjjedlaaA3
namespace Go.Proofs.Ytjedippbjjedlaa
open Go.RowKit Go.Proofs.YtjedippbjjedlaaW.PrintWords
set_option linter.unusedVariables false
theorem cls_step (x : AutV) (k : Nat) : cls x (k + 1) = rnd x (cls x k) := by
  unfold cls
  rw [itr_succ]
  split
  · rename_i h; exact h.symm
  · rfl
theorem krf_iff {α : Type} [DecidableEq α] (f : Nat → α) (s t : Nat) : krf f s = krf f t ↔ f s = f t := by
  obtain ⟨h1, h2, h3⟩ := krf_spec f s
  obtain ⟨g1, g2, g3⟩ := krf_spec f t
  constructor
  · intro e; rw [← h2, ← g2, e]
  · intro e
    rcases Nat.lt_trichotomy (krf f s) (krf f t) with h | h | h
    · exact absurd (h2.trans e) (g3 _ h)
    · exact h
    · exact absurd (g2.trans e.symm) (h3 _ h)
theorem rnd_iff (x : AutV) (l : List Nat) {s t : Nat} (hs : s < l.length) (ht : t < l.length) : (rnd x l).getD s 0 = (rnd x l).getD t 0 ↔ sgn x l s = sgn x l t := by
  rw [rnd_getD _ _ _ hs, rnd_getD _ _ _ ht]; exact krf_iff _ _ _
theorem sgn_iff2 {x : AutV} (hk : x.k ≤ 8) (L : List Nat) (s t : Nat) : sgn x L s = sgn x L t ↔ L.getD s 0 = L.getD t 0 ∧ ∀ c, c < mK x → L.getD (stp x s c) 0 = L.getD (stp x t c) 0 := by
  unfold mK
  constructor
  · intro e
    refine ⟨sgn_head e, fun i hi => ?_⟩
    have e2 := (List.cons.inj e).2
    have := congrArg (fun l : List Nat => l[i]?) e2
    simpa [show i < 8 by omega, hi, show (i : Int) < x.k by omega] using this
  · rintro ⟨e1, e2⟩
    unfold sgn
    rw [e1]
    congr 1
    apply List.map_congr_left
    intro i hi
    by_cases hik : i < x.k.toNat
    · rw [if_pos hik, if_pos hik]; exact e2 i hik
    · rw [if_neg hik, if_neg hik]
/-- Is a state accepted? -/
abbrev acN (x : AutV) (s : Nat) : Bool := rdOf false x.acc (s : Int)
theorem kr_iff (l : List Nat) (s t : Nat) : kr l s = kr l t ↔ l.getD s 0 = l.getD t 0 := by
  obtain ⟨h1, h2, h3⟩ := kr_spec l s
  obtain ⟨g1, g2, g3⟩ := kr_spec l t
  constructor
  · intro e; rw [← h2, ← g2, e]
  · intro e
    rcases Nat.lt_trichotomy (kr l s) (kr l t) with h | h | h
    · exact absurd (h2.trans e) (g3 _ h)
    · exact h
    · exact absurd (g2.trans e.symm) (h3 _ h)
theorem cls_zero_iff (x : AutV) {s t : Nat} (hs : s < x.acc.length) (ht : t < x.acc.length) : (cls x 0).getD s 0 = (cls x 0).getD t 0 ↔ acN x s = acN x t := by
  have hg : ∀ i, i < x.acc.length → (cls x 0).getD i 0 = kr (st0 x) i := fun i hi => by
    show (krl (st0 x)).getD i 0 = _
    simp [krl, List.getD_eq_getElem?_getD, st0_len, hi]
  have hv : ∀ i, i < x.acc.length → (st0 x).getD i 0 = if acN x i then 1 else 0 := fun i hi => by
    simp [st0, acN, rdOf, List.getD_eq_getElem?_getD, hi]
  rw [hg s hs, hg t ht, kr_iff, hv s hs, hv t ht]
  cases acN x s <;> cases acN x t <;> simp
/-- Steps stay inside. -/
def StpIn (x : AutV) : Prop := ∀ s c, s < x.acc.length → c < mK x → stp x s c < x.acc.length
theorem AutOk.stpIn {x : AutV} (h : AutOk x) : StpIn x := fun s c hs hc => (stp_lt h hs (by have := h.1; unfold mK at hc; omega)).1
theorem rn_in {x : AutV} (h : StpIn x) : ∀ (w : List Nat) (s : Nat), s < x.acc.length → (∀ c ∈ w, c < mK x) → rn (stp x) s w < x.acc.length
  | [], s, hs, _ => hs
  | c :: r, s, hs, hw => rn_in h r (stp x s c) (h s c hs (hw c List.mem_cons_self)) (fun d hd => hw d (List.mem_cons_of_mem _ hd))
theorem cls_iff {x : AutV} (hk : x.k ≤ 8) (h : StpIn x) : ∀ (k : Nat) {s t : Nat}, s < x.acc.length → t < x.acc.length →
    ((cls x k).getD s 0 = (cls x k).getD t 0 ↔ ∀ w : List Nat, w.length ≤ k → (∀ c ∈ w, c < mK x) → acN x (rn (stp x) s w) = acN x (rn (stp x) t w))
  | 0, s, t, hs, ht => by
    rw [cls_zero_iff x hs ht]
    constructor
    · intro e w hw _
      obtain rfl : w = [] := List.length_eq_zero_iff.1 (by omega)
      exact e
    · intro e; exact e [] (Nat.le_refl _) (fun _ h => by cases h)
  | k + 1, s, t, hs, ht => by
    rw [cls_step, rnd_iff x _ (by rw [(cls_cls x k).len]; exact hs) (by rw [(cls_cls x k).len]; exact ht), sgn_iff2 hk, cls_iff hk h k hs ht]
    constructor
    · rintro ⟨e1, e2⟩ w hw hc
      match w, hw, hc with
      | [], _, _ => exact e1 [] (Nat.zero_le _) (fun _ h => by cases h)
      | c :: r, hw, hc =>
        have hck := hc c List.mem_cons_self
        exact (cls_iff hk h k (h s c hs hck) (h t c ht hck)).1 (e2 c hck) r (by simpa using hw) (fun d hd => hc d (List.mem_cons_of_mem _ hd))
    · intro e
      refine ⟨fun w hw hc => e w (by omega) hc, fun c hc => (cls_iff hk h k (h s c hs hc) (h t c ht hc)).2 fun w hw hcw => ?_⟩
      exact e (c :: w) (by simpa using hw) (fun d hd => by
        rcases List.mem_cons.1 hd with rfl | hd
        · exact hc
        · exact hcw d hd)
/-- While rounds part, the classes grow in number. -/
theorem reps_grow (x : AutV) : ∀ k, rnd x (cls x k) ≠ cls x k → (reps x.acc.length (cls x 0)).length + k + 1 ≤ (reps x.acc.length (cls x (k + 1))).length
  | 0, h => by
    have := (cls_cls x 0).more x h
    rw [cls_step]; omega
  | k + 1, h => by
    have h1 := (cls_cls x (k + 1)).more x h
    have h2 : rnd x (cls x k) ≠ cls x k := fun e => h (by rw [cls_step, e, e])
    have := reps_grow x k h2
    rw [cls_step x (k + 1)]; omega
theorem cls_stop {x : AutV} {k : Nat} (h : rnd x (cls x k) = cls x k) (j : Nat) (hj : k ≤ j) : cls x j = cls x k := by
  have := itr_stop x (krl (st0 x)) k h (j - k)
  rw [show k + (j - k) = j by omega] at this
  exact this
/-- Where there is more than one state, nothing parts any more after two rounds fewer than there are states. -/
theorem cls_last (x : AutV) (hk : x.k ≤ 8) (hs : StpIn x) (hn : 1 ≤ x.acc.length) : rnd x (cls x (x.acc.length - 2)) = cls x (x.acc.length - 2) := by
  apply Classical.byContradiction
  intro hne
  have hg := reps_grow x _ hne
  have hle := reps_le x.acc.length (cls x (x.acc.length - 2 + 1))
  have h0 : 0 ∈ reps x.acc.length (cls x 0) := List.mem_filter.2 ⟨List.mem_range.2 (by omega), by have := (cls_cls x 0).le 0 (by omega); exact beq_iff_eq.2 (by omega)⟩
  have hp : 1 ≤ (reps x.acc.length (cls x 0)).length := List.length_pos_of_mem h0
  by_cases h1 : x.acc.length = 1
  · omega
  · have e1 : (reps x.acc.length (cls x 0)).length = 1 := by omega
    -- one class alone: nothing parts
    obtain ⟨r, hr⟩ := List.length_eq_one_iff.1 e1
    have hz : ∀ t, t < x.acc.length → (cls x 0).getD t 0 = 0 := fun t ht => by
      have hm : (cls x 0).getD t 0 ∈ reps x.acc.length (cls x 0) := List.mem_filter.2 ⟨List.mem_range.2 (Nat.lt_of_le_of_lt ((cls_cls x 0).le t ht) ht), by have := (cls_cls x 0).own t ht; simpa using this⟩
      rw [hr] at hm h0
      simp only [List.mem_singleton] at hm h0
      omega
    have hst : rnd x (cls x 0) = cls x 0 := by
      refine (cls_cls x 0).same x fun t ht htr => ?_
      rw [hz t ht]
      rw [rnd_getD _ _ _ (by rw [(cls_cls x 0).len]; exact ht)] at htr
      have : krf (sgn x (cls x 0)) t = krf (sgn x (cls x 0)) 0 := (krf_iff _ _ _).2 ((sgn_iff2 hk _ _ _).2 ⟨by rw [hz t ht, hz 0 (by omega)], fun c hc => by rw [hz _ (hs t c ht hc), hz _ (hs 0 c (by omega) hc)]⟩)
      have h00 := (krf_spec (sgn x (cls x 0)) 0).1
      omega
    exact hne (by rw [cls_stop hst _ (Nat.zero_le _)]; exact hst)
/-- The classes: no word at all tells two states apart; a word that does is not needed longer than two letters fewer than there are states. -/
theorem mcl_iff {x : AutV} (h : AutOk x) {s t : Nat} (hs : s < x.acc.length) (ht : t < x.acc.length) : (mcl x).getD s 0 = (mcl x).getD t 0 ↔ ∀ w : List Nat, (∀ c ∈ w, c < mK x) → acN x (rn (stp x) s w) = acN x (rn (stp x) t w) := by
  have hst := cls_last x h.2.1 h.stpIn h.2.2.1
  have e : mcl x = cls x (x.acc.length - 2) := cls_stop hst _ (by omega)
  rw [e]
  constructor
  · intro hc w hw
    have h2 : (cls x (x.acc.length - 2 + w.length)).getD s 0 = (cls x (x.acc.length - 2 + w.length)).getD t 0 := by rw [cls_stop hst _ (by omega)]; exact hc
    exact (cls_iff h.2.1 h.stpIn _ hs ht).1 h2 w (by omega) hw
  · intro hw
    exact (cls_iff h.2.1 h.stpIn _ hs ht).2 fun w _ hc => hw w hc
end Go.Proofs.Ytjedippbjjedlaa

namespace Go.Proofs.Ytjedippbjjedlaa
open Go.RowKit Go.Proofs.YtjedippbjjedlaaW.PrintWords
set_option linter.unusedSimpArgs false
set_option linter.unusedVariables false
theorem blist_eq {l m : List Bool} (hl : l.length = m.length) (h : ∀ k : Nat, k < l.length → rdOf false l k = rdOf false m k) : l = m := by
  apply List.ext_getElem hl
  intro i h1 h2
  have := h i h1
  simp only [rdOf, Int.toNat_natCast, List.getD_eq_getElem?_getD, List.getElem?_eq_getElem h1, List.getElem?_eq_getElem h2] at this
  exact this
theorem blist_ne {l m : List Bool} {k : Nat} (h : rdOf false l k ≠ rdOf false m k) : l ≠ m := by
  rintro rfl; exact h rfl
/-- One value. -/
def sameV (x y : AutV) : Bool := decide (x.k = y.k ∧ x.next = y.next ∧ x.acc = y.acc)
set_option maxRecDepth 100000 in
set_option maxHeartbeats 1600000 in
theorem samea_any (x y : AutV) (A : Option Addr) (c : Nat) (B : Option Addr) (d : Nat) (X : Option Addr) (xc : Nat) (Y : Option Addr) (yc : Nat) (w : World) (hr : ARd w x A B) (hr' : ARd w y X Y) :
    Calls Try.prog 29 #[.agg (ac x A c B d), .agg (ac y X xc Y yc)] w fun e w' => e = .returned (.bool (sameV x y)) ∧ Below w.heap.size w w' := by
  have HR := Aside0.mk hr; have HR' := Aside0.mk hr'
  have hm1 := Kd.C_max hr.acc
  have H0 := Lib.hid (((Hp.start w).alloc (AB x A c B d)).alloc (AB y X xc Y yc))
  rw [World.size_alloc] at H0
  have SM := Aside0.mk (same_any A c x.next X xc y.next _ (Kd.C_below hr.next H0.out.2) (Kd.C_below hr'.next H0.out.2))
  have e0 := Lib.hid (H0.out.at 1 rfl); have e1 := Lib.hid (H0.out.at 0 rfl)
  have c00 : ((w.alloc (AB x A c B d)).alloc (AB y X xc Y yc)).cell? ⟨w.heap.size, 0, none⟩ = some (.int .i64 x.k) := by rw [cell_of_row _ _ _ _ _ _ e0.out]; rfl
  have c01 : ((w.alloc (AB x A c B d)).alloc (AB y X xc Y yc)).cell? ⟨w.heap.size, 1, none⟩ = some (.slice A x.next.length c) := by rw [cell_of_row _ _ _ _ _ _ e0.out]; rfl
  have c10 : ((w.alloc (AB x A c B d)).alloc (AB y X xc Y yc)).cell? ⟨w.heap.size + 1, 0, none⟩ = some (.int .i64 y.k) := by rw [cell_of_row _ _ _ _ _ _ e1.out]; rfl
  have c11 : ((w.alloc (AB x A c B d)).alloc (AB y X xc Y yc)).cell? ⟨w.heap.size + 1, 1, none⟩ = some (.slice X y.next.length xc) := by rw [cell_of_row _ _ _ _ _ _ e1.out]; rfl
  clear hr hr'
  by_cases h1 : x.k = y.k
  · have hb1 : (x.k != y.k) = false := by rw [bne_eq_false_iff_eq]; exact h1
    by_cases h2 : x.next = y.next
    · rw [decide_eq_true h2] at SM
      by_cases h3 : x.acc.length = y.acc.length
      · have HY : Hid ((∀ k : Nat, k < x.acc.length → rdOf false x.acc k = rdOf false y.acc k) → sameV x y = true) := Lib.hid (fun h => decide_eq_true ⟨h1, h2, blist_eq h3 h⟩)
        have HN : Hid (∀ k : Nat, rdOf false x.acc k ≠ rdOf false y.acc k → sameV x y = false) := Lib.hid (fun k h => decide_eq_false (fun hh => blist_ne h hh.2.2))
        have H3 := Lib.hid h3
        have hb3 : ((x.acc.length : Int) != (y.acc.length : Int)) = false := by rw [bne_eq_false_iff_eq]; omega
        have hb4 : (x.acc.length != y.acc.length) = false := by rw [bne_eq_false_iff_eq]; omega
        generalize sameV x y = b at *
        clear h1 h2 h3
        go_enter Try.func29, Try.ntmps29
        go_wp2_with fail
        refine SM.out.mono ?_
        rintro e w1 ⟨rfl, hb⟩
        have H1 := Lib.hid (H0.out.keep hb)
        have d02 : w1.cell? ⟨w.heap.size, 2, none⟩ = some (.slice B x.acc.length d) := by rw [cell_of_row _ _ _ _ _ _ (H1.out.at 1 rfl)]; rfl
        have d12 : w1.cell? ⟨w.heap.size + 1, 2, none⟩ = some (.slice Y y.acc.length yc) := by rw [cell_of_row _ _ _ _ _ _ (H1.out.at 0 rfl)]; rfl
        clear hb SM c00 c01 c10 c11 e0 e1 H0
        go_wp2
        clear d02 d12
        go_loopw [5] (fun i wr => ∃ k : Nat, k ≤ x.acc.length ∧ i = .int .i64 k ∧ Hid (∀ j : Nat, j < k → rdOf false x.acc j = rdOf false y.acc j) ∧ Hid (Hp [(w.heap.size + 1, AB y X xc Y yc), (w.heap.size, AB x A c B d)] w wr)) (fun i _ => x.acc.length - (intOf i).toNat)
        case atStart => exact ⟨0, by omega, rfl, Lib.hid (fun j hj => absurd hj (by omega)), H1⟩
        case round =>
          obtain ⟨k, hk, rfl, HF, H⟩ := hrel
          have d02 : wr.cell? ⟨w.heap.size, 2, none⟩ = some (.slice B x.acc.length d) := by rw [cell_of_row _ _ _ _ _ _ (H.out.at 1 rfl)]; rfl
          have d12 : wr.cell? ⟨w.heap.size + 1, 2, none⟩ = some (.slice Y y.acc.length yc) := by rw [cell_of_row _ _ _ _ _ _ (H.out.at 0 rfl)]; rfl
          by_cases hkl : k < x.acc.length
          · have hkm : k < y.acc.length := by have := H3.out; omega
            obtain ⟨a1, hA1, k1⟩ := Kd.at_bool (Kd.C_below HR.out.acc H.out.2) (k : Int) (by omega) (by omega)
            obtain ⟨a2, hA2, k2⟩ := Kd.at_bool (Kd.C_below HR'.out.acc H.out.2) (k : Int) (by omega) (by omega)
            rw [Int.toNat_natCast] at k1 k2
            by_cases he : rdOf false x.acc (k : Int) = rdOf false y.acc (k : Int)
            · have HF2 : Hid (∀ j : Nat, j < k + 1 → rdOf false x.acc j = rdOf false y.acc j) := Lib.hid (fun j hj => by
                by_cases hjk : j = k
                · subst hjk; exact he
                · exact HF.out j (by omega))
              rw [← he] at k2
              have hbb : (rdOf false x.acc (k : Int) != rdOf false x.acc (k : Int)) = false := by simp
              clear he
              generalize rdOf false x.acc (k : Int) = p at *
              subst hA1; subst hA2
              go_wp2
              go_quiet (fail)
              go_wp2
              go_roundw
              case rel => exact ⟨k + 1, by omega, by go_num, HF2, Lib.hid (H.out.drewN _)⟩
              case measure => simp [intOf]; omega
            · have HE := Lib.hid (HN.out k he)
              have hbb : (rdOf false x.acc (k : Int) != rdOf false y.acc (k : Int)) = true := by rw [bne_iff_ne]; exact he
              have hb2 : (rdOf false x.acc (k : Int) == rdOf false y.acc (k : Int)) = false := by rw [beq_eq_false_iff_ne]; exact he
              clear he
              generalize rdOf false x.acc (k : Int) = p at *
              generalize rdOf false y.acc (k : Int) = q at *
              subst hA1; subst hA2
              go_wp2
              go_quiet (fail)
              go_wp2
              go_ret
              exact ⟨by rw [HE.out]; rfl, bl_drewN H.out.2 _⟩
          · have hk2 : k = x.acc.length := by omega
            subst hk2
            have HE := Lib.hid (HY.out HF.out)
            go_wp2
            go_ret
            exact ⟨by rw [HE.out]; rfl, H.out.2⟩
      · have HE : Hid (sameV x y = false) := Lib.hid (decide_eq_false (fun hh => h3 (by rw [hh.2.2])))
        have hb3 : ((x.acc.length : Int) != (y.acc.length : Int)) = true := by rw [bne_iff_ne]; omega
        have hb4 : (x.acc.length != y.acc.length) = true := by rw [bne_iff_ne]; omega
        rw [HE.out]
        clear h1 h2 h3
        go_enter Try.func29, Try.ntmps29
        go_wp2_with fail
        refine SM.out.mono ?_
        rintro e w1 ⟨rfl, hb⟩
        have H1 := Lib.hid (H0.out.keep hb)
        have d02 : w1.cell? ⟨w.heap.size, 2, none⟩ = some (.slice B x.acc.length d) := by rw [cell_of_row _ _ _ _ _ _ (H1.out.at 1 rfl)]; rfl
        have d12 : w1.cell? ⟨w.heap.size + 1, 2, none⟩ = some (.slice Y y.acc.length yc) := by rw [cell_of_row _ _ _ _ _ _ (H1.out.at 0 rfl)]; rfl
        clear hb SM c00 c01 c10 c11 e0 e1 H0
        go_wp2
        go_ret
        exact ⟨rfl, H1.out.2⟩
    · rw [decide_eq_false h2] at SM
      have HE : Hid (sameV x y = false) := Lib.hid (decide_eq_false (fun hh => h2 hh.2.1))
      rw [HE.out]
      clear h1 h2
      go_enter Try.func29, Try.ntmps29
      go_wp2_with fail
      refine SM.out.mono ?_
      rintro e w1 ⟨rfl, hb⟩
      have H1 := Lib.hid (H0.out.keep hb)
      clear hb SM c00 c01 c10 c11 e0 e1 H0
      go_wp2
      go_ret
      exact ⟨rfl, H1.out.2⟩
  · have hb1 : (x.k != y.k) = true := by rw [bne_iff_ne]; exact h1
    have HE : Hid (sameV x y = false) := Lib.hid (decide_eq_false (fun hh => h1 hh.1))
    rw [HE.out]
    clear h1 SM
    go_enter Try.func29, Try.ntmps29
    go_wp2
    go_ret
    exact ⟨rfl, H0.out.2⟩
end Go.Proofs.Ytjedippbjjedlaa

namespace Go.Proofs.Ytjedippbjjedlaa
open Go.RowKit Go.Proofs.YtjedippbjjedlaaW.PrintWords
set_option linter.unusedSimpArgs false
set_option linter.unusedVariables false
/-- Is it the same value as its minimal automaton? -/
noncomputable def isV (x : AutV) : Bool := decide (autE x = 0) && sameV x (mAut x)
theorem mAut_next_len {x : AutV} (h : AutOk x) : ((mAut x).next.length : Int) = ((mAut x).acc.length : Int) * x.k := by
  obtain ⟨h1, h2⟩ := closed_at (mK_pos h) (mbs_le h)
  have hn := nx_len (k := mK x) (step := mst x) (first := mfi x) (n := (mL x).length) (m := (mL x).length * mK x) (Nat.le_of_eq (show (mL x).length = (bw (mK x) (mst x) (mfi x) ((mL x).length * mK x)).length from h1.symm)) (Nat.le_refl _)
  have e : (mnx x ((mL x).length * mK x)).length = (mL x).length * mK x := hn
  show ((zl (mnx x ((mL x).length * mK x))).length : Int) = (((mL x).map _).length : Int) * x.k
  rw [zl_len, e, List.length_map]
  unfold mK
  have := h.1
  obtain ⟨kk, hkk⟩ := Int.eq_ofNat_of_zero_le (show 0 ≤ x.k by omega)
  rw [hkk, Int.toNat_natCast]; push_cast; rfl
set_option maxRecDepth 100000 in
set_option maxHeartbeats 1600000 in
theorem is_any (x : AutV) (A : Option Addr) (c : Nat) (B : Option Addr) (d : Nat) (hx : AutOk x) (w : World) (hr : ARd w x A B) :
    Calls Try.prog 27 #[.agg (ac x A c B d)] w fun e w' => e = .returned (.tuple #[.bool (isV x), .int .i64 0]) ∧ Below w.heap.size w w' := by
  have HR := Aside0.mk hr
  have hm1 := Kd.C_max hr.acc
  have H0 := Lib.hid ((Hp.start w).alloc (AB x A c B d))
  have MN := Aside0.mk (minimal_any x A c B d hx (w.alloc (AB x A c B d)) (hr.below H0.out.2))
  have hml := mAut_next_len hx
  have hnl := hx.2.2.2.2.1
  have eis : isV x = sameV x (mAut x) := by unfold isV; rw [autE_ok hx]; rfl
  have h4 := hx.2.2.2.1
  rw [eis]
  clear hr hx eis
  have hmk : (mAut x).k = x.k := rfl
  obtain ⟨N, hN⟩ : ∃ N, N = (mAut x).next := ⟨_, rfl⟩
  obtain ⟨Ac, hAc⟩ : ∃ Ac, Ac = (mAut x).acc := ⟨_, rfl⟩
  have HV : Hid (sameV x (mAut x) = decide (x.next = N ∧ x.acc = Ac)) := Lib.hid (by unfold sameV; rw [hmk, hN, hAc]; simp)
  rw [HV.out]
  rw [← hN, ← hAc] at MN hml
  clear hN hAc hmk HV
  by_cases h1 : Ac.length = x.acc.length
  · have hlen : N.length = x.next.length := by
      have e1 : (N.length : Int) = (x.next.length : Int) := by rw [hml, hnl, h1]
      omega
    have hb1 : ((Ac.length : Int) != (x.acc.length : Int)) = false := by rw [bne_eq_false_iff_eq]; omega
    have hb2 : (Ac.length != x.acc.length) = false := by rw [bne_eq_false_iff_eq]; omega
    have HL := Lib.hid hlen; have H1L := Lib.hid h1
    have HYN : Hid ((x.next = N → (∀ k : Nat, k < x.acc.length → rdOf false x.acc k = rdOf false Ac k) → decide (x.next = N ∧ x.acc = Ac) = true) ∧ (N ≠ x.next → decide (x.next = N ∧ x.acc = Ac) = false) ∧ ∀ k : Nat, rdOf false x.acc k ≠ rdOf false Ac k → decide (x.next = N ∧ x.acc = Ac) = false) := Lib.hid
      ⟨fun e h => decide_eq_true ⟨e, blist_eq h1.symm h⟩, fun e => decide_eq_false (fun h => e h.1.symm), fun k h => decide_eq_false (fun hh => blist_ne h hh.2)⟩
    have HEQ := Lib.hid (Iff.rfl : (N = x.next ↔ N = x.next))
    generalize decide (x.next = N ∧ x.acc = Ac) = b at *
    clear hml hnl h1 hlen
    go_enter Try.func27, Try.ntmps27
    go_wp2_with (refine ld_au _ rfl w.heap.size rfl (H0.out.at 0 rfl) rfl ?_)
    refine MN.out.mono ?_
    rintro e w1 ⟨vn, va, vt, rfl, hn, ha, ht, hs, hb⟩
    have H1 := Lib.hid (H0.out.keep hb)
    obtain ⟨An, cn, rfl, lcn, hCn⟩ := Kd.R_reads hn
    obtain ⟨Aa, ca, rfl, lca, hCa⟩ := Kd.R_reads ha
    have HCN := Aside0.mk hCn; have HCA := Aside0.mk hCa
    clear hb hn ha ht hs hCn hCa MN H0
    have H2 := Lib.hid (H1.out.alloc (AB ⟨x.k, N, Ac⟩ An cn Aa ca))
    have c1 : (w1.alloc (AB ⟨x.k, N, Ac⟩ An cn Aa ca)).cell? ⟨w1.heap.size, 1, none⟩ = some (.slice An N.length cn) := by rw [cell_of_row _ _ _ _ _ _ (H2.out.at 0 rfl)]; rfl
    have c2 : (w1.alloc (AB ⟨x.k, N, Ac⟩ An cn Aa ca)).cell? ⟨w1.heap.size, 2, none⟩ = some (.slice Aa Ac.length ca) := by rw [cell_of_row _ _ _ _ _ _ (H2.out.at 0 rfl)]; rfl
    have c3 : (w1.alloc (AB ⟨x.k, N, Ac⟩ An cn Aa ca)).cell? ⟨w.heap.size, 1, none⟩ = some (.slice A x.next.length c) := by rw [cell_of_row _ _ _ _ _ _ (H2.out.at 1 rfl)]; rfl
    have c4 : (w1.alloc (AB ⟨x.k, N, Ac⟩ An cn Aa ca)).cell? ⟨w.heap.size, 2, none⟩ = some (.slice B x.acc.length d) := by rw [cell_of_row _ _ _ _ _ _ (H2.out.at 1 rfl)]; rfl
    have SM := same_mn An cn N A c x.next (w1.alloc (AB ⟨x.k, N, Ac⟩ An cn Aa ca)) (Kd.C_below HCN.out (bl_alloc (Below.refl _ _) _)) (HR.out.below H2.out.2).next HL.out
    have HSM := Aside0.mk SM
    clear SM
    go_wp2_with ((with_reducible refine gate_st (t := 25) rfl ?_); refine st_au_new (y := ⟨x.k, N, Ac⟩) (A := An) (c := cn) (B := Aa) (d := ca) _ _ rfl rfl rfl rfl rfl ?_)
    refine HSM.out.mono ?_
    rintro e w2 ⟨rfl, hb⟩
    have H3 := Lib.hid (H2.out.keep hb)
    have HA3 := Aside0.mk (Kd.C_below (Kd.C_below HCA.out (bl_alloc (Below.refl _ _) _)) hb)
    clear hb HSM c1 c2 c3 c4 HCN HCA H2 H1
    by_cases he : N = x.next
    · have HYE := Lib.hid (HYN.out.1 he.symm)
      have HNE := Lib.hid HYN.out.2.2
      rw [decide_eq_true he]
      have d2 : w2.cell? ⟨w1.heap.size, 2, none⟩ = some (.slice Aa Ac.length ca) := by rw [cell_of_row _ _ _ _ _ _ (H3.out.at 0 rfl)]; rfl
      have d4 : w2.cell? ⟨w.heap.size, 2, none⟩ = some (.slice B x.acc.length d) := by rw [cell_of_row _ _ _ _ _ _ (H3.out.at 1 rfl)]; rfl
      clear he HYN HEQ
      go_wp2
      clear d2 d4
      go_loopw [37] (fun i wr => ∃ k : Nat, k ≤ x.acc.length ∧ i = .int .i64 k ∧ Hid (∀ j : Nat, j < k → rdOf false x.acc j = rdOf false Ac j) ∧ Hid (Below w2.heap.size w2 wr)) (fun i _ => x.acc.length - (intOf i).toNat)
      case atStart => exact ⟨0, by omega, rfl, Lib.hid (fun j hj => absurd hj (by omega)), Lib.hid (Below.refl _ _)⟩
      case round =>
        obtain ⟨k, hk, rfl, HF, H⟩ := hrel
        have H4 := Lib.hid (H3.out.keep H.out)
        have d2 : wr.cell? ⟨w1.heap.size, 2, none⟩ = some (.slice Aa Ac.length ca) := by rw [cell_of_row _ _ _ _ _ _ (H4.out.at 0 rfl)]; rfl
        have d4 : wr.cell? ⟨w.heap.size, 2, none⟩ = some (.slice B x.acc.length d) := by rw [cell_of_row _ _ _ _ _ _ (H4.out.at 1 rfl)]; rfl
        by_cases hkl : k < x.acc.length
        · have hkm : k < Ac.length := by have := H1L.out; omega
          obtain ⟨a1, hA1, k1⟩ := Kd.at_bool (HR.out.below H4.out.2).acc (k : Int) (by omega) (by omega)
          obtain ⟨a2, hA2, k2⟩ := Kd.at_bool (Kd.C_below HA3.out H.out) (k : Int) (by omega) (by omega)
          rw [Int.toNat_natCast] at k1 k2
          by_cases he2 : rdOf false x.acc (k : Int) = rdOf false Ac (k : Int)
          · have HF2 : Hid (∀ j : Nat, j < k + 1 → rdOf false x.acc j = rdOf false Ac j) := Lib.hid (fun j hj => by
              by_cases hjk : j = k
              · subst hjk; exact he2
              · exact HF.out j (by omega))
            rw [← he2] at k2
            have hbb : (rdOf false x.acc (k : Int) != rdOf false x.acc (k : Int)) = false := by simp
            clear he2
            generalize rdOf false x.acc (k : Int) = p at *
            subst hA1; subst hA2
            go_wp2
            go_quiet (fail)
            go_wp2
            go_roundw
            case rel => exact ⟨k + 1, by omega, by go_num, HF2, Lib.hid (bl_drewN H.out _)⟩
            case measure => simp [intOf]; omega
          · have HE := Lib.hid (HNE.out k he2)
            have hbb : (rdOf false x.acc (k : Int) != rdOf false Ac (k : Int)) = true := by rw [bne_iff_ne]; exact he2
            have hb3 : (rdOf false x.acc (k : Int) == rdOf false Ac (k : Int)) = false := by rw [beq_eq_false_iff_ne]; exact he2
            clear he2
            generalize rdOf false x.acc (k : Int) = p at *
            generalize rdOf false Ac (k : Int) = q at *
            subst hA1; subst hA2
            go_wp2
            go_quiet (fail)
            go_wp2
            go_ret2
            exact ⟨by rw [HE.out]; rfl, bl_drewN H4.out.2 _⟩
        · have hk2 : k = x.acc.length := by omega
          subst hk2
          have HE := Lib.hid (HYE.out HF.out)
          go_wp2
          go_ret2
          exact ⟨by rw [HE.out]; rfl, H4.out.2⟩
    · have HE := Lib.hid (HYN.out.2.1 he)
      rw [decide_eq_false he]
      clear he
      go_wp2
      go_ret2
      exact ⟨by rw [HE.out]; rfl, H3.out.2⟩
  · have HE : Hid (decide (x.next = N ∧ x.acc = Ac) = false) := Lib.hid (decide_eq_false (fun hh => h1 (by rw [hh.2])))
    have hb1 : ((Ac.length : Int) != (x.acc.length : Int)) = true := by rw [bne_iff_ne]; omega
    have hb2 : (Ac.length != x.acc.length) = true := by rw [bne_iff_ne]; omega
    clear h1 hml hnl
    go_enter Try.func27, Try.ntmps27
    go_wp2_with (refine ld_au _ rfl w.heap.size rfl (H0.out.at 0 rfl) rfl ?_)
    refine MN.out.mono ?_
    rintro e w1 ⟨vn, va, vt, rfl, hn, ha, ht, hs, hb⟩
    have H1 := Lib.hid (H0.out.keep hb)
    obtain ⟨An, cn, rfl, lcn, hCn⟩ := Kd.R_reads hn
    obtain ⟨Aa, ca, rfl, lca, hCa⟩ := Kd.R_reads ha
    clear hb hn ha ht hs hCn hCa MN H0
    have H2 := Lib.hid (H1.out.alloc (AB ⟨x.k, N, Ac⟩ An cn Aa ca))
    have c2 : (w1.alloc (AB ⟨x.k, N, Ac⟩ An cn Aa ca)).cell? ⟨w1.heap.size, 2, none⟩ = some (.slice Aa Ac.length ca) := by rw [cell_of_row _ _ _ _ _ _ (H2.out.at 0 rfl)]; rfl
    have c4 : (w1.alloc (AB ⟨x.k, N, Ac⟩ An cn Aa ca)).cell? ⟨w.heap.size, 2, none⟩ = some (.slice B x.acc.length d) := by rw [cell_of_row _ _ _ _ _ _ (H2.out.at 1 rfl)]; rfl
    go_wp2_with ((with_reducible refine gate_st (t := 25) rfl ?_); refine st_au_new (y := ⟨x.k, N, Ac⟩) (A := An) (c := cn) (B := Aa) (d := ca) _ _ rfl rfl rfl rfl rfl ?_)
    go_ret2
    exact ⟨by rw [HE.out]; rfl, H2.out.2⟩
end Go.Proofs.Ytjedippbjjedlaa

namespace Go.Proofs.Ytjedippbjjedlaa
open Go.RowKit Go.Proofs.YtjedippbjjedlaaW.PrintWords
set_option linter.unusedSimpArgs false
set_option linter.unusedVariables false
set_option maxRecDepth 100000 in
set_option maxHeartbeats 800000 in
theorem minimal_err (x : AutV) (A : Option Addr) (c : Nat) (B : Option Addr) (d : Nat) (hx : ¬ AutOk x) (w : World) (hr : ARd w x A B) :
    Calls Try.prog 25 #[.agg (ac x A c B d)] w fun e w' => e = .returned (.tuple #[.agg #[.int .i64 0, .slice none 0 0, .slice none 0 0], .slice none 0 0, .int .i64 80]) ∧ Below w.heap.size w w' := by
  have HR := Aside0.mk hr
  have CK := Aside0.mk (fun (W : World) (h : ARd W x A B) => acheck_any x A c B d W h)
  rw [autE_no hx] at CK
  have A0 := Lib.hid (((Hp.start w).alloc (AB x A c B d)).alloc (.cells #[.int .i64 0, .slice none 0 0, .slice none 0 0] 25))
  rw [World.size_alloc] at A0
  clear hr hx
  go_enter Try.func25, Try.ntmps25
  go_wp2_with (refine ld_au _ rfl w.heap.size rfl (A0.out.at 1 rfl) rfl ?_)
  refine (CK.out _ (HR.out.below A0.out.2)).mono ?_
  rintro e w1 ⟨rfl, hb⟩
  have A1 := Lib.hid (A0.out.keep hb)
  clear hb CK A0
  go_wp2_with ((with_reducible refine gate_st (t := 25) rfl ?_); refine wpList_store_row rfl 25 _ _ rfl (w.heap.size + 1) #[.int .i64 0, .slice none 0 0, .slice none 0 0] rfl rfl 25 _ (A1.out.at 0 rfl) (by show _ = some 3; kernel_rfl) rfl (by simp [Value.oneCell']) ?_)
  refine bodyPost_ret (v := .tuple #[.agg #[.int .i64 0, .slice none 0 0, .slice none 0 0], .slice none 0 0, .int .i64 80]) ?_ rfl ⟨rfl, bl_row A1.out.2 (by omega) _⟩
  refine (results_cell_tmp2 (p := 2) (t := 3) (u := 4) (by rfl) _ _ (w.heap.size + 1) 25 _ _ _ ?_ (setRow_heap _ _ _ _ _ _ (A1.out.at 0 rfl)) Try.underlying25 rfl (by show _ = some 3; kernel_rfl)).trans ?_ <;> rfl
set_option maxRecDepth 100000 in
set_option maxHeartbeats 800000 in
theorem is_err (x : AutV) (A : Option Addr) (c : Nat) (B : Option Addr) (d : Nat) (hx : ¬ AutOk x) (w : World) (hr : ARd w x A B) :
    Calls Try.prog 27 #[.agg (ac x A c B d)] w fun e w' => e = .returned (.tuple #[.bool false, .int .i64 80]) ∧ Below w.heap.size w w' := by
  have H0 := Lib.hid ((Hp.start w).alloc (AB x A c B d))
  have MN := Aside0.mk (minimal_err x A c B d hx (w.alloc (AB x A c B d)) (hr.below H0.out.2))
  clear hr hx
  go_enter Try.func27, Try.ntmps27
  go_wp2_with (refine ld_au _ rfl w.heap.size rfl (H0.out.at 0 rfl) rfl ?_)
  refine MN.out.mono ?_
  rintro e w1 ⟨rfl, hb⟩
  have H1 := Lib.hid (H0.out.keep hb)
  have H2 := Lib.hid (H1.out.alloc (AB ⟨0, [], []⟩ none 0 none 0))
  clear hb MN H0
  go_wp2_with ((with_reducible refine gate_st (t := 25) rfl ?_); refine st_au_new (y := ⟨0, [], []⟩) (A := none) (c := 0) (B := none) (d := 0) _ _ rfl rfl rfl rfl rfl ?_)
  go_ret2
  exact ⟨rfl, H2.out.2⟩
/-- Minimal, whatever comes in. -/
theorem minimalv_any (x : AutV) (A : Option Addr) (c : Nat) (B : Option Addr) (d : Nat) (w : World) (hr : ARd w x A B) :
    Calls Try.prog 25 #[.agg (ac x A c B d)] w fun e w' => ∃ vn va vt, e = .returned (.tuple #[.agg #[.int .i64 (minV x).k, vn, va], vt, .int .i64 (autE x)]) ∧ Own w' w.heap.size vn (minV x).next ∧ Kd.R Kd.bool 4 w' w.heap.size (fun _ => True) va (minV x).acc ∧ Own w' w.heap.size vt (minT x) ∧ sep vn vt ∧ Below w.heap.size w w' := by
  by_cases h : AutOk x
  · have h0 := autE_ok h
    rw [h0, show minV x = mAut x by unfold minV; rw [if_pos h0], show minT x = mTo x by unfold minT; rw [if_pos h0]]
    exact minimal_any x A c B d h w hr
  · have h0 := autE_no h
    rw [h0, show minV x = ⟨0, [], []⟩ by unfold minV; rw [if_neg (by rw [h0]; decide)], show minT x = [] by unfold minT; rw [if_neg (by rw [h0]; decide)]]
    refine (minimal_err x A c B d h w hr).mono ?_
    rintro e w' ⟨rfl, hb⟩
    exact ⟨_, _, _, rfl, Kd.R_nil _ _ _ _ _, Kd.R_nil _ _ _ _ _, Kd.R_nil _ _ _ _ _, sep_nil _, hb⟩
theorem isv_any (x : AutV) (A : Option Addr) (c : Nat) (B : Option Addr) (d : Nat) (w : World) (hr : ARd w x A B) :
    Calls Try.prog 27 #[.agg (ac x A c B d)] w fun e w' => e = .returned (.tuple #[.bool (isV x), .int .i64 (autE x)]) ∧ Below w.heap.size w w' := by
  by_cases h : AutOk x
  · rw [autE_ok h]; exact is_any x A c B d h w hr
  · have h0 := autE_no h
    rw [h0, show isV x = false by unfold isV; rw [h0]; rfl]
    exact is_err x A c B d h w hr
end Go.Proofs.Ytjedippbjjedlaa

