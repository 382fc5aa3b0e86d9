/- Merged by tools/merge2.py out of: XRfM XRfS XRfR XRfL XRfP (a claim bears 60 files at most). -/
import Derived.Test.YtjedippbjjedlaaA2
import Derived.BigQuiet
import Derived.Test.YtjedippbjjedlaaPMinimMakesx0
import Derived.Test.YtjedippbjjedlaaPMinimMakesx4
namespace Go.Proofs.Ytjedippbjjedlaa
open Go.RowKit Go.Proofs.YtjedippbjjedlaaW.PrintWords
set_option linter.unusedSimpArgs false
set_option linter.unusedVariables false
theorem st0_rd (x : AutV) (i : Nat) (h : i < x.acc.length) : (st0 x).getD i 0 = if rdOf false x.acc (i : Int) then 1 else 0 := by
  simp [st0, rdOf, List.getD_eq_getElem?_getD, h]
theorem st0_eq (x : AutV) {i j : Nat} (hi : i < x.acc.length) (hj : j < x.acc.length) : (st0 x).getD i 0 = (st0 x).getD j 0 ↔ rdOf false x.acc (i : Int) = rdOf false x.acc (j : Int) := by
  rw [st0_rd x i hi, st0_rd x j hj]
  cases rdOf false x.acc (i : Int) <;> cases rdOf false x.acc (j : Int) <;> simp
set_option maxRecDepth 100000 in
set_option maxHeartbeats 4000000 in
theorem rfirst_any (x : AutV) (A : Option Addr) (c : Nat) (B : Option Addr) (d : Nat) (hn : x.acc.length ≤ 4096) (w : World) (hr : ARd w x A B) :
    Calls Try.prog 64 #[.agg (ac x A c B d)] w fun e w' => ∃ v, e = .returned v ∧ Own w' w.heap.size v (zl (krl (st0 x))) ∧ Below w.heap.size w w' := by
  have HR := Aside0.mk hr
  have H0 := Lib.hid (hp_new (w := w) (o := AB x A c B d) rfl)
  clear hr
  go_enter Try.func64, Try.ntmps64
  go_wp2_with (refine wpl_make x.acc.length (by omega) rfl _ _ rfl rfl rfl ?_)
  go_loopw [4] (fun i wr => ∃ k : Nat, k ≤ x.acc.length ∧ i = .int .i64 k ∧ Hid (wr.heap[w.heap.size]? = some (AB x A c B d) ∧ wr.heap[w.heap.size + 1]? = some (.cells (img (krp (st0 x) x.acc.length k 0)) 3 (0, 0)) ∧ Below w.heap.size w wr)) (fun i _ => x.acc.length - (intOf i).toNat)
  case atStart => exact ⟨0, by omega, rfl, Lib.hid ⟨hp_old H0.out, by rw [krp_start]; exact hp_new (by simp), bl_alloc (bl_alloc (Below.refl _ _) _) _⟩⟩
  case round =>
    obtain ⟨k, hk, rfl, H⟩ := hrel
    obtain ⟨w3, rfl⟩ : ∃ w3 : World, w3 = wr := ⟨_, rfl⟩
    by_cases hkl : k < x.acc.length
    · have hks := kr_spec (st0 x) k
      go_wp2
      go_loopw [5] (fun i wi => ∃ t : Nat, t ≤ kr (st0 x) k ∧ i = .int .i64 t ∧ Hid (wi.heap[w.heap.size]? = some (AB x A c B d) ∧ wi.heap[w.heap.size + 1]? = some (.cells (img (krp (st0 x) x.acc.length k 0)) 3 (0, 0)) ∧ Below w.heap.size w wi)) (fun i _ => x.acc.length - (intOf i).toNat)
      case atStart => exact ⟨0, by omega, rfl, H⟩
      case round =>
        obtain ⟨t, ht, rfl, G⟩ := hrel
        have htk : t ≤ k := by omega
        obtain ⟨ad1, hB, hc1⟩ := Kd.at_bool (Kd.C_below HR.out.acc G.out.2.2) (t : Int) (by omega) (by omega)
        obtain ⟨ad2, hB2, hc2⟩ := Kd.at_bool (Kd.C_below HR.out.acc G.out.2.2) (k : Int) (by omega) (by omega)
        rw [Int.toNat_natCast] at hc1 hc2
        have e4 : ad1 = ad2 := by rw [hB] at hB2; injection hB2
        clear hB2
        subst e4
        have ca : wr.cell? ⟨w.heap.size, 2, none⟩ = some (.slice B x.acc.length d) := by rw [cell_of_row _ _ _ _ _ _ G.out.1]; rfl
        by_cases hE : rdOf false x.acc (t : Int) = rdOf false x.acc (k : Int)
        · have htk2 : t = kr (st0 x) k := by
            apply Classical.byContradiction
            intro hne
            exact hks.2.2 t (by omega) ((st0_eq x (by omega) hkl).2 hE)
          have hb : (rdOf false x.acc (k : Int) != rdOf false x.acc (k : Int)) = false := by simp
          rw [hE] at hc1
          have HN := Lib.hid (krp_next (st0 x) x.acc.length k)
          have HST := Lib.hid (krp_set (st0 x) x.acc.length k 0 (kr (st0 x) k))
          rw [← htk2] at HN HST
          have d1 : wr.cell? ⟨w.heap.size + 1, k, none⟩ = some (.int .i64 ((0 : Nat) : Int)) := by rw [cell_of_row _ _ _ _ _ _ G.out.2.1, img_get _ _ (by rw [krp_len]; omega), krp_get _ _ _ _ hkl]
          have f1 : wr.frozen? ⟨w.heap.size + 1, k, none⟩ = false := frozen_of_row _ _ _ _ _ G.out.2.1
          clear hE htk2 hks
          generalize rdOf false x.acc (k : Int) = b at *
          subst hB
          go_wp2
          go_quiet (fail)
          go_wp2
          go_roundw
          case rel =>
            refine ⟨k + 1, by omega, by go_num, Lib.hid ⟨?_, ?_, ?_⟩⟩
            · exact hp_cell (by show w.heap.size ≠ w.heap.size + 1; omega) G.out.1
            · rw [heap_setCell_same _ _ _ _ _ _ (show (wr.drewN nq).heap[w.heap.size + 1]? = _ from G.out.2.1), img_set, HST.out, HN.out]
            · exact bl_cell (bl_drewN G.out.2.2 _) (by show w.heap.size ≤ w.heap.size + 1; omega) _
          case measure => simp [intOf]; omega
        · have htk2 : t ≠ kr (st0 x) k := fun e => hE ((st0_eq x (by omega) hkl).1 (by rw [e]; exact hks.2.1))
          have hb : (rdOf false x.acc (t : Int) != rdOf false x.acc (k : Int)) = true := by rw [bne_iff_ne]; exact hE
          have hb3 : (rdOf false x.acc (t : Int) == rdOf false x.acc (k : Int)) = false := by rw [beq_eq_false_iff_ne]; exact hE
          clear hE
          generalize rdOf false x.acc (k : Int) = b at *
          generalize rdOf false x.acc (t : Int) = b2 at *
          subst hB
          go_wp2
          go_quiet (fail)
          go_wp2
          go_roundw
          case rel => exact ⟨t + 1, by omega, by go_num, Lib.hid ⟨G.out.1, G.out.2.1, bl_drewN G.out.2.2 _⟩⟩
          case measure => simp [intOf]; omega
    · have e8 : k = x.acc.length := by omega
      subst e8
      go_wp2
      go_ret
      have hK : krp (st0 x) x.acc.length x.acc.length 0 = krl (st0 x) := krp_end (st0_len x) fun _ _ => rfl
      exact ⟨_, rfl, by rw [← hK]; exact own_img H.out.2.1 (by omega) (krp_len _ _ _ _) (by omega), H.out.2.2⟩
end Go.Proofs.Ytjedippbjjedlaa

namespace Go.Proofs.Ytjedippbjjedlaa.PMinimMakes
open Go.RowKit Go.Proofs.Ytjedippbjjedlaa Go.Proofs.YtjedippbjjedlaaW.PrintWords
set_option linter.unusedVariables false
noncomputable def eggboxref08_Check.f (k : Nat) (a0_0 : Int) (l0_1 : List Int) (l0_2 : List Bool) : Option Int := some (autE ⟨a0_0, l0_1, l0_2⟩)
theorem eggboxref08_Check.mono : ∀ a0 a1 a2 k, LeO (eggboxref08_Check.f k a0 a1 a2) (eggboxref08_Check.f (k + 1) a0 a1 a2) := fun _ _ _ _ => LeO.refl _
theorem eggboxref08_Check.calls (k : Nat) (a0_0 : Int) (A0_1 : Option Addr) (c0_1 : Nat) (l0_1 : List Int) (A0_2 : Option Addr) (c0_2 : Nat) (l0_2 : List Bool) (r : Int) (w : World) (hr0_1 : Kd.C (Kd.int .i64) w A0_1 l0_1.length l0_1) (hc0_1 : l0_1.length ≤ c0_1) (hr0_2 : Kd.C Kd.bool w A0_2 l0_2.length l0_2) (hc0_2 : l0_2.length ≤ c0_2) (h : eggboxref08_Check.f k a0_0 l0_1 l0_2 = some r) :
    Calls Try.prog 63 #[.agg #[.int .i64 a0_0, .slice A0_1 l0_1.length c0_1, .slice A0_2 l0_2.length c0_2]] w fun e w' => e = .returned (.int .i64 r) ∧ Below w.heap.size w w' := by
  obtain rfl : autE ⟨a0_0, l0_1, l0_2⟩ = r := Option.some.inj h
  exact racheck_any ⟨a0_0, l0_1, l0_2⟩ A0_1 c0_1 A0_2 c0_2 w ⟨hr0_1, hr0_2⟩
def eggboxref10_first.f (k : Nat) (a0_0 : Int) (l0_1 : List Int) (l0_2 : List Bool) : Option (List Int) := if l0_2.length ≤ 4096 then some (zl (krl (st0 ⟨a0_0, l0_1, l0_2⟩))) else none
theorem eggboxref10_first.mono : ∀ a0 a1 a2 k, LeO (eggboxref10_first.f k a0 a1 a2) (eggboxref10_first.f (k + 1) a0 a1 a2) := fun _ _ _ _ => LeO.refl _
theorem eggboxref10_first.calls (k : Nat) (a0_0 : Int) (A0_1 : Option Addr) (c0_1 : Nat) (l0_1 : List Int) (A0_2 : Option Addr) (c0_2 : Nat) (l0_2 : List Bool) (r : List Int) (w : World) (hr0_1 : Kd.C (Kd.int .i64) w A0_1 l0_1.length l0_1) (hc0_1 : l0_1.length ≤ c0_1) (hr0_2 : Kd.C Kd.bool w A0_2 l0_2.length l0_2) (hc0_2 : l0_2.length ≤ c0_2) (h : eggboxref10_first.f k a0_0 l0_1 l0_2 = some r) :
    Calls Try.prog 64 #[.agg #[.int .i64 a0_0, .slice A0_1 l0_1.length c0_1, .slice A0_2 l0_2.length c0_2]] w fun e w' => ∃ v0_ : Value, e = .returned (v0_) ∧ Kd.R (Kd.int .i64) 3 w' w.heap.size (fun _ => True) v0_ r ∧ Below w.heap.size w w' := by
  unfold eggboxref10_first.f at h
  split at h
  · obtain rfl := Option.some.inj h
    exact rfirst_any ⟨a0_0, l0_1, l0_2⟩ A0_1 c0_1 A0_2 c0_2 (by assumption) w ⟨hr0_1, hr0_2⟩
  · cases h
end Go.Proofs.Ytjedippbjjedlaa.PMinimMakes

namespace Go.Proofs.Ytjedippbjjedlaa
open Go.RowKit Go.Proofs.YtjedippbjjedlaaW.PrintWords Go.Proofs.Ytjedippbjjedlaa.PMinimMakes
set_option linter.unusedVariables false
theorem w_in {i : Int} (h : -9223372036854775808 ≤ i ∧ i ≤ 9223372036854775807) : wrap64 i = i := by unfold wrap64; omega
/-- Where a letter's entry stands. -/
theorem idx_w {x : AutV} (h : AutOk x) {s c : Nat} (hs : s < x.acc.length) (hc : (c : Int) < x.k) : wrap64 ((wrap64 ((s : Int) * x.k)) + (c : Int)) = ((s * x.k.toNat + c : Nat) : Int) ∧ s * x.k.toNat + c < x.next.length := by
  have hix := stp_idx h hs hc
  obtain ⟨h1, h2, h3, h4, h5, _⟩ := h
  have hmul : (s : Int) * x.k = ((s * x.k.toNat : Nat) : Int) := by
    obtain ⟨kk, hkk⟩ := Int.eq_ofNat_of_zero_le (show 0 ≤ x.k by omega)
    rw [hkk, Int.toNat_natCast]; push_cast; rfl
  have hp : s * x.k.toNat ≤ 4096 * 10 := Nat.mul_le_mul (by omega) (by omega)
  have e1 := w_in (i := ((s * x.k.toNat : Nat) : Int)) ⟨by omega, by omega⟩
  rw [hmul, e1, w_in ⟨by omega, by omega⟩]
  exact ⟨by push_cast; rfl, hix⟩
/-- Do the letters from c on lead to one class? -/
def lk (x : AutV) (L : List Nat) (s t c : Nat) : Prop := ∀ i, c ≤ i → (i : Int) < x.k → L.getD (stp x s i) 0 = L.getD (stp x t i) 0
open Classical in
theorem alike_l {x : AutV} (h : AutOk x) {L : List Nat} (hL : L.length = x.acc.length) {s t : Nat} (hs : s < x.acc.length) (ht : t < x.acc.length) (d : Nat) : ∀ (k c : Nat), x.k.toNat - c = d → (c : Int) ≤ x.k → d < k →
    eggboxref10_alike.l0 k (zl L) s t c x.k x.next x.acc = some (decide (lk x L s t c)) := by
  induction d with
  | zero =>
    intro k c hd hc hk
    obtain ⟨k, rfl⟩ : ∃ m, k = m + 1 := ⟨k - 1, by omega⟩
    have : lk x L s t c := fun i h1 h2 => by omega
    simp only [eggboxref10_alike.l0]
    rw [if_neg (by have := h.1; omega), decide_eq_true this]
  | succ d ih =>
    intro k c hd hc hk
    obtain ⟨k, rfl⟩ : ∃ m, k = m + 1 := ⟨k - 1, by omega⟩
    have hck : (c : Int) < x.k := by omega
    obtain ⟨e1, b1⟩ := idx_w h hs hck
    obtain ⟨e2, b2⟩ := idx_w h ht hck
    obtain ⟨z1, y1⟩ := stp_lt h hs hck
    obtain ⟨z2, y2⟩ := stp_lt h ht hck
    have hk8 := h.2.1
    simp only [eggboxref10_alike.l0]
    rw [e1, e2, y1, y2, zl_len, if_pos hck, if_pos (by omega), if_pos (by omega), if_pos (by omega), if_pos (by omega), if_pos (by omega), if_pos (by omega), if_pos (by omega), if_pos (by omega), zl_rd, zl_rd]
    by_cases e : L.getD (stp x s c) 0 = L.getD (stp x t c) 0
    · rw [if_pos (by rw [e]), w_in ⟨by omega, by omega⟩, show ((c : Int) + 1) = ((c + 1 : Nat) : Int) by push_cast; rfl, ih k (c + 1) (by omega) (by omega) (by omega)]
      congr 1
      rw [decide_eq_decide]
      constructor
      · intro hl i h1 h2
        by_cases hi : i = c
        · subst hi; exact e
        · exact hl i (by omega) h2
      · intro hl i h1 h2; exact hl i (by omega) h2
    · rw [if_neg (by omega)]
      have : ¬ lk x L s t c := fun hl => e (hl c (Nat.le_refl _) hck)
      rw [decide_eq_false this]
theorem sgn_iff {x : AutV} (h : AutOk x) (L : List Nat) (s t : Nat) : sgn x L s = sgn x L t ↔ L.getD s 0 = L.getD t 0 ∧ lk x L s t 0 := by
  have hk8 := h.2.1
  constructor
  · intro e
    refine ⟨sgn_head e, fun i _ hi => ?_⟩
    have e2 := (List.cons.inj e).2
    have := congrArg (fun l : List Nat => l[i]?) e2
    simpa [show i < 8 by omega, show i < x.k.toNat by omega, hi] using this
  · rintro ⟨e1, e2⟩
    unfold sgn
    rw [e1]
    congr 1
    apply List.map_congr_left
    intro i hi
    by_cases hik : i < x.k.toNat
    · rw [if_pos hik, if_pos hik]; exact e2 i (Nat.zero_le _) (by omega)
    · rw [if_neg hik, if_neg hik]
theorem alike_f {x : AutV} (h : AutOk x) {L : List Nat} (hL : L.length = x.acc.length) {s t : Nat} (hs : s < x.acc.length) (ht : t < x.acc.length) {k : Nat} (hk : 8 < k) :
    eggboxref10_alike.f k x.k x.next x.acc (zl L) s t = some (decide (sgn x L s = sgn x L t)) := by
  have hk8 := h.2.1
  have hk1 := h.1
  unfold eggboxref10_alike.f
  rw [zl_len, if_pos (by omega), if_pos (by omega), if_pos (by omega), if_pos (by omega), zl_rd, zl_rd]
  by_cases e : L.getD s 0 = L.getD t 0
  · rw [if_pos (by rw [e])]
    have h1 := alike_l h hL hs ht x.k.toNat k 0 (by omega) (by omega) (by omega)
    rw [show ((0 : Nat) : Int) = 0 from rfl] at h1
    rw [h1]
    congr 1
    simp only [decide_eq_decide]
    rw [sgn_iff h]
    exact ⟨fun hl => ⟨e, hl⟩, fun hl => hl.2⟩
  · rw [if_neg (by omega), decide_eq_false (fun hh => e (sgn_head hh))]
/-- The least states of the classes so far. -/
def lst (f : Nat → List Nat) (s : Nat) : List Nat := (List.range s).filter fun t => krf f t == t
theorem lst_lt {f : Nat → List Nat} {s t : Nat} (h : t ∈ lst f s) : t < s ∧ krf f t = t := by
  obtain ⟨h1, h2⟩ := List.mem_filter.1 h
  exact ⟨List.mem_range.1 h1, by simpa using h2⟩
theorem lst_new {f : Nat → List Nat} {s : Nat} (h : krf f s = s) : lst f (s + 1) = lst f s ++ [s] := by
  unfold lst; rw [List.range_succ, List.filter_append]; simp [h]
theorem lst_old {f : Nat → List Nat} {s : Nat} (h : krf f s ≠ s) : lst f (s + 1) = lst f s := by
  unfold lst; rw [List.range_succ, List.filter_append]; simp [h]
theorem lst_len (f : Nat → List Nat) (s : Nat) : (lst f s).length ≤ s := by
  have := List.length_filter_le (fun t => krf f t == t) (List.range s)
  rw [List.length_range] at this
  exact this
theorem rdp_setI (f : Nat → List Nat) (n s v : Nat) (hv : krf f s = v) : (zl (rdp f n s)).set s (v : Int) = zl (rdp f n (s + 1)) := by
  rw [← rdp_set, hv]; simp [zl, List.map_set]
theorem rd_setI (l : List Nat) (i v : Nat) (h : i < l.length) : rd ((zl l).set i (v : Int)) i = v := by
  unfold rd; rw [Int.toNat_natCast]; simp [List.getD_eq_getElem?_getD, zl, h]
theorem set_setI (l : List Int) (i : Nat) (a b : Int) : (l.set i a).set i b = l.set i b := by rw [List.set_set]
/-- The inner search: is a least state so far of this sign? -/
theorem round_l1 {x : AutV} (h : AutOk x) {L : List Nat} (hL : L.length = x.acc.length) {s : Nat} (hs : s < x.acc.length)
    (ih : ∀ k, 12 + (x.acc.length + 1) * (x.acc.length - (s + 1)) + (x.acc.length - (s + 1)) < k → eggboxref10_round.l0 k (zl L) (zl (rdp (sgn x L) x.acc.length (s + 1))) (zl (lst (sgn x L) (s + 1))) ((s + 1 : Nat) : Int) x.k x.next x.acc = some (zl (rnd x L))) (d : Nat) :
    ∀ (k i : Nat), (lst (sgn x L) s).length - i = d → i ≤ (lst (sgn x L) s).length → (∀ j, j < i → ∀ t, (lst (sgn x L) s)[j]? = some t → sgn x L t ≠ sgn x L s) → 12 + (x.acc.length + 1) * (x.acc.length - (s + 1)) + (x.acc.length - (s + 1)) + 1 + d < k →
      eggboxref10_round.l1 k (zl L) ((zl (rdp (sgn x L) x.acc.length s)).set s s) (zl (lst (sgn x L) s)) s i x.k x.next x.acc = some (zl (rnd x L)) := by
  have hlen := lst_len (sgn x L) s
  have hm := h.2.2.2.1
  have hol : ((zl (rdp (sgn x L) x.acc.length s)).set s (s : Int)).length = x.acc.length := by rw [List.length_set, zl_len, rdp_len]
  induction d with
  | zero =>
    intro k i hd hi hno hk
    obtain ⟨k, rfl⟩ : ∃ m, k = m + 1 := ⟨k - 1, by omega⟩
    have hks : krf (sgn x L) s = s := by
      obtain ⟨h1, h2, h3⟩ := krf_spec (sgn x L) s
      apply Classical.byContradiction
      intro hne
      have hmem : krf (sgn x L) s ∈ lst (sgn x L) s := List.mem_filter.2 ⟨List.mem_range.2 (by omega), by simpa using krf_krf _ s⟩
      obtain ⟨j, hj⟩ := List.mem_iff_getElem?.1 hmem
      have := (List.getElem?_eq_some_iff.1 hj).1
      exact hno j (by omega) _ hj h2
    simp only [eggboxref10_round.l1]
    rw [zl_len, if_neg (by omega), if_pos (by omega), hol, if_pos (by omega), rd_setI _ _ _ (by rw [rdp_len]; exact hs), if_pos rfl, if_pos (by omega), w_in ⟨by omega, by omega⟩]
    have := ih k (by omega)
    rw [lst_new hks, show zl (lst (sgn x L) s ++ [s]) = zl (lst (sgn x L) s) ++ [(s : Int)] by simp [zl]] at this
    rw [rdp_setI _ _ _ _ hks]
    push_cast at this
    exact this
  | succ d ihd =>
    intro k i hd hi hno hk
    obtain ⟨k, rfl⟩ : ∃ m, k = m + 1 := ⟨k - 1, by omega⟩
    have hil : i < (lst (sgn x L) s).length := by omega
    obtain ⟨t, ht⟩ : ∃ t, (lst (sgn x L) s)[i]? = some t := ⟨_, List.getElem?_eq_getElem hil⟩
    obtain ⟨hts, htk⟩ := lst_lt (List.mem_of_getElem? ht)
    have hrt : rd (zl (lst (sgn x L) s)) (i : Int) = (t : Int) := by rw [zl_rd, List.getD_eq_getElem?_getD, ht]; rfl
    have hal := alike_f h hL (show t < x.acc.length by omega) hs (k := k) (by omega)
    simp only [eggboxref10_round.l1]
    rw [zl_len, if_pos (by omega), if_pos (by omega), hrt, hal]
    simp only [Option.bind_some]
    by_cases e : sgn x L t = sgn x L s
    · have hks : krf (sgn x L) s = t := (krf_uni hts htk e).symm
      rw [decide_eq_true e, if_pos rfl, if_pos (by omega), hol, if_pos (by omega), Int.toNat_natCast, set_setI, rd_setI _ _ _ (by rw [rdp_len]; exact hs), if_neg (by omega), w_in ⟨by omega, by omega⟩, rdp_setI _ _ _ _ hks]
      have := ih k (by omega)
      rw [lst_old (by omega)] at this
      push_cast at this
      exact this
    · rw [decide_eq_false e, if_neg (by decide), w_in ⟨by omega, by omega⟩]
      have := ihd k (i + 1) (by omega) (by omega) (fun j hj u hu => by
        by_cases hji : j = i
        · subst hji; rw [ht] at hu; injection hu with hu; subst hu; exact e
        · exact hno j (by omega) u hu) (by omega)
      push_cast at this
      exact this
theorem round_l0 {x : AutV} (h : AutOk x) {L : List Nat} (hL : L.length = x.acc.length) (d : Nat) : ∀ (k s : Nat), x.acc.length - s = d → s ≤ x.acc.length → 12 + (x.acc.length + 1) * d + d < k →
    eggboxref10_round.l0 k (zl L) (zl (rdp (sgn x L) x.acc.length s)) (zl (lst (sgn x L) s)) s x.k x.next x.acc = some (zl (rnd x L)) := by
  have hm := h.2.2.2.1
  induction d with
  | zero =>
    intro k s hd hs hk
    obtain ⟨k, rfl⟩ : ∃ m, k = m + 1 := ⟨k - 1, by omega⟩
    simp only [eggboxref10_round.l0]
    rw [zl_len, if_neg (by omega), show s = x.acc.length by omega, ← hL, rdp_end]
  | succ d ih =>
    intro k s hd hs hk
    obtain ⟨k, rfl⟩ : ∃ m, k = m + 1 := ⟨k - 1, by omega⟩
    have hlen := lst_len (sgn x L) s
    rw [Nat.mul_succ] at hk
    simp only [eggboxref10_round.l0]
    rw [zl_len, zl_len, rdp_len, if_pos (by omega), if_pos (by omega), if_pos (by omega), Int.toNat_natCast]
    have e : x.acc.length - (s + 1) = d := by omega
    have := round_l1 h hL (s := s) (by omega) (fun k hk => by rw [e] at hk; exact ih k (s + 1) (by omega) (by omega) (by omega)) (lst (sgn x L) s).length k 0 (by omega) (by omega) (fun j hj => by omega) (by rw [e]; omega)
    exact this
theorem round_f {x : AutV} (h : AutOk x) {L : List Nat} (hL : L.length = x.acc.length) {k : Nat} (hk : 12 + (x.acc.length + 1) * x.acc.length + x.acc.length < k) : eggboxref10_round.f k x.k x.next x.acc (zl L) = some (zl (rnd x L)) := by
  have hm := h.2.2.2.1
  unfold eggboxref10_round.f
  rw [zl_len, if_pos (by omega), if_pos (by omega), Int.toNat_natCast, hL]
  have := round_l0 h hL x.acc.length k 0 (by omega) (by omega) hk
  rw [rdp_zero, show zl (List.replicate x.acc.length 0) = List.replicate x.acc.length (0 : Int) by simp [zl]] at this
  exact this
theorem same_f : ∀ (d : Nat) (k i : Nat) (l m : List Int), l.length = m.length → l.length ≤ 1000000 → l.length - i = d → i ≤ l.length → (∀ j : Nat, j < i → rd l j = rd m j) → d < k → eggboxref10_same.l0 k l m i = some (decide (l = m)) := by
  intro d
  induction d with
  | zero =>
    intro k i l m hlm hb hd hi hp hk
    obtain ⟨k, rfl⟩ : ∃ n, k = n + 1 := ⟨k - 1, by omega⟩
    simp only [eggboxref10_same.l0]
    rw [if_neg (by omega), decide_eq_true (list_eq hlm (fun j hj => hp j (by omega)))]
  | succ d ih =>
    intro k i l m hlm hb hd hi hp hk
    obtain ⟨k, rfl⟩ : ∃ n, k = n + 1 := ⟨k - 1, by omega⟩
    simp only [eggboxref10_same.l0]
    rw [if_pos (by omega), if_pos (by omega), if_pos (by omega)]
    by_cases e : rd l (i : Int) = rd m (i : Int)
    · rw [if_pos e, w_in ⟨by omega, by omega⟩]
      have := ih k (i + 1) l m hlm hb (by omega) (by omega) (fun j hj => by
        by_cases hji : j = i
        · subst hji; exact e
        · exact hp j (by omega)) (by omega)
      push_cast at this
      exact this
    · rw [if_neg e, decide_eq_false (list_ne e)]
end Go.Proofs.Ytjedippbjjedlaa

namespace Go.Proofs.Ytjedippbjjedlaa.PMinimMakes
open Go.RowKit Go.Proofs.YtjedippbjjedlaaW.PrintWords Go.Proofs.YtjedippbjjedlaaW.PrintLast Go.Proofs.YtjedippbjjedlaaW.PrintMore
attribute [local go_sem] max2_int min2_int max_two min_two max_three min_three max_four min_four   -- for this text's walks alone
set_option linter.unusedVariables false
set_option linter.unusedSimpArgs false

/-! ### eggboxref10_Level: function 40 -/
mutual
noncomputable def eggboxref10_Level.j0 : Nat → Int → Int → Bool → Int → List Int → List Bool → Option (List Int × Int)
  | 0, _, _, _, _, _, _ => none
  | k + 1, x1, x6, x17, x179000, x179001, x179002 => if x17 = true then (eggboxref10_Level.j1 k x1 11 x179000 x179001 x179002) else (eggboxref10_Level.j1 k x1 x6 x179000 x179001 x179002)
noncomputable def eggboxref10_Level.j1 : Nat → Int → Int → Int → List Int → List Bool → Option (List Int × Int)
  | 0, _, _, _, _, _ => none
  | k + 1, x1, x6, x179000, x179001, x179002 => if x6 = 0 then ((eggboxref10_first.f k x179000 x179001 x179002).bind fun t180 => (eggboxref10_Level.l0 k x1 t180 0 x179000 x179001 x179002)) else (some (([] : List Int), x6))
noncomputable def eggboxref10_Level.l0 : Nat → Int → List Int → Int → Int → List Int → List Bool → Option (List Int × Int)
  | 0, _, _, _, _, _, _ => none
  | k + 1, x1, x7, x8, x179000, x179001, x179002 => if x8 < x1 then ((eggboxref10_round.f k x179000 x179001 x179002 x7).bind fun t183 => ((eggboxref10_same.f k x7 t183).bind fun t186 => (if t186 = true then (some (x7, 0)) else (eggboxref10_Level.l0 k x1 t183 (wrap64 (x8 + 1)) x179000 x179001 x179002)))) else (some (x7, 0))
end
noncomputable def eggboxref10_Level.f (k : Nat) (a0_0 : Int) (l0_1 : List Int) (l0_2 : List Bool) (a1 : Int) : Option (List Int × Int) := (eggboxref08_Check.f k a0_0 l0_1 l0_2).bind fun t179 => (if t179 = 0 then (eggboxref10_Level.j0 k a1 t179 (decide (a1 < 0)) a0_0 l0_1 l0_2) else (eggboxref10_Level.j0 k a1 t179 false a0_0 l0_1 l0_2))
theorem eggboxref10_Level.mono_l : ∀ k, (∀ y0 y1 y2 y3 y4 y5, LeO (eggboxref10_Level.j0 k y0 y1 y2 y3 y4 y5) (eggboxref10_Level.j0 (k + 1) y0 y1 y2 y3 y4 y5)) ∧ (∀ y0 y1 y2 y3 y4, LeO (eggboxref10_Level.j1 k y0 y1 y2 y3 y4) (eggboxref10_Level.j1 (k + 1) y0 y1 y2 y3 y4)) ∧ (∀ y0 y1 y2 y3 y4 y5, LeO (eggboxref10_Level.l0 k y0 y1 y2 y3 y4 y5) (eggboxref10_Level.l0 (k + 1) y0 y1 y2 y3 y4 y5))
  | 0 => ⟨fun _ _ _ _ _ _ r h => by simp [eggboxref10_Level.j0] at h, fun _ _ _ _ _ r h => by simp [eggboxref10_Level.j1] at h, fun _ _ _ _ _ _ r h => by simp [eggboxref10_Level.l0] at h⟩
  | k + 1 => by
    obtain ⟨ih0, ih1, ih2⟩ := eggboxref10_Level.mono_l k
    refine ⟨?_, ?_, ?_⟩
    · intro y0 y1 y2 y3 y4 y5
      unfold eggboxref10_Level.j0
      repeat' first
      | (with_reducible exact ih0 _ _ _ _ _ _)
      | (with_reducible exact ih1 _ _ _ _ _)
      | (with_reducible exact ih2 _ _ _ _ _ _)
      | (with_reducible exact eggboxref08_Check.mono _ _ _ _)
      | (with_reducible exact eggboxref10_first.mono _ _ _ _)
      | (with_reducible exact eggboxref10_round.mono _ _ _ _ _)
      | (with_reducible exact eggboxref10_same.mono _ _ _)
      | (with_reducible exact LeO.refl _)
      | (with_reducible exact LeO.none _)
      | (with_reducible refine LeO.ite ?_ ?_)
      | (with_reducible refine LeO.bind ?_ (fun _ => ?_))
      | exact ih0 _ _ _ _ _ _
      | exact ih1 _ _ _ _ _
      | exact ih2 _ _ _ _ _ _
      | exact eggboxref08_Check.mono _ _ _ _
      | exact eggboxref10_first.mono _ _ _ _
      | exact eggboxref10_round.mono _ _ _ _ _
      | exact eggboxref10_same.mono _ _ _
      | exact LeO.none _
      | refine LeO.ite ?_ ?_
      | refine LeO.bind ?_ (fun _ => ?_)
    · intro y0 y1 y2 y3 y4
      unfold eggboxref10_Level.j1
      repeat' first
      | (with_reducible exact ih0 _ _ _ _ _ _)
      | (with_reducible exact ih1 _ _ _ _ _)
      | (with_reducible exact ih2 _ _ _ _ _ _)
      | (with_reducible exact eggboxref08_Check.mono _ _ _ _)
      | (with_reducible exact eggboxref10_first.mono _ _ _ _)
      | (with_reducible exact eggboxref10_round.mono _ _ _ _ _)
      | (with_reducible exact eggboxref10_same.mono _ _ _)
      | (with_reducible exact LeO.refl _)
      | (with_reducible exact LeO.none _)
      | (with_reducible refine LeO.ite ?_ ?_)
      | (with_reducible refine LeO.bind ?_ (fun _ => ?_))
      | exact ih0 _ _ _ _ _ _
      | exact ih1 _ _ _ _ _
      | exact ih2 _ _ _ _ _ _
      | exact eggboxref08_Check.mono _ _ _ _
      | exact eggboxref10_first.mono _ _ _ _
      | exact eggboxref10_round.mono _ _ _ _ _
      | exact eggboxref10_same.mono _ _ _
      | exact LeO.none _
      | refine LeO.ite ?_ ?_
      | refine LeO.bind ?_ (fun _ => ?_)
    · intro y0 y1 y2 y3 y4 y5
      unfold eggboxref10_Level.l0
      repeat' first
      | (with_reducible exact ih0 _ _ _ _ _ _)
      | (with_reducible exact ih1 _ _ _ _ _)
      | (with_reducible exact ih2 _ _ _ _ _ _)
      | (with_reducible exact eggboxref08_Check.mono _ _ _ _)
      | (with_reducible exact eggboxref10_first.mono _ _ _ _)
      | (with_reducible exact eggboxref10_round.mono _ _ _ _ _)
      | (with_reducible exact eggboxref10_same.mono _ _ _)
      | (with_reducible exact LeO.refl _)
      | (with_reducible exact LeO.none _)
      | (with_reducible refine LeO.ite ?_ ?_)
      | (with_reducible refine LeO.bind ?_ (fun _ => ?_))
      | exact ih0 _ _ _ _ _ _
      | exact ih1 _ _ _ _ _
      | exact ih2 _ _ _ _ _ _
      | exact eggboxref08_Check.mono _ _ _ _
      | exact eggboxref10_first.mono _ _ _ _
      | exact eggboxref10_round.mono _ _ _ _ _
      | exact eggboxref10_same.mono _ _ _
      | exact LeO.none _
      | refine LeO.ite ?_ ?_
      | refine LeO.bind ?_ (fun _ => ?_)
theorem eggboxref10_Level.mono : ∀ a0 a1 a2 a3 k, LeO (eggboxref10_Level.f k a0 a1 a2 a3) (eggboxref10_Level.f (k + 1) a0 a1 a2 a3) := by
  intro a0 a1 a2 a3 k
  obtain ⟨ih0, ih1, ih2⟩ := eggboxref10_Level.mono_l k
  unfold eggboxref10_Level.f
  repeat' first
      | (with_reducible exact ih0 _ _ _ _ _ _)
      | (with_reducible exact ih1 _ _ _ _ _)
      | (with_reducible exact ih2 _ _ _ _ _ _)
      | (with_reducible exact eggboxref08_Check.mono _ _ _ _)
      | (with_reducible exact eggboxref10_first.mono _ _ _ _)
      | (with_reducible exact eggboxref10_round.mono _ _ _ _ _)
      | (with_reducible exact eggboxref10_same.mono _ _ _)
      | (with_reducible exact LeO.refl _)
      | (with_reducible exact LeO.none _)
      | (with_reducible refine LeO.ite ?_ ?_)
      | (with_reducible refine LeO.bind ?_ (fun _ => ?_))
      | exact ih0 _ _ _ _ _ _
      | exact ih1 _ _ _ _ _
      | exact ih2 _ _ _ _ _ _
      | exact eggboxref08_Check.mono _ _ _ _
      | exact eggboxref10_first.mono _ _ _ _
      | exact eggboxref10_round.mono _ _ _ _ _
      | exact eggboxref10_same.mono _ _ _
      | exact LeO.none _
      | refine LeO.ite ?_ ?_
      | refine LeO.bind ?_ (fun _ => ?_)
set_option maxHeartbeats 8000000 in
set_option maxRecDepth 100000 in
theorem eggboxref10_Level.calls (k : Nat) (a0_0 : Int) (A0_1 : Option Addr) (c0_1 : Nat) (l0_1 : List Int) (A0_2 : Option Addr) (c0_2 : Nat) (l0_2 : List Bool) (a1 : Int) (r1 : List Int) (r2 : Int) (w : World) (hr0_1 : Kd.C (Kd.int .i64) w A0_1 l0_1.length l0_1) (hc0_1 : l0_1.length ≤ c0_1) (hr0_2 : Kd.C Kd.bool w A0_2 l0_2.length l0_2) (hc0_2 : l0_2.length ≤ c0_2) (h : eggboxref10_Level.f k a0_0 l0_1 l0_2 a1 = some (r1, r2)) :
    Calls Try.prog 40 #[.agg #[.int .i64 a0_0, .slice A0_1 l0_1.length c0_1, .slice A0_2 l0_2.length c0_2], .int .i64 a1] w fun e w' => ∃ v0_ : Value, e = .returned (.tuple #[v0_, .int .i64 r2]) ∧ Kd.R (Kd.int .i64) 3 w' w.heap.size (fun _ => True) v0_ r1 ∧ Below w.heap.size w w' := by
  have hu25 := Try.underlying25
  have HR0_1 := Aside0.mk hr0_1
  have HC0_1 := Aside0.mk hc0_1
  clear hr0_1 hc0_1
  have HR0_2 := Aside0.mk hr0_2
  have HC0_2 := Aside0.mk hc0_2
  clear hr0_2 hc0_2
  have HB := Aside0.mk (Below.refl w.heap.size w)
  have H : ((eggboxref08_Check.f k a0_0 l0_1 l0_2).bind fun t179 => (if t179 = 0 then (eggboxref10_Level.j0 k a1 t179 (decide (a1 < 0)) a0_0 l0_1 l0_2) else (eggboxref10_Level.j0 k a1 t179 false a0_0 l0_1 l0_2))) = some (r1, r2) := h
  clear h
  replace H := Option.bind_eq_some_iff.mp H
  obtain ⟨t179, A30, H⟩ := H
  replace H : (if t179 = 0 then (eggboxref10_Level.j0 k a1 t179 (decide (a1 < 0)) a0_0 l0_1 l0_2) else (eggboxref10_Level.j0 k a1 t179 false a0_0 l0_1 l0_2)) = some (r1, r2) := H
  have A3 := Aside0.mk A30
  clear A30
  have HC4 := Aside0.mk H
  clear H
  go_enter Try.func40, Try.ntmps40
  go_upto_region 2 with (first | ((with_reducible refine gate_dst (N := 2) rfl ?_); refine box_event ?hg (N := 2) ?hd (cs := #[.int .i64 a0_0, .slice A0_1 l0_1.length c0_1, .slice A0_2 l0_2.length c0_2]) (t := 25) ?hr ?_; (case hd => rfl); (case hg => rfl); (case hr => first | (go_simp; done) | (go_simp; rfl)); intro gb178 hg w5 hbox hb; have n0_ := Aside0.mk (below_step (by repeat (first | (with_reducible first | exact HB.out | apply below_alloc | apply pw_below_drewN | apply below_drew1) | exact HB.out)) hb); have n1_ := Aside0.mk (hbox); have n2_ := Aside0.mk ((by rw [hg]; exact (below_size (by repeat (first | (with_reducible first | exact HB.out | apply below_alloc | apply pw_below_drewN | apply below_drew1) | exact HB.out))) : w.heap.size ≤ gb178)); have n3_ := Aside0.mk ((by rw [hg]; exact (below_size (by repeat (first | (with_reducible first | exact HB.out | apply below_alloc | apply pw_below_drewN | apply below_drew1) | exact HB.out))) : w.heap.size ≤ gb178)); clear HB; have HB := n0_; have BK178 := n1_; have GW178 := n2_; have GE178 := n3_; clear n0_ n1_ n2_ n3_; clear hb hbox hg; have hcz6_0 : w5.cell? ⟨gb178, 0, none⟩ = some (.int .i64 a0_0) := (blk_cell BK178.out 0).trans rfl; have hcz6_1 : w5.cell? ⟨gb178, 1, none⟩ = some (.slice A0_1 l0_1.length c0_1) := (blk_cell BK178.out 1).trans rfl; have hcz6_2 : w5.cell? ⟨gb178, 2, none⟩ = some (.slice A0_2 l0_2.length c0_2) := (blk_cell BK178.out 2).trans rfl; have hfz6_0 := blk_frozen BK178.out 0; have hfz6_1 := blk_frozen BK178.out 1; have hfz6_2 := blk_frozen BK178.out 2) | ((with_reducible refine gate_callee (f := 63) rfl ?_); refine goesL_ (some 11) rfl rfl Try.func63 (by kernel_rfl) rfl #[.agg #[.int .i64 a0_0, .slice A0_1 l0_1.length c0_1, .slice A0_2 l0_2.length c0_2]] rfl (by (try simp only [List.map_toArray, List.map_cons, List.map_nil]); first | done | rfl | (simp only [List.length_drop, List.length_take]; rfl)) ?_; (with_reducible refine (eggboxref08_Check.calls k a0_0 _ _ l0_1 _ _ l0_2 t179 _ ?side1 ?side2 ?side3 ?side4 A3.out).mono ?_); (case side1 => repeat (first | exact (Kd.C_below HR0_1.out HB.out) | (with_reducible refine Kd.C_alloc ?_ _) | (with_reducible refine Kd.C_drewN ?_ _) | (with_reducible refine Kd.C_drew ?_))); (case side2 => exact HC0_1.out); (case side3 => repeat (first | exact (Kd.C_below HR0_2.out HB.out) | (with_reducible refine Kd.C_alloc ?_ _) | (with_reducible refine Kd.C_drewN ?_ _) | (with_reducible refine Kd.C_drew ?_))); (case side4 => exact HC0_2.out); rintro e w7 ⟨rfl, hb⟩; refine ⟨_, rfl, ?_⟩; have n0_ := Aside0.mk (blk_below (g := gb178) (o := .cells #[.int .i64 a0_0, .slice A0_1 l0_1.length c0_1, .slice A0_2 l0_2.length c0_2] 25 (0, 0)) (by (with_reducible repeat (first | refine blk_drewN ?_ _ | refine blk_drew ?_ | refine blk_alloc ?_ _)); exact BK178.out) hb); have n1_ := Aside0.mk (below_step (by repeat (first | (with_reducible first | exact HB.out | apply below_alloc | apply pw_below_drewN | apply below_drew1 | refine below_set ?_ GE178.out) | exact HB.out)) hb); clear BK178; clear HB; have BK178 := n0_; have HB := n1_; clear n0_ n1_; (try clear hb); (try clear hb2); (try clear hk); (try clear hi)))
  (try simp only [Act.put, List.setIfInBounds_toArray, List.set_cons_zero, List.set_cons_succ])
  go_cut [17] (fun v17 wc => ∃ (kq : Nat) (x17_3 : Bool), v17 = .bool x17_3 ∧ Aside0 (eggboxref10_Level.j0 kq a1 t179 x17_3 a0_0 l0_1 l0_2 = some (r1, r2)) ∧ Aside0 (kq ≤ k) ∧ Aside0 (wc.heap[gb178]? = some (.cells #[.int .i64 a0_0, (.slice A0_1 l0_1.length c0_1), (.slice A0_2 l0_2.length c0_2)] 25 (0, 0))) ∧ Aside0 (Below w.heap.size w wc))
  case first =>
    have H := HC4.out
    clear HC4
    by_cases c8 : t179 = 0
    · rw [if_pos c8] at H
      have c8b0 : (t179 == 0) = true := beq_iff_eq.mpr c8
      have c8b1 : (t179 != 0) = false := bne_eq_false_iff_eq.mpr c8
      clear c8
      (first | rw [c8b0] | (simp only [i64_w, i32_w]; rw [c8b0]) | skip)
      have H' := Aside0.mk H
      clear H
      go_wp2
      go_meet
      case rel => exact ⟨_, (decide (a1 < 0)), (by first | rfl | (simp; done) | (simp [*]; done)), H', ⟨by first | omega | exact Nat.le_refl _⟩, ⟨by (with_reducible repeat (first | refine blk_drewN ?_ _ | refine blk_drew ?_ | refine blk_alloc ?_ _)); exact BK178.out⟩, ⟨by repeat (first | (with_reducible first | exact HB.out | apply below_alloc | apply pw_below_drewN | apply below_drew1 | refine below_set ?_ GE178.out) | exact HB.out)⟩⟩
    · rw [if_neg c8] at H
      have c8b0 : (t179 == 0) = false := beq_eq_false_iff_ne.mpr c8
      have c8b1 : (t179 != 0) = true := bne_iff_ne.mpr c8
      (first | rw [c8b0] | (simp only [i64_w, i32_w]; rw [c8b0]) | skip)
      have H' := Aside0.mk H
      clear H
      go_wp2
      go_meet
      case rel => exact ⟨_, (false), (by first | rfl | (simp; done) | (simp [*]; done)), H', ⟨by first | omega | exact Nat.le_refl _⟩, ⟨by (with_reducible repeat (first | refine blk_drewN ?_ _ | refine blk_drew ?_ | refine blk_alloc ?_ _)); exact BK178.out⟩, ⟨by repeat (first | (with_reducible first | exact HB.out | apply below_alloc | apply pw_below_drewN | apply below_drew1 | refine below_set ?_ GE178.out) | exact HB.out)⟩⟩
  case rest =>
    clear HC4
    try clear p2
    try clear c4
    try clear c6
    try clear c8
    try clear c8b0
    try clear c8b1
    try clear hcz6_0
    try clear hcz6_1
    try clear hcz6_2
    try clear hfz6_0
    try clear hfz6_1
    try clear hfz6_2
    obtain ⟨kq, x17_3, rfl, HA, HJ3, BK178, HB⟩ := hcut
    cases kq with
    | zero => exact absurd HA.out (by simp [eggboxref10_Level.j0])
    | succ kj3 =>
      have H := HA.out
      clear HA
      simp only [eggboxref10_Level.j0] at H
      have HC9 := Aside0.mk H
      clear H
      go_upto_if 17 with (fail)
      go_cut [6] (fun v6 wc => ∃ (kq : Nat) (x6_8 : Int), v6 = .int .i64 x6_8 ∧ Aside0 (eggboxref10_Level.j1 kq a1 x6_8 a0_0 l0_1 l0_2 = some (r1, r2)) ∧ Aside0 (kq ≤ kj3) ∧ Aside0 (wc.heap[gb178]? = some (.cells #[.int .i64 a0_0, (.slice A0_1 l0_1.length c0_1), (.slice A0_2 l0_2.length c0_2)] 25 (0, 0))) ∧ Aside0 (Below w.heap.size w wc))
      case first =>
        have H := HC9.out
        clear HC9
        by_cases c10 : x17_3 = true
        · subst c10
          have H1 : (eggboxref10_Level.j1 kj3 a1 11 a0_0 l0_1 l0_2) = some (r1, r2) := by rw [if_pos rfl] at H; exact H
          clear H
          have H := H1
          clear H1
          have H' := Aside0.mk H
          clear H
          go_wp2
          go_meet
          case rel => exact ⟨_, (11), (by first | rfl | (simp; done) | (simp [*]; done)), H', ⟨by have := HJ3.out; first | omega | exact Nat.le_refl _⟩, ⟨by (with_reducible repeat (first | refine blk_drewN ?_ _ | refine blk_drew ?_ | refine blk_alloc ?_ _)); exact BK178.out⟩, ⟨by repeat (first | (with_reducible first | exact HB.out | apply below_alloc | apply pw_below_drewN | apply below_drew1 | refine below_set ?_ GE178.out) | exact HB.out)⟩⟩
        · replace c10 := Bool.eq_false_iff.mpr c10
          subst c10
          have H1 : (eggboxref10_Level.j1 kj3 a1 t179 a0_0 l0_1 l0_2) = some (r1, r2) := by rw [if_neg (show ¬ (false = true) by decide)] at H; exact H
          clear H
          have H := H1
          clear H1
          have H' := Aside0.mk H
          clear H
          go_wp2
          go_meet
          case rel => exact ⟨_, (t179), (by first | rfl | (simp; done) | (simp [*]; done)), H', ⟨by have := HJ3.out; first | omega | exact Nat.le_refl _⟩, ⟨by (with_reducible repeat (first | refine blk_drewN ?_ _ | refine blk_drew ?_ | refine blk_alloc ?_ _)); exact BK178.out⟩, ⟨by repeat (first | (with_reducible first | exact HB.out | apply below_alloc | apply pw_below_drewN | apply below_drew1 | refine below_set ?_ GE178.out) | exact HB.out)⟩⟩
      case rest =>
        clear HC9
        try clear c1
        try clear p2
        try clear c4
        try clear c6
        try clear c8
        try clear c8b0
        try clear c8b1
        try clear c10
        try clear hcz6_0
        try clear hcz6_1
        try clear hcz6_2
        try clear hfz6_0
        try clear hfz6_1
        try clear hfz6_2
        try clear p2
        obtain ⟨kq, x6_8, rfl, HA, HJ8, BK178, HB⟩ := hcut
        cases kq with
        | zero => exact absurd HA.out (by simp [eggboxref10_Level.j1])
        | succ kj8 =>
          have H := HA.out
          clear HA
          simp only [eggboxref10_Level.j1] at H
          by_cases c11 : x6_8 = 0
          · rw [if_pos c11] at H
            have c11b0 : (x6_8 == 0) = true := beq_iff_eq.mpr c11
            have c11b1 : (x6_8 != 0) = false := bne_eq_false_iff_eq.mpr c11
            clear c11
            replace H := Option.bind_eq_some_iff.mp H
            obtain ⟨t180, A120, H⟩ := H
            replace H : (eggboxref10_Level.l0 kj8 a1 t180 0 a0_0 l0_1 l0_2) = some (r1, r2) := H
            have A12 := Aside0.mk A120
            clear A120
            have H' := Aside0.mk H
            clear H
            have hcz13_0 : wc.cell? ⟨gb178, 0, none⟩ = some (.int .i64 a0_0) := (blk_cell BK178.out 0).trans rfl
            have hcz13_1 : wc.cell? ⟨gb178, 1, none⟩ = some (.slice A0_1 l0_1.length c0_1) := (blk_cell BK178.out 1).trans rfl
            have hcz13_2 : wc.cell? ⟨gb178, 2, none⟩ = some (.slice A0_2 l0_2.length c0_2) := (blk_cell BK178.out 2).trans rfl
            have hfz13_0 := blk_frozen BK178.out 0
            have hfz13_1 := blk_frozen BK178.out 1
            have hfz13_2 := blk_frozen BK178.out 2
            go_wp2_with (first | ((with_reducible refine gate_callee (f := 64) rfl ?_); refine goesL_ (some 22) rfl rfl Try.func64 (by kernel_rfl) rfl #[.agg #[.int .i64 a0_0, .slice A0_1 l0_1.length c0_1, .slice A0_2 l0_2.length c0_2]] rfl (by (try simp only [List.map_toArray, List.map_cons, List.map_nil]); first | done | rfl | (simp only [List.length_drop, List.length_take]; rfl)) ?_; (with_reducible refine (eggboxref10_first.calls kj8 a0_0 _ _ l0_1 _ _ l0_2 t180 _ ?side1 ?side2 ?side3 ?side4 A12.out).mono ?_); (case side1 => repeat (first | exact (Kd.C_below HR0_1.out HB.out) | (with_reducible refine Kd.C_alloc ?_ _) | (with_reducible refine Kd.C_drewN ?_ _) | (with_reducible refine Kd.C_drew ?_))); (case side2 => exact HC0_1.out); (case side3 => repeat (first | exact (Kd.C_below HR0_2.out HB.out) | (with_reducible refine Kd.C_alloc ?_ _) | (with_reducible refine Kd.C_drewN ?_ _) | (with_reducible refine Kd.C_drew ?_))); (case side4 => exact HC0_2.out); rintro e w14 ⟨v181, rfl, ho0, hb⟩; refine ⟨_, rfl, ?_⟩; have n0_ := Aside0.mk (Kd.R_lower ho0 (below_size (by repeat (first | (with_reducible first | exact HB.out | apply below_alloc | apply pw_below_drewN | apply below_drew1 | refine below_set ?_ GE178.out) | exact HB.out)))); have n1_ := Aside0.mk (blk_below (g := gb178) (o := .cells #[.int .i64 a0_0, .slice A0_1 l0_1.length c0_1, .slice A0_2 l0_2.length c0_2] 25 (0, 0)) (by (with_reducible repeat (first | refine blk_drewN ?_ _ | refine blk_drew ?_ | refine blk_alloc ?_ _)); exact BK178.out) hb); have n2_ := Aside0.mk (below_step (by repeat (first | (with_reducible first | exact HB.out | apply below_alloc | apply pw_below_drewN | apply below_drew1 | refine below_set ?_ GE178.out) | exact HB.out)) hb); clear BK178; clear HB; have HO182 := n0_; have BK178 := n1_; have HB := n2_; clear n0_ n1_ n2_; (try clear hb); (try clear hb2); (try clear hk); (try clear hi); (try clear ho0)))
            go_loopg [7, 8] kj8 (fun kq v7 v8 w' => ∃ (x7_3 : List Int) (x8_3 : Int), v8 = .int .i64 x8_3 ∧ Aside0 (eggboxref10_Level.l0 kq a1 x7_3 x8_3 a0_0 l0_1 l0_2 = some (r1, r2)) ∧ Aside0 (kq ≤ kj8) ∧ Aside0 (Kd.R (Kd.int .i64) 3 w' w.heap.size (fun _ => True) v7 x7_3) ∧ Aside0 (w'.heap[gb178]? = some (.cells #[.int .i64 a0_0, (.slice A0_1 l0_1.length c0_1), (.slice A0_2 l0_2.length c0_2)] 25 (0, 0))) ∧ Aside0 (Below w.heap.size w w'))
            case atStart => exact ⟨(t180), (0), (by first | rfl | (simp; done) | (simp [*]; done)), H', ⟨Nat.le_refl _⟩, ⟨by (with_reducible repeat (first | apply Kd.R_alloc | apply Kd.R_drewN | apply Kd.R_drew)); exact HO182.out⟩, ⟨by (with_reducible repeat (first | refine blk_drewN ?_ _ | refine blk_drew ?_ | refine blk_alloc ?_ _)); exact BK178.out⟩, ⟨by repeat (first | (with_reducible first | exact HB.out | apply below_alloc | apply pw_below_drewN | apply below_drew1 | refine below_set ?_ GE178.out) | exact HB.out)⟩⟩
            case round =>
              clear H'
              try clear c1
              try clear p2
              try clear c4
              try clear c6
              try clear c8
              try clear c8b0
              try clear c8b1
              try clear c10
              try clear c11
              try clear c11b0
              try clear c11b1
              try clear hcz13_0
              try clear hcz13_1
              try clear hcz13_2
              try clear hcz6_0
              try clear hcz6_1
              try clear hcz6_2
              try clear hfz13_0
              try clear hfz13_1
              try clear hfz13_2
              try clear hfz6_0
              try clear hfz6_1
              try clear hfz6_2
              try clear p2
              obtain ⟨x7_3, x8_3, rfl, HA, HK3, HO_7, BK178, HB⟩ := hrel
              cases gk with
              | zero => exact absurd HA.out (by simp [eggboxref10_Level.l0])
              | succ k3 =>
                have H := HA.out
                clear HA
                simp only [eggboxref10_Level.l0] at H
                by_cases c15 : x8_3 < a1
                · rw [if_pos c15] at H
                  have c15b0 : decide (x8_3 < a1) = true := decide_eq_true c15
                  clear c15
                  replace H := Option.bind_eq_some_iff.mp H
                  obtain ⟨t183, A160, H⟩ := H
                  replace H : ((eggboxref10_same.f k3 x7_3 t183).bind fun t186 => (if t186 = true then (some (x7_3, 0)) else (eggboxref10_Level.l0 k3 a1 t183 (wrap64 (x8_3 + 1)) a0_0 l0_1 l0_2))) = some (r1, r2) := H
                  have A16 := Aside0.mk A160
                  clear A160
                  replace H := Option.bind_eq_some_iff.mp H
                  obtain ⟨t186, A170, H⟩ := H
                  replace H : (if t186 = true then (some (x7_3, 0)) else (eggboxref10_Level.l0 k3 a1 t183 (wrap64 (x8_3 + 1)) a0_0 l0_1 l0_2)) = some (r1, r2) := H
                  have A17 := Aside0.mk A170
                  clear A170
                  by_cases c18 : t186 = true
                  · subst c18
                    have H1 : (some (x7_3, 0)) = some (r1, r2) := by rw [if_pos rfl] at H; exact H
                    clear H
                    have H := H1
                    clear H1
                    simp only [Option.some.injEq, Prod.mk.injEq] at H
                    obtain ⟨rfl, rfl⟩ := H
                    have hcz19_0 : wr.cell? ⟨gb178, 0, none⟩ = some (.int .i64 a0_0) := (blk_cell BK178.out 0).trans rfl
                    have hcz19_1 : wr.cell? ⟨gb178, 1, none⟩ = some (.slice A0_1 l0_1.length c0_1) := (blk_cell BK178.out 1).trans rfl
                    have hcz19_2 : wr.cell? ⟨gb178, 2, none⟩ = some (.slice A0_2 l0_2.length c0_2) := (blk_cell BK178.out 2).trans rfl
                    have hfz19_0 := blk_frozen BK178.out 0
                    have hfz19_1 := blk_frozen BK178.out 1
                    have hfz19_2 := blk_frozen BK178.out 2
                    obtain ⟨Ao20, co20, eo20⟩ := Kd.R_slice HO_7.out
                    subst eo20
                    go_wp2_with (first | ((with_reducible refine gate_callee (f := 65) rfl ?_); refine goesL_ (some 30) rfl rfl Try.func65 (by kernel_rfl) rfl #[.agg #[.int .i64 a0_0, .slice A0_1 l0_1.length c0_1, .slice A0_2 l0_2.length c0_2], .slice Ao20 x7_3.length co20] rfl (by (try simp only [List.map_toArray, List.map_cons, List.map_nil]); first | done | rfl | (simp only [List.length_drop, List.length_take]; rfl)) ?_; (with_reducible refine (eggboxref10_round.calls k3 a0_0 _ _ l0_1 _ _ l0_2 _ _ x7_3 t183 _ ?side1 ?side2 ?side3 ?side4 ?side5 ?side6 A16.out).mono ?_); (case side1 => repeat (first | exact (Kd.C_below HR0_1.out HB.out) | (with_reducible refine Kd.C_alloc ?_ _) | (with_reducible refine Kd.C_drewN ?_ _) | (with_reducible refine Kd.C_drew ?_))); (case side2 => exact HC0_1.out); (case side3 => repeat (first | exact (Kd.C_below HR0_2.out HB.out) | (with_reducible refine Kd.C_alloc ?_ _) | (with_reducible refine Kd.C_drewN ?_ _) | (with_reducible refine Kd.C_drew ?_))); (case side4 => exact HC0_2.out); (case side5 => repeat (first | exact (Kd.R_reads' HO_7.out).2.2 | (with_reducible refine Kd.C_alloc ?_ _) | (with_reducible refine Kd.C_drewN ?_ _) | (with_reducible refine Kd.C_drew ?_))); (case side6 => exact (Kd.R_reads' HO_7.out).2.1); rintro e w21 ⟨v184, rfl, ho0, hb⟩; refine ⟨_, rfl, ?_⟩; have n0_ := Aside0.mk (Kd.R_elder' (by (with_reducible repeat (first | apply Kd.R_alloc | apply Kd.R_drewN | apply Kd.R_drew)); exact HO_7.out) (Kd.R_base ho0) hb); have n1_ := Aside0.mk (Kd.R_lower (Kd.R_new' ho0 (Kd.R_lt (by (with_reducible repeat (first | apply Kd.R_alloc | apply Kd.R_drewN | apply Kd.R_drew)); exact HO_7.out))) (below_size (by repeat (first | (with_reducible first | exact HB.out | apply below_alloc | apply pw_below_drewN | apply below_drew1 | refine below_set ?_ GE178.out) | exact HB.out)))); have n2_ := Aside0.mk (blk_below (g := gb178) (o := .cells #[.int .i64 a0_0, .slice A0_1 l0_1.length c0_1, .slice A0_2 l0_2.length c0_2] 25 (0, 0)) (by (with_reducible repeat (first | refine blk_drewN ?_ _ | refine blk_drew ?_ | refine blk_alloc ?_ _)); exact BK178.out) hb); have n3_ := Aside0.mk (below_step (by repeat (first | (with_reducible first | exact HB.out | apply below_alloc | apply pw_below_drewN | apply below_drew1 | refine below_set ?_ GE178.out) | exact HB.out)) hb); clear HO_7; clear BK178; clear HB; have HO_7 := n0_; have HO185 := n1_; have BK178 := n2_; have HB := n3_; clear n0_ n1_ n2_ n3_; (try clear hb); (try clear hb2); (try clear hk); (try clear hi); (try clear ho0); obtain ⟨Ao22, co22, eo22⟩ := Kd.R_slice HO185.out; subst eo22) | ((with_reducible refine gate_callee (f := 66) rfl ?_); refine goesL_ (some 33) rfl rfl Try.func66 (by kernel_rfl) rfl #[.slice Ao20 x7_3.length co20, .slice Ao22 t183.length co22] rfl (by (try simp only [List.map_toArray, List.map_cons, List.map_nil]); first | done | rfl | (simp only [List.length_drop, List.length_take]; rfl)) ?_; (with_reducible refine (eggboxref10_same.calls k3 _ _ x7_3 _ _ t183 true _ ?side1 ?side2 ?side3 ?side4 A17.out).mono ?_); (case side1 => repeat (first | exact (Kd.R_reads' HO_7.out).2.2 | (with_reducible refine Kd.C_alloc ?_ _) | (with_reducible refine Kd.C_drewN ?_ _) | (with_reducible refine Kd.C_drew ?_))); (case side2 => exact (Kd.R_reads' HO_7.out).2.1); (case side3 => repeat (first | exact (Kd.R_reads' HO185.out).2.2 | (with_reducible refine Kd.C_alloc ?_ _) | (with_reducible refine Kd.C_drewN ?_ _) | (with_reducible refine Kd.C_drew ?_))); (case side4 => exact (Kd.R_reads' HO185.out).2.1); rintro e w' ⟨rfl, ⟨nd, rfl⟩⟩; refine ⟨_, rfl, ?_⟩))
                    go_ret2
                    exact ⟨_, by first | rfl | (simp [errW_none, errW_some] <;> rfl) | (simp [*, errW_none, errW_some] <;> rfl), by (with_reducible repeat (first | apply Kd.R_alloc | apply Kd.R_drewN | apply Kd.R_drew)); exact Kd.R_mono HO_7.out (fun _ hk => trivial), by repeat (first | (with_reducible first | exact HB.out | apply below_alloc | apply pw_below_drewN | apply below_drew1 | refine below_set ?_ GE178.out) | exact HB.out)⟩
                  · replace c18 := Bool.eq_false_iff.mpr c18
                    subst c18
                    have H1 : (eggboxref10_Level.l0 k3 a1 t183 (wrap64 (x8_3 + 1)) a0_0 l0_1 l0_2) = some (r1, r2) := by rw [if_neg (show ¬ (false = true) by decide)] at H; exact H
                    clear H
                    have H := H1
                    clear H1
                    have H' := Aside0.mk H
                    clear H
                    have hcz23_0 : wr.cell? ⟨gb178, 0, none⟩ = some (.int .i64 a0_0) := (blk_cell BK178.out 0).trans rfl
                    have hcz23_1 : wr.cell? ⟨gb178, 1, none⟩ = some (.slice A0_1 l0_1.length c0_1) := (blk_cell BK178.out 1).trans rfl
                    have hcz23_2 : wr.cell? ⟨gb178, 2, none⟩ = some (.slice A0_2 l0_2.length c0_2) := (blk_cell BK178.out 2).trans rfl
                    have hfz23_0 := blk_frozen BK178.out 0
                    have hfz23_1 := blk_frozen BK178.out 1
                    have hfz23_2 := blk_frozen BK178.out 2
                    obtain ⟨Ao24, co24, eo24⟩ := Kd.R_slice HO_7.out
                    subst eo24
                    go_wp2_with (first | ((with_reducible refine gate_callee (f := 65) rfl ?_); refine goesL_ (some 30) rfl rfl Try.func65 (by kernel_rfl) rfl #[.agg #[.int .i64 a0_0, .slice A0_1 l0_1.length c0_1, .slice A0_2 l0_2.length c0_2], .slice Ao24 x7_3.length co24] rfl (by (try simp only [List.map_toArray, List.map_cons, List.map_nil]); first | done | rfl | (simp only [List.length_drop, List.length_take]; rfl)) ?_; (with_reducible refine (eggboxref10_round.calls k3 a0_0 _ _ l0_1 _ _ l0_2 _ _ x7_3 t183 _ ?side1 ?side2 ?side3 ?side4 ?side5 ?side6 A16.out).mono ?_); (case side1 => repeat (first | exact (Kd.C_below HR0_1.out HB.out) | (with_reducible refine Kd.C_alloc ?_ _) | (with_reducible refine Kd.C_drewN ?_ _) | (with_reducible refine Kd.C_drew ?_))); (case side2 => exact HC0_1.out); (case side3 => repeat (first | exact (Kd.C_below HR0_2.out HB.out) | (with_reducible refine Kd.C_alloc ?_ _) | (with_reducible refine Kd.C_drewN ?_ _) | (with_reducible refine Kd.C_drew ?_))); (case side4 => exact HC0_2.out); (case side5 => repeat (first | exact (Kd.R_reads' HO_7.out).2.2 | (with_reducible refine Kd.C_alloc ?_ _) | (with_reducible refine Kd.C_drewN ?_ _) | (with_reducible refine Kd.C_drew ?_))); (case side6 => exact (Kd.R_reads' HO_7.out).2.1); rintro e w25 ⟨v184, rfl, ho0, hb⟩; refine ⟨_, rfl, ?_⟩; have n0_ := Aside0.mk (Kd.R_elder' (by (with_reducible repeat (first | apply Kd.R_alloc | apply Kd.R_drewN | apply Kd.R_drew)); exact HO_7.out) (Kd.R_base ho0) hb); have n1_ := Aside0.mk (Kd.R_lower (Kd.R_new' ho0 (Kd.R_lt (by (with_reducible repeat (first | apply Kd.R_alloc | apply Kd.R_drewN | apply Kd.R_drew)); exact HO_7.out))) (below_size (by repeat (first | (with_reducible first | exact HB.out | apply below_alloc | apply pw_below_drewN | apply below_drew1 | refine below_set ?_ GE178.out) | exact HB.out)))); have n2_ := Aside0.mk (blk_below (g := gb178) (o := .cells #[.int .i64 a0_0, .slice A0_1 l0_1.length c0_1, .slice A0_2 l0_2.length c0_2] 25 (0, 0)) (by (with_reducible repeat (first | refine blk_drewN ?_ _ | refine blk_drew ?_ | refine blk_alloc ?_ _)); exact BK178.out) hb); have n3_ := Aside0.mk (below_step (by repeat (first | (with_reducible first | exact HB.out | apply below_alloc | apply pw_below_drewN | apply below_drew1 | refine below_set ?_ GE178.out) | exact HB.out)) hb); clear HO_7; clear BK178; clear HB; have HO_7 := n0_; have HO185 := n1_; have BK178 := n2_; have HB := n3_; clear n0_ n1_ n2_ n3_; (try clear hb); (try clear hb2); (try clear hk); (try clear hi); (try clear ho0); obtain ⟨Ao26, co26, eo26⟩ := Kd.R_slice HO185.out; subst eo26) | ((with_reducible refine gate_callee (f := 66) rfl ?_); refine goesL_ (some 33) rfl rfl Try.func66 (by kernel_rfl) rfl #[.slice Ao24 x7_3.length co24, .slice Ao26 t183.length co26] rfl (by (try simp only [List.map_toArray, List.map_cons, List.map_nil]); first | done | rfl | (simp only [List.length_drop, List.length_take]; rfl)) ?_; (with_reducible refine (eggboxref10_same.calls k3 _ _ x7_3 _ _ t183 false _ ?side1 ?side2 ?side3 ?side4 A17.out).mono ?_); (case side1 => repeat (first | exact (Kd.R_reads' HO_7.out).2.2 | (with_reducible refine Kd.C_alloc ?_ _) | (with_reducible refine Kd.C_drewN ?_ _) | (with_reducible refine Kd.C_drew ?_))); (case side2 => exact (Kd.R_reads' HO_7.out).2.1); (case side3 => repeat (first | exact (Kd.R_reads' HO185.out).2.2 | (with_reducible refine Kd.C_alloc ?_ _) | (with_reducible refine Kd.C_drewN ?_ _) | (with_reducible refine Kd.C_drew ?_))); (case side4 => exact (Kd.R_reads' HO185.out).2.1); rintro e w' ⟨rfl, ⟨nd, rfl⟩⟩; refine ⟨_, rfl, ?_⟩))
                    go_roundg k3
                    case measure => have := HJ3.out; have := HJ8.out; have := HK3.out; omega
                    case rel => exact ⟨(t183), (wrap64 (x8_3 + 1)), (by first | rfl | (simp; done) | (simp [*]; done)), H', ⟨by have := HJ3.out; have := HJ8.out; have := HK3.out; omega⟩, ⟨by (with_reducible repeat (first | apply Kd.R_alloc | apply Kd.R_drewN | apply Kd.R_drew)); exact Kd.R_mono HO185.out (fun _ hk => trivial)⟩, ⟨by (with_reducible repeat (first | refine blk_drewN ?_ _ | refine blk_drew ?_ | refine blk_alloc ?_ _)); exact BK178.out⟩, ⟨by repeat (first | (with_reducible first | exact HB.out | apply below_alloc | apply pw_below_drewN | apply below_drew1 | refine below_set ?_ GE178.out) | exact HB.out)⟩⟩
                · rw [if_neg c15] at H
                  have c15b0 : decide (x8_3 < a1) = false := decide_eq_false c15
                  clear c15
                  simp only [Option.some.injEq, Prod.mk.injEq] at H
                  obtain ⟨rfl, rfl⟩ := H
                  go_wp2
                  go_ret2
                  exact ⟨_, by first | rfl | (simp [errW_none, errW_some] <;> rfl) | (simp [*, errW_none, errW_some] <;> rfl), by (with_reducible repeat (first | apply Kd.R_alloc | apply Kd.R_drewN | apply Kd.R_drew)); exact HO_7.out, by repeat (first | (with_reducible first | exact HB.out | apply below_alloc | apply pw_below_drewN | apply below_drew1 | refine below_set ?_ GE178.out) | exact HB.out)⟩
          · rw [if_neg c11] at H
            have c11b0 : (x6_8 == 0) = false := beq_eq_false_iff_ne.mpr c11
            have c11b1 : (x6_8 != 0) = true := bne_iff_ne.mpr c11
            simp only [Option.some.injEq, Prod.mk.injEq] at H
            obtain ⟨rfl, rfl⟩ := H
            go_wp2
            go_ret2
            exact ⟨_, by first | rfl | (simp [errW_none, errW_some] <;> rfl) | (simp [*, errW_none, errW_some] <;> rfl), by first | exact Kd.R_nil _ _ _ _ _ | exact Kd.N_nil _ _ _ _ _ | exact Kd.V_nil _ _ _ _ _ | exact Kd.Q_nil _ _ _ _ _ | exact Kd.S_nil _ _ _ _ _, by repeat (first | (with_reducible first | exact HB.out | apply below_alloc | apply pw_below_drewN | apply below_drew1 | refine below_set ?_ GE178.out) | exact HB.out)⟩

/-! ### eggboxref10_Classes: function 38 -/
noncomputable def eggboxref10_Classes.f (k : Nat) (a0_0 : Int) (l0_1 : List Int) (l0_2 : List Bool) : Option (List Int × Int) := (eggboxref10_Level.f k a0_0 l0_1 l0_2 (l0_2.length : Int)).bind fun bt188 => (some (bt188.1, bt188.2))
theorem eggboxref10_Classes.mono : ∀ a0 a1 a2 k, LeO (eggboxref10_Classes.f k a0 a1 a2) (eggboxref10_Classes.f (k + 1) a0 a1 a2) := by
  intro a0 a1 a2 k
  unfold eggboxref10_Classes.f
  repeat' first
      | (with_reducible exact eggboxref10_Level.mono _ _ _ _ _)
      | (with_reducible exact LeO.refl _)
      | (with_reducible exact LeO.none _)
      | (with_reducible refine LeO.ite ?_ ?_)
      | (with_reducible refine LeO.bind ?_ (fun _ => ?_))
      | exact eggboxref10_Level.mono _ _ _ _ _
      | exact LeO.none _
      | refine LeO.ite ?_ ?_
      | refine LeO.bind ?_ (fun _ => ?_)
set_option maxHeartbeats 8000000 in
set_option maxRecDepth 100000 in
theorem eggboxref10_Classes.calls (k : Nat) (a0_0 : Int) (A0_1 : Option Addr) (c0_1 : Nat) (l0_1 : List Int) (A0_2 : Option Addr) (c0_2 : Nat) (l0_2 : List Bool) (r1 : List Int) (r2 : Int) (w : World) (hr0_1 : Kd.C (Kd.int .i64) w A0_1 l0_1.length l0_1) (hc0_1 : l0_1.length ≤ c0_1) (hr0_2 : Kd.C Kd.bool w A0_2 l0_2.length l0_2) (hc0_2 : l0_2.length ≤ c0_2) (h : eggboxref10_Classes.f k a0_0 l0_1 l0_2 = some (r1, r2)) :
    Calls Try.prog 38 #[.agg #[.int .i64 a0_0, .slice A0_1 l0_1.length c0_1, .slice A0_2 l0_2.length c0_2]] w fun e w' => ∃ v0_ : Value, e = .returned (.tuple #[v0_, .int .i64 r2]) ∧ Kd.R (Kd.int .i64) 3 w' w.heap.size (fun _ => True) v0_ r1 ∧ Below w.heap.size w w' := by
  have hu25 := Try.underlying25
  have HR0_1 := Aside0.mk hr0_1
  have HC0_1 := Aside0.mk hc0_1
  clear hr0_1 hc0_1
  have HR0_2 := Aside0.mk hr0_2
  have HC0_2 := Aside0.mk hc0_2
  clear hr0_2 hc0_2
  have HB := Aside0.mk (Below.refl w.heap.size w)
  have H : ((eggboxref10_Level.f k a0_0 l0_1 l0_2 (l0_2.length : Int)).bind fun bt188 => (some (bt188.1, bt188.2))) = some (r1, r2) := h
  clear h
  replace H := Option.bind_eq_some_iff.mp H
  obtain ⟨⟨t188, t191⟩, A20, H⟩ := H
  replace H : (some (t188, t191)) = some (r1, r2) := H
  have A2 := Aside0.mk A20
  clear A20
  simp only [Option.some.injEq, Prod.mk.injEq] at H
  obtain ⟨rfl, rfl⟩ := H
  go_enter Try.func38, Try.ntmps38
  go_wp2_with (first | ((with_reducible refine gate_dst (N := 1) rfl ?_); refine box_event ?hg (N := 1) ?hd (cs := #[.int .i64 a0_0, .slice A0_1 l0_1.length c0_1, .slice A0_2 l0_2.length c0_2]) (t := 25) ?hr ?_; (case hd => rfl); (case hg => rfl); (case hr => first | (go_simp; done) | (go_simp; rfl)); intro gb187 hg w3 hbox hb; have n0_ := Aside0.mk (below_step (by repeat (first | (with_reducible first | exact HB.out | apply below_alloc | apply pw_below_drewN | apply below_drew1) | exact HB.out)) hb); have n1_ := Aside0.mk (hbox); have n2_ := Aside0.mk ((by rw [hg]; exact (below_size (by repeat (first | (with_reducible first | exact HB.out | apply below_alloc | apply pw_below_drewN | apply below_drew1) | exact HB.out))) : w.heap.size ≤ gb187)); have n3_ := Aside0.mk ((by rw [hg]; exact (below_size (by repeat (first | (with_reducible first | exact HB.out | apply below_alloc | apply pw_below_drewN | apply below_drew1) | exact HB.out))) : w.heap.size ≤ gb187)); clear HB; have HB := n0_; have BK187 := n1_; have GW187 := n2_; have GE187 := n3_; clear n0_ n1_ n2_ n3_; clear hb hbox hg; have hcz4_0 : w3.cell? ⟨gb187, 0, none⟩ = some (.int .i64 a0_0) := (blk_cell BK187.out 0).trans rfl; have hcz4_1 : w3.cell? ⟨gb187, 1, none⟩ = some (.slice A0_1 l0_1.length c0_1) := (blk_cell BK187.out 1).trans rfl; have hcz4_2 : w3.cell? ⟨gb187, 2, none⟩ = some (.slice A0_2 l0_2.length c0_2) := (blk_cell BK187.out 2).trans rfl; have hfz4_0 := blk_frozen BK187.out 0; have hfz4_1 := blk_frozen BK187.out 1; have hfz4_2 := blk_frozen BK187.out 2) | ((with_reducible refine gate_callee (f := 40) rfl ?_); refine goesL_ (some 8) rfl rfl Try.func40 (by kernel_rfl) rfl #[.agg #[.int .i64 a0_0, .slice A0_1 l0_1.length c0_1, .slice A0_2 l0_2.length c0_2], .int .i64 (l0_2.length : Int)] rfl (by (try simp only [List.map_toArray, List.map_cons, List.map_nil]); first | done | rfl | (simp only [List.length_drop, List.length_take]; rfl)) ?_; (with_reducible refine (eggboxref10_Level.calls k a0_0 _ _ l0_1 _ _ l0_2 (l0_2.length : Int) t188 t191 _ ?side1 ?side2 ?side3 ?side4 A2.out).mono ?_); (case side1 => repeat (first | exact (Kd.C_below HR0_1.out HB.out) | (with_reducible refine Kd.C_alloc ?_ _) | (with_reducible refine Kd.C_drewN ?_ _) | (with_reducible refine Kd.C_drew ?_))); (case side2 => exact HC0_1.out); (case side3 => repeat (first | exact (Kd.C_below HR0_2.out HB.out) | (with_reducible refine Kd.C_alloc ?_ _) | (with_reducible refine Kd.C_drewN ?_ _) | (with_reducible refine Kd.C_drew ?_))); (case side4 => exact HC0_2.out); rintro e w5 ⟨v189, rfl, ho0, hb⟩; refine ⟨_, rfl, ?_⟩; have n0_ := Aside0.mk (Kd.R_lower ho0 (below_size (by repeat (first | (with_reducible first | exact HB.out | apply below_alloc | apply pw_below_drewN | apply below_drew1 | refine below_set ?_ GE187.out) | exact HB.out)))); have n1_ := Aside0.mk (blk_below (g := gb187) (o := .cells #[.int .i64 a0_0, .slice A0_1 l0_1.length c0_1, .slice A0_2 l0_2.length c0_2] 25 (0, 0)) (by (with_reducible repeat (first | refine blk_drewN ?_ _ | refine blk_drew ?_ | refine blk_alloc ?_ _)); exact BK187.out) hb); have n2_ := Aside0.mk (below_step (by repeat (first | (with_reducible first | exact HB.out | apply below_alloc | apply pw_below_drewN | apply below_drew1 | refine below_set ?_ GE187.out) | exact HB.out)) hb); clear BK187; clear HB; have HO190 := n0_; have BK187 := n1_; have HB := n2_; clear n0_ n1_ n2_; (try clear hb); (try clear hb2); (try clear hk); (try clear hi); (try clear ho0)))
  go_ret2
  exact ⟨_, by first | rfl | (simp [errW_none, errW_some] <;> rfl) | (simp [*, errW_none, errW_some] <;> rfl), by (with_reducible repeat (first | apply Kd.R_alloc | apply Kd.R_drewN | apply Kd.R_drew)); exact HO190.out, by repeat (first | (with_reducible first | exact HB.out | apply below_alloc | apply pw_below_drewN | apply below_drew1 | refine below_set ?_ GE187.out) | exact HB.out)⟩

end Go.Proofs.Ytjedippbjjedlaa.PMinimMakes

namespace Go.Proofs.Ytjedippbjjedlaa
open Go.RowKit Go.Proofs.YtjedippbjjedlaaW.PrintWords Go.Proofs.Ytjedippbjjedlaa.PMinimMakes
set_option linter.unusedVariables false
/-- Rounds that are enough. -/
def rK (x : AutV) : Nat := 20 + (x.acc.length + 1) * x.acc.length + x.acc.length
theorem level_l0 {x : AutV} (h : AutOk x) {n : Int} (hn : n ≤ 9223372036854775807) (d : Nat) : ∀ (k i : Nat), x.acc.length - i = d → i ≤ (reps x.acc.length (cls x i)).length → (i : Int) ≤ n → rK x + d < k →
    eggboxref10_Level.l0 k n (zl (cls x i)) i x.k x.next x.acc = some (zl (cls x n.toNat), 0) := by
  have hm := h.2.2.2.1
  induction d with
  | zero =>
    intro k i hd hi hin hk
    obtain ⟨k, rfl⟩ : ∃ m, k = m + 1 := ⟨k - 1, by omega⟩
    have hr := reps_le x.acc.length (cls x i)
    simp only [eggboxref10_Level.l0]
    by_cases hlt : (i : Int) < n
    · unfold rK at hk
      rw [if_pos hlt, round_f h (cls_cls x i).len (by omega)]
      simp only [Option.bind_some]
      unfold eggboxref10_same.f
      have hs := same_f (zl (cls x i)).length k 0 (zl (cls x i)) (zl (rnd x (cls x i))) (by rw [zl_len, zl_len, rnd_len]) (by rw [zl_len, (cls_cls x i).len]; omega) (by omega) (by omega) (fun j hj => by omega) (by rw [zl_len, (cls_cls x i).len]; omega)
      rw [show ((0 : Nat) : Int) = 0 from rfl] at hs
      rw [hs]
      simp only [Option.bind_some]
      by_cases e : rnd x (cls x i) = cls x i
      · rw [decide_eq_true (by rw [e]), if_pos rfl]
        have hst := itr_stop x (krl (st0 x)) i e (n.toNat - i)
        rw [show i + (n.toNat - i) = n.toNat by omega] at hst
        have hst2 : cls x n.toNat = cls x i := hst
        rw [hst2]
      · obtain ⟨h1, h2⟩ := cls_more hi e
        have := reps_le x.acc.length (cls x (i + 1))
        omega
    · rw [if_neg hlt, show n.toNat = i by omega]
  | succ d ih =>
    intro k i hd hi hin hk
    obtain ⟨k, rfl⟩ : ∃ m, k = m + 1 := ⟨k - 1, by omega⟩
    simp only [eggboxref10_Level.l0]
    by_cases hlt : (i : Int) < n
    · have hk' := hk
      unfold rK at hk'
      rw [if_pos hlt, round_f h (cls_cls x i).len (by omega)]
      simp only [Option.bind_some]
      unfold eggboxref10_same.f
      have hs := same_f (zl (cls x i)).length k 0 (zl (cls x i)) (zl (rnd x (cls x i))) (by rw [zl_len, zl_len, rnd_len]) (by rw [zl_len, (cls_cls x i).len]; omega) (by omega) (by omega) (fun j hj => by omega) (by rw [zl_len, (cls_cls x i).len]; omega)
      rw [show ((0 : Nat) : Int) = 0 from rfl] at hs
      rw [hs]
      simp only [Option.bind_some]
      by_cases e : rnd x (cls x i) = cls x i
      · rw [decide_eq_true (by rw [e]), if_pos rfl]
        have hst := itr_stop x (krl (st0 x)) i e (n.toNat - i)
        rw [show i + (n.toNat - i) = n.toNat by omega] at hst
        have hst2 : cls x n.toNat = cls x i := hst
        rw [hst2]
      · rw [decide_eq_false (fun hh => e (zl_inj.1 hh).symm), if_neg (by decide), w_in ⟨by omega, by omega⟩]
        obtain ⟨h1, h2⟩ := cls_more hi e
        have := ih k (i + 1) (by omega) h1 (by omega) (by omega)
        rw [h2] at this
        push_cast at this
        exact this
    · rw [if_neg hlt, show n.toNat = i by omega]
theorem level_f (x : AutV) {n : Int} (hn : n ≤ 9223372036854775807) {k : Nat} (hk : rK x + x.acc.length + 3 < k) : eggboxref10_Level.f k x.k x.next x.acc n = some (zl (lvL x n), lvE x n) := by
  unfold eggboxref10_Level.f eggboxref08_Check.f
  simp only [Option.bind_some]
  obtain ⟨k, rfl⟩ : ∃ m, k = m + 1 := ⟨k - 1, by omega⟩
  obtain ⟨k, rfl⟩ : ∃ m, k = m + 1 := ⟨k - 1, by omega⟩
  show (if autE x = 0 then _ else _) = _
  by_cases h0 : autE x = 0
  · have hx := autE_is h0
    rw [if_pos h0, h0]
    by_cases hneg : n < 0
    · have e0 : lvE x n = 11 := by unfold lvE; rw [if_pos h0, if_pos hneg]
      have e1 : lvL x n = [] := by unfold lvL; rw [e0]; rfl
      rw [e0, e1, decide_eq_true hneg]
      simp only [eggboxref10_Level.j0, eggboxref10_Level.j1]
      rfl
    · have e0 : lvE x n = 0 := by unfold lvE; rw [if_pos h0, if_neg hneg]
      have e1 : lvL x n = cls x n.toNat := by unfold lvL; rw [if_pos e0]
      rw [e0, e1, decide_eq_false hneg]
      simp only [eggboxref10_Level.j0, eggboxref10_Level.j1]
      rw [if_neg (by decide), if_pos trivial]
      unfold eggboxref10_first.f
      rw [if_pos hx.2.2.2.1]
      simp only [Option.bind_some]
      exact level_l0 hx hn x.acc.length k 0 (by omega) (Nat.zero_le _) (by omega) (by omega)
  · have h80 : autE x = 80 := autE_no (fun h => h0 (autE_ok h))
    have e0 : lvE x n = 80 := by unfold lvE; rw [if_neg h0]
    have e1 : lvL x n = [] := by unfold lvL; rw [e0]; rfl
    rw [if_neg h0, h80, e0, e1]
    simp only [eggboxref10_Level.j0, eggboxref10_Level.j1]
    rfl
theorem classes_f (x : AutV) {k : Nat} (hx0 : x.acc.length ≤ 9223372036854775807) (hk : rK x + x.acc.length + 3 < k) : eggboxref10_Classes.f k x.k x.next x.acc = some (zl (clL x), autE x) := by
  unfold eggboxref10_Classes.f
  have h := level_f x (n := (x.acc.length : Int)) (by omega) hk
  rw [h]
  have e0 : lvE x (x.acc.length : Int) = autE x := by
    unfold lvE
    by_cases h0 : autE x = 0
    · rw [if_pos h0, if_neg (by omega), h0]
    · rw [if_neg h0, autE_no (fun h => h0 (autE_ok h))]
  have e1 : lvL x (x.acc.length : Int) = clL x := by
    unfold lvL clL
    rw [e0, Int.toNat_natCast]
  rw [e0, e1]
  rfl
end Go.Proofs.Ytjedippbjjedlaa

