/- Merged by tools/merge2.py out of: XMnA XMnB XMnC XMnD XMnE XMnF XMnG XMnH XMnI XMin XMnJ XMnK (a claim bears 60 files at most). -/
import Derived.Test.YtjedippbjjedlaaA1
import Derived.BigQuiet
import Derived.DeepKeys4
import Derived.WalkMore
namespace Go.Proofs.Ytjedippbjjedlaa
open Go.RowKit Go.ChangeMaps Go.Proofs.YtjedippbjjedlaaW.PrintWords
open Go.Maps
set_option linter.unusedSimpArgs false
set_option linter.unusedVariables false
/-- The entries after k places: the least places of their numbers. -/
def les (l : List Nat) (k : Nat) : List (Value × Value) := ((List.range k).filter fun t => kr l t == t).map fun t => (.int .i64 ((l.getD t 0 : Nat) : Int), .int .i64 (t : Int))
theorem les_mem {l : List Nat} {k : Nat} {p : Value × Value} (h : p ∈ les l k) : ∃ t, t < k ∧ kr l t = t ∧ p = (.int .i64 ((l.getD t 0 : Nat) : Int), .int .i64 (t : Int)) := by
  obtain ⟨t, ht, rfl⟩ := List.mem_map.1 h
  obtain ⟨h1, h2⟩ := List.mem_filter.1 ht
  exact ⟨t, List.mem_range.1 h1, by simpa using h2, rfl⟩
theorem les_of {l : List Nat} {k t : Nat} (h : t < k) (h' : kr l t = t) : (Value.int .i64 ((l.getD t 0 : Nat) : Int), Value.int .i64 (t : Int)) ∈ les l k :=
  List.mem_map.2 ⟨t, List.mem_filter.2 ⟨List.mem_range.2 h, by simpa using h'⟩, rfl⟩
theorem les_new {l : List Nat} {k : Nat} (h : kr l k = k) : les l (k + 1) = les l k ++ [(.int .i64 ((l.getD k 0 : Nat) : Int), .int .i64 (k : Int))] := by
  unfold les
  rw [List.range_succ, List.filter_append, List.map_append]
  simp [List.filter_cons, h]
theorem les_old {l : List Nat} {k : Nat} (h : kr l k ≠ k) : les l (k + 1) = les l k := by
  unfold les
  rw [List.range_succ, List.filter_append, List.map_append]
  simp [List.filter_cons, h]
theorem kr_kr (l : List Nat) (i : Nat) : kr l (kr l i) = kr l i := by
  obtain ⟨h1, h2, h3⟩ := kr_spec l i
  exact kr_eq (Nat.le_refl _) (fun k hk => by rw [h2]; exact h3 k hk) rfl
theorem kr_uni {l : List Nat} {i t : Nat} (ht : t < i) (hk : kr l t = t) (he : l.getD t 0 = l.getD i 0) : t = kr l i := by
  obtain ⟨h1, h2, h3⟩ := kr_spec l i
  obtain ⟨g1, g2, g3⟩ := kr_spec l t
  rcases Nat.lt_trichotomy t (kr l i) with h | h | h
  · exact absurd he (h3 t h)
  · exact h
  · rw [hk] at g3
    exact absurd (h2.trans he.symm) (g3 _ h)
theorem int_law : Keyed Try.prog 3 := int_keyed Try.underlying3
theorem int_key (x : Int) (h : -9223372036854775808 ≤ x ∧ x ≤ 9223372036854775807) : keyOf Try.prog 3 (.int .i64 x) = some (.int .i64 x) :=
  keyOf_int_mk Try.underlying3 (by
    show (decide (IntKind.i64.min ≤ x) && decide (x ≤ IntKind.i64.max)) = true
    rw [show IntKind.i64.min = -9223372036854775808 by rfl, show IntKind.i64.max = 9223372036854775807 by rfl, decide_eq_true h.1, decide_eq_true h.2]; rfl)
theorem les_keys {l : List Nat} {k : Nat} (hl : ∀ t, l.getD t 0 ≤ 9223372036854775807) : ∀ p ∈ les l k, ∃ q, keyOf Try.prog 3 p.1 = some q := fun p hp => by
  obtain ⟨t, _, _, rfl⟩ := les_mem hp
  have := hl t
  exact ⟨_, int_key _ (by omega)⟩
/-- What a look-up at place k tells. -/
theorem les_look {l : List Nat} {k : Nat} (hl : ∀ t, l.getD t 0 ≤ 9223372036854775807) {w : World} {b : Nat} (h : MapIs w b (les l k)) (c : Bool) :
    (Instr.lookup 74 (.map (some b)) (.int .i64 ((l.getD k 0 : Nat) : Int)) c).run Try.prog w = .ok (if kr l k = k then (if c then .tuple #[.int .i64 0, .bool false] else .int .i64 0) else (if c then .tuple #[.int .i64 (kr l k : Nat), .bool true] else .int .i64 (kr l k : Nat))) w := by
  have hz : (zeroValue 3).run Try.prog w = .ok (.int .i64 0) w := by kernel_rfl
  obtain ⟨h1, h2, h3⟩ := kr_spec l k
  have hb := hl k
  by_cases hk : kr l k = k
  · rw [if_pos hk]
    exact h.look_no int_law (les_keys hl) Try.underlying74 hz (int_key _ (by omega)) (fun p hp he => by
      obtain ⟨t, ht, hkt, rfl⟩ := les_mem hp
      rw [hk] at h3
      simp only [Value.int.injEq, true_and] at he
      exact h3 t ht (by omega)) c
  · rw [if_neg hk]
    exact h.look_yes int_law (les_keys hl) Try.underlying74 hz (int_key _ (by omega)) ⟨_, les_of (by omega) (kr_kr l k), by rw [h2]⟩ (fun p hp he => by
      obtain ⟨t, ht, hkt, rfl⟩ := les_mem hp
      simp only [Value.int.injEq, true_and] at he
      rw [kr_uni ht hkt (by omega)]) c
/-- .. and, once it is there. -/
theorem les_look2 {l : List Nat} {k : Nat} (hl : ∀ t, l.getD t 0 ≤ 9223372036854775807) {w : World} {b : Nat} (h : MapIs w b (les l (k + 1))) :
    (Instr.lookup 74 (.map (some b)) (.int .i64 ((l.getD k 0 : Nat) : Int)) false).run Try.prog w = .ok (.int .i64 (kr l k : Nat)) w := by
  have hz : (zeroValue 3).run Try.prog w = .ok (.int .i64 0) w := by kernel_rfl
  obtain ⟨h1, h2, h3⟩ := kr_spec l k
  have hb := hl k
  exact h.look_yes int_law (les_keys hl) Try.underlying74 hz (int_key _ (by omega)) ⟨_, les_of (by omega) (kr_kr l k), by rw [h2]⟩ (fun p hp he => by
      obtain ⟨t, ht, hkt, rfl⟩ := les_mem hp
      simp only [Value.int.injEq, true_and] at he
      by_cases e : t = k
      · subst e; rw [hkt]
      · rw [kr_uni (i := k) (by omega) hkt (by omega)]) false
theorem les_put {l : List Nat} {k : Nat} (hl : ∀ t, l.getD t 0 ≤ 9223372036854775807) (hk : kr l k = k) {w : World} {b : Nat} (h : MapIs w b (les l k)) :
    ∃ w', (Instr.mapUpdate 74 (.map (some b)) (.int .i64 ((l.getD k 0 : Nat) : Int)) (.int .i64 (k : Int))).run Try.prog w = .ok () w' ∧ MapIs w' b (les l (k + 1)) ∧ Turned w w' b := by
  obtain ⟨h1, h2, h3⟩ := kr_spec l k
  have hb := hl k
  rw [les_new hk]
  exact h.put int_law (les_keys hl) Try.underlying74 (int_key _ (by omega)) (fun p hp he => by
    obtain ⟨t, ht, hkt, rfl⟩ := les_mem hp
    rw [hk] at h3
    simp only [Value.int.injEq, true_and] at he
    exact h3 t ht (by omega)) _
set_option maxRecDepth 100000 in
set_option maxHeartbeats 4000000 in
theorem least_any (A : Option Addr) (c : Nat) (l : List Nat) (hn : l.length ≤ 1000000) (hl : ∀ t, l.getD t 0 ≤ 9223372036854775807) (w : World) (hr : Kd.C (Kd.int .i64) w A l.length (zl l)) :
    Calls Try.prog 83 #[.slice A l.length c] w fun e w' => ∃ v, e = .returned v ∧ Own w' w.heap.size v (zl (krl l)) ∧ Below w.heap.size w w' := by
  have HR := Aside0.mk hr
  have HL := Lib.hid hl
  have hmm := @run_makeMap Try.prog
  clear hr hl
  go_enter Try.func83, Try.ntmps83
  go_wp2_with (refine wpl_make l.length hn rfl _ _ rfl rfl rfl ?_)
  clear hmm
  go_loopw [15] (fun i wr => ∃ k : Nat, k ≤ l.length ∧ i = .int .i64 k ∧ Hid (MapIs wr w.heap.size (les l k) ∧ wr.heap[w.heap.size + 1]? = some (.cells (img (krp l l.length k 0)) 3 (0, 0)) ∧ Below w.heap.size w wr)) (fun i _ => l.length - (intOf i).toNat)
  case atStart =>
    refine ⟨0, by omega, rfl, Lib.hid ⟨?_, ?_, bl_alloc (bl_alloc (Below.refl _ _) _) _⟩⟩
    · exact (MapIs.new w).of (hp_old (hp_new rfl) |>.trans (hp_new rfl).symm)
    · rw [krp_start]; exact hp_new (by simp)
  case round =>
    obtain ⟨k, hk, rfl, H⟩ := hrel
    by_cases hkl : k < l.length
    · obtain ⟨ad, rfl, hcell⟩ := Kd.at_int (Kd.C_below HR.out H.out.2.2) (k : Int) (by omega) (by omega)
      rw [Int.toNat_natCast, zl_rd] at hcell
      have hb := HL.out k
      have hkb := (kr_spec l k).1
      by_cases hkk : kr l k = k
      · have L1 := les_look HL.out H.out.1 true
        rw [if_pos hkk, if_pos rfl] at L1
        obtain ⟨w', hp, hM, hT⟩ := les_put HL.out hkk H.out.1
        have L2 := les_look2 HL.out hM
        rw [hkk] at L2
        have hO : w'.heap[w.heap.size + 1]? = some (.cells (img (krp l l.length k 0)) 3 (0, 0)) := (hT.block _ (by omega)).trans H.out.2.1
        have d1 : w'.cell? ⟨w.heap.size + 1, k, none⟩ = some (.int .i64 ((0 : Nat) : Int)) := by rw [cell_of_row _ _ _ _ _ _ hO, img_get _ _ (by rw [krp_len]; omega), krp_get _ _ _ _ hkl]
        have f1 : w'.frozen? ⟨w.heap.size + 1, k, none⟩ = false := frozen_of_row _ _ _ _ _ hO
        have HS : Hid (MapIs (w'.setCell ⟨w.heap.size + 1, k, none⟩ (.int .i64 (k : Int))) w.heap.size (les l (k + 1)) ∧ (w'.setCell ⟨w.heap.size + 1, k, none⟩ (.int .i64 (k : Int))).heap[w.heap.size + 1]? = some (.cells (img (krp l l.length (k + 1) 0)) 3 (0, 0)) ∧ Below w.heap.size w (w'.setCell ⟨w.heap.size + 1, k, none⟩ (.int .i64 (k : Int)))) := by
          refine Lib.hid ⟨?_, ?_, bl_cell (hT.below H.out.2.2 (Nat.le_refl _)) (by show w.heap.size ≤ w.heap.size + 1; omega) _⟩
          · obtain ⟨es, cl, h1, h2⟩ := hM
            exact ⟨es, cl, hp_cell (by show w.heap.size ≠ w.heap.size + 1; omega) h1, h2⟩
          · rw [heap_setCell_same _ _ _ _ _ _ hO, img_set, krp_set, ← krp_next, hkk]
        have HL1 := Aside0.mk L1; have HP := Aside0.mk hp; have HL2 := Aside0.mk L2
        clear L1 hp L2 hM hT hO H hkk hkb
        generalize l.getD k 0 = y at *
        go_wp2_with (first | (refine mp_look _ _ _ _ rfl _ _ _ rfl rfl rfl HL1.out ?_) | (refine mp_put _ _ _ _ rfl _ _ _ rfl rfl rfl rfl HP.out ?_) | (refine mp_look _ _ _ _ rfl _ _ _ rfl rfl rfl HL2.out ?_))
        go_roundw
        case rel => exact ⟨k + 1, by omega, by go_num, HS⟩
        case measure => simp [intOf]; omega
      · have L1 := les_look HL.out H.out.1 true
        rw [if_neg hkk, if_pos rfl] at L1
        have L2 := les_look HL.out H.out.1 false
        rw [if_neg hkk, if_neg (by decide)] at L2
        have hO := H.out.2.1
        have d1 : wr.cell? ⟨w.heap.size + 1, k, none⟩ = some (.int .i64 ((0 : Nat) : Int)) := by rw [cell_of_row _ _ _ _ _ _ hO, img_get _ _ (by rw [krp_len]; omega), krp_get _ _ _ _ hkl]
        have f1 : wr.frozen? ⟨w.heap.size + 1, k, none⟩ = false := frozen_of_row _ _ _ _ _ hO
        have HS : Hid (MapIs (wr.setCell ⟨w.heap.size + 1, k, none⟩ (.int .i64 ((kr l k : Nat) : Int))) w.heap.size (les l (k + 1)) ∧ (wr.setCell ⟨w.heap.size + 1, k, none⟩ (.int .i64 ((kr l k : Nat) : Int))).heap[w.heap.size + 1]? = some (.cells (img (krp l l.length (k + 1) 0)) 3 (0, 0)) ∧ Below w.heap.size w (wr.setCell ⟨w.heap.size + 1, k, none⟩ (.int .i64 ((kr l k : Nat) : Int)))) := by
          refine Lib.hid ⟨?_, ?_, bl_cell H.out.2.2 (by show w.heap.size ≤ w.heap.size + 1; omega) _⟩
          · rw [les_old hkk]
            obtain ⟨es, cl, h1, h2⟩ := H.out.1
            exact ⟨es, cl, hp_cell (by show w.heap.size ≠ w.heap.size + 1; omega) h1, h2⟩
          · rw [heap_setCell_same _ _ _ _ _ _ hO, img_set, krp_set, ← krp_next]
        have HL1 := Aside0.mk L1; have HL2 := Aside0.mk L2
        clear L1 L2 hO H hkk
        generalize l.getD k 0 = y at *
        generalize kr l k = z at *
        go_wp2_with (first | (refine mp_look _ _ _ _ rfl _ _ _ rfl rfl rfl HL1.out ?_) | (refine mp_look _ _ _ _ rfl _ _ _ rfl rfl rfl HL2.out ?_))
        go_roundw
        case rel => exact ⟨k + 1, by omega, by go_num, HS⟩
        case measure => simp [intOf]; omega
    · have e8 : k = l.length := by omega
      subst e8
      go_wp2
      go_ret
      have hK : krp l l.length l.length 0 = krl l := krp_end rfl fun _ _ => rfl
      exact ⟨_, rfl, by rw [← hK]; exact own_img H.out.2.1 (by omega) (krp_len _ _ _ _) hn, H.out.2.2⟩
end Go.Proofs.Ytjedippbjjedlaa

namespace Go.Proofs.Ytjedippbjjedlaa
open Go.RowKit Go.Proofs.YtjedippbjjedlaaW.PrintWords
set_option linter.unusedSimpArgs false
set_option linter.unusedVariables false
/-- Accepted ones and others. -/
def st0 (x : AutV) : List Nat := x.acc.map fun b => if b then 1 else 0
theorem st0_len (x : AutV) : (st0 x).length = x.acc.length := by simp [st0]
/-- .. the first k of them. -/
def stk (x : AutV) (k : Nat) : List Nat := (List.range x.acc.length).map fun i => if i < k then (if rdOf false x.acc i then 1 else 0) else 0
theorem stk_len (x : AutV) (k : Nat) : (stk x k).length = x.acc.length := by simp [stk]
theorem stk_zero (x : AutV) : stk x 0 = List.replicate x.acc.length 0 := by
  apply List.ext_getElem (by simp [stk])
  intro i h1 h2
  simp [stk]
theorem stk_end (x : AutV) : stk x x.acc.length = st0 x := by
  apply List.ext_getElem (by simp [stk, st0])
  intro i h1 h2
  have hi : i < x.acc.length := by rw [stk_len] at h1; exact h1
  simp [stk, st0, rdOf, hi, List.getD_eq_getElem?_getD]
theorem stk_get (x : AutV) (k : Nat) (h : k < x.acc.length) : (stk x k).getD k 0 = 0 := by simp [stk, List.getD_eq_getElem?_getD, h]
theorem stk_one (x : AutV) (k : Nat) (h : rdOf false x.acc k = true) : (stk x k).set k 1 = stk x (k + 1) := by
  apply List.ext_getElem (by simp [stk])
  intro i h1 h2
  simp only [stk, List.getElem_set, List.getElem_map, List.getElem_range]
  by_cases e : k = i
  · subst e; simp [h]
  · rw [if_neg e]
    by_cases hi : i < k
    · simp [hi, show i < k + 1 by omega]
    · simp [hi, show ¬ i < k + 1 by omega]
theorem stk_no (x : AutV) (k : Nat) (h : rdOf false x.acc k = false) : stk x k = stk x (k + 1) := by
  apply List.ext_getElem (by simp [stk])
  intro i h1 h2
  simp only [stk, List.getElem_map, List.getElem_range]
  by_cases hi : i < k
  · simp [hi, show i < k + 1 by omega]
  · rw [if_neg hi]
    by_cases e : k = i
    · subst e; simp [h]
    · simp [show ¬ i < k + 1 by omega]
theorem st0_le (x : AutV) (t : Nat) : (st0 x).getD t 0 ≤ 9223372036854775807 := by
  simp only [st0, List.getD_eq_getElem?_getD, List.getElem?_map]
  cases x.acc[t]? with
  | none => simp
  | some b => cases b <;> simp
set_option maxRecDepth 100000 in
set_option maxHeartbeats 4000000 in
theorem start_any (x : AutV) (A : Option Addr) (c : Nat) (B : Option Addr) (d : Nat) (hn : x.acc.length ≤ 1000000) (w : World) (hr : ARd w x A B) :
    Calls Try.prog 76 #[.agg (ac x A c B d)] w fun e w' => ∃ v, e = .returned v ∧ Own w' w.heap.size v (zl (krl (st0 x))) ∧ Below w.heap.size w w' := by
  have HR := Aside0.mk hr
  have H0 := Lib.hid (hp_new (w := w) (o := AB x A c B d) rfl)
  clear hr
  have LE := Aside0.mk (fun (A : Option Addr) (c : Nat) (W : World) (h : Kd.C (Kd.int .i64) W A (st0 x).length (zl (st0 x))) => least_any A c (st0 x) (by rw [st0_len]; exact hn) (st0_le x) W h)
  rw [st0_len] at LE
  go_enter Try.func76, Try.ntmps76
  go_wp2_with (refine wpl_make x.acc.length hn rfl _ _ rfl rfl rfl ?_)
  go_loopw [13] (fun i wr => ∃ k : Nat, k ≤ x.acc.length ∧ i = .int .i64 k ∧ Hid (wr.heap[w.heap.size + 1]? = some (.cells (img (stk x k)) 3 (0, 0)) ∧ Below w.heap.size w wr)) (fun i _ => x.acc.length - (intOf i).toNat)
  case atStart => exact ⟨0, by omega, rfl, Lib.hid ⟨by rw [stk_zero]; exact hp_new (by simp), bl_alloc (bl_alloc (Below.refl _ _) _) _⟩⟩
  case round =>
    obtain ⟨k, hk, rfl, H⟩ := hrel
    by_cases hkl : k < x.acc.length
    · obtain ⟨ad, hA, hcell⟩ := Kd.at_bool (Kd.C_below HR.out.acc H.out.2) (k : Int) (by omega) (by omega)
      rw [Int.toNat_natCast] at hcell
      have d1 : wr.cell? ⟨w.heap.size + 1, k, none⟩ = some (.int .i64 ((0 : Nat) : Int)) := by rw [cell_of_row _ _ _ _ _ _ H.out.1, img_get _ _ (by rw [stk_len]; omega), stk_get _ _ hkl]
      have f1 : wr.frozen? ⟨w.heap.size + 1, k, none⟩ = false := frozen_of_row _ _ _ _ _ H.out.1
      cases hb : rdOf false x.acc (k : Int)
      · rw [hb] at hcell
        have HS : Hid (wr.heap[w.heap.size + 1]? = some (.cells (img (stk x (k + 1))) 3 (0, 0)) ∧ Below w.heap.size w wr) := by rw [← stk_no x k hb]; exact H
        clear H hb
        subst hA
        go_wp2
        go_roundw
        case rel => exact ⟨k + 1, by omega, by go_num, HS⟩
        case measure => simp [intOf]; omega
      · rw [hb] at hcell
        have HS : Hid ((wr.setCell ⟨w.heap.size + 1, k, none⟩ (.int .i64 1)).heap[w.heap.size + 1]? = some (.cells (img (stk x (k + 1))) 3 (0, 0)) ∧ Below w.heap.size w (wr.setCell ⟨w.heap.size + 1, k, none⟩ (.int .i64 1))) := by
          refine Lib.hid ⟨?_, bl_cell H.out.2 (by show w.heap.size ≤ w.heap.size + 1; omega) _⟩
          rw [heap_setCell_same _ _ _ _ _ _ H.out.1, ← stk_one x k hb, ← img_set]; rfl
        clear H hb
        subst hA
        go_wp2
        go_roundw
        case rel => exact ⟨k + 1, by omega, by go_num, HS⟩
        case measure => simp [intOf]; omega
    · have e8 : k = x.acc.length := by omega
      subst e8
      have hO := H.out.1
      rw [stk_end] at hO
      have hC : Kd.C (Kd.int .i64) wr (some ⟨w.heap.size + 1, 0, none⟩) x.acc.length (zl (st0 x)) := by
        have h := C_block (zl (st0 x)) hO (by rw [zl_len, st0_len]; omega) (fun j hj => by rw [zl_len] at hj; rw [img_get _ _ hj]; congr 2; have := zl_rd (st0 x) j; unfold rd at this; rw [Int.toNat_natCast] at this; exact this.symm)
        rw [zl_len, st0_len] at h
        exact h
      have LX := Aside0.mk (LE.out (some ⟨w.heap.size + 1, 0, none⟩) x.acc.length wr hC)
      clear hC hO LE
      go_wp2_with fail
      refine LX.out.mono ?_
      rintro e w2 ⟨v, rfl, ho, hb⟩
      have HO := Aside0.mk (Kd.R_lower ho H.out.2.size)
      have HB := Lib.hid (bl_then H.out.2 hb)
      clear ho hb
      go_wp2
      go_ret
      exact ⟨v, rfl, HO.out, HB.out⟩
end Go.Proofs.Ytjedippbjjedlaa

namespace Go.Proofs.Ytjedippbjjedlaa
open Go.RowKit Go.Proofs.YtjedippbjjedlaaW.PrintWords
set_option linter.unusedSimpArgs false
set_option maxRecDepth 100000 in
set_option maxHeartbeats 800000 in
theorem same_mn (A : Option Addr) (c : Nat) (l : List Int) (B : Option Addr) (d : Nat) (m : List Int) (w : World) (hA : Kd.C (Kd.int .i64) w A l.length l) (hB : Kd.C (Kd.int .i64) w B m.length m) (hlen : l.length = m.length) :
    Calls Try.prog 58 #[.slice A l.length c, .slice B m.length d] w fun e w' => e = .returned (.bool (decide (l = m))) ∧ Below w.heap.size w w' := by
  have HA := Aside0.mk hA
  have HB := Aside0.mk hB
  have hmax := Kd.C_max hA
  clear hA hB
  have HE := Lib.hid hlen
  clear hlen
  go_enter Try.func58, Try.ntmps58
  go_wp2
  go_loopw [8] (fun i wr => ∃ k : Nat, k ≤ l.length ∧ i = .int .i64 k ∧ Hid (∀ j : Nat, j < k → rd l j = rd m j) ∧ Hid (Below w.heap.size w wr)) (fun i _ => l.length - (intOf i).toNat)
  case atStart => exact ⟨0, by omega, rfl, Lib.hid (by omega), Lib.hid (Below.refl _ _)⟩
  case round =>
    obtain ⟨k, hk, rfl, HI, H⟩ := hrel
    by_cases hkl : k < l.length
    · obtain ⟨ad, rfl, hcell⟩ := Kd.at_int (Kd.C_below HA.out H.out) k (by omega) (by omega)
      have hkm : k < m.length := by have := HE.out; omega
      obtain ⟨bd, rfl, hcell2⟩ := Kd.at_int (Kd.C_below HB.out H.out) k (by omega) (by omega)
      rw [Int.toNat_natCast] at hcell hcell2
      by_cases hp : rd l k = rd m k
      · have HI2 : Hid (∀ j : Nat, j < k + 1 → rd l j = rd m j) := Lib.hid (fun i hi => by
          by_cases e : i = k
          · subst e; exact hp
          · exact HI.out i (by omega))
        rw [← hp] at hcell2
        have hpb : (rd l k != rd l k) = false := by simp
        clear hp
        generalize rd l k = p at *
        go_wp2
        go_quiet (fail)
        go_wp2
        go_roundw
        case rel => exact ⟨k+1, by omega, by go_num, HI2, Lib.hid (bl_drewN H.out _)⟩
        case measure => simp [intOf]; omega
      · have hpb : (rd l k != rd m k) = true := by rw [bne_iff_ne]; exact hp
        have HN := Lib.hid (list_ne hp)
        clear hp
        generalize rd l k = p at *
        generalize rd m k = q at *
        go_wp2
        go_quiet (fail)
        go_wp2
        go_ret
        exact ⟨by rw [decide_eq_false HN.out]; rfl, bl_drewN H.out _⟩
    · have : k = l.length := by omega
      subst this
      have HN := Lib.hid (list_eq HE.out HI.out)
      go_wp2
      go_ret
      exact ⟨by rw [decide_eq_true HN.out]; rfl, H.out⟩
section
variable {α : Type} [DecidableEq α]
/-- The least place with the sign of place i. -/
def krf (f : Nat → α) (i : Nat) : Nat := ((List.range (i + 1)).find? fun k => decide (f k = f i)).getD 0
theorem krf_eq {f : Nat → α} {i j : Nat} (hj : j ≤ i) (h : ∀ k, k < j → f k ≠ f i) (he : f j = f i) : krf f i = j := by
  have : (List.range (i + 1)).find? (fun k => decide (f k = f i)) = some j := by
    rw [List.find?_range_eq_some]
    refine ⟨by simpa using he, by simp; omega, fun k hk => by simpa using h k hk⟩
  unfold krf
  rw [this]; rfl
theorem krf_spec (f : Nat → α) (i : Nat) : krf f i ≤ i ∧ f (krf f i) = f i ∧ ∀ k, k < krf f i → f k ≠ f i := by
  have hex : ∃ j, j ≤ i ∧ (∀ k, k < j → f k ≠ f i) ∧ f j = f i := by
    have key : ∀ m, (∃ j, j ≤ m ∧ f j = f i) → ∃ j, j ≤ m ∧ (∀ k, k < j → f k ≠ f i) ∧ f j = f i := by
      intro m
      induction m using Nat.strongRecOn with
      | ind m ih =>
        rintro ⟨j, hj, he⟩
        by_cases hk : ∃ k, k < j ∧ f k = f i
        · obtain ⟨k, hk, hke⟩ := hk
          obtain ⟨j', h1, h2, h3⟩ := ih k (by omega) ⟨k, Nat.le_refl _, hke⟩
          exact ⟨j', by omega, h2, h3⟩
        · exact ⟨j, hj, fun k hkj hke => hk ⟨k, hkj, hke⟩, he⟩
    exact key i ⟨i, Nat.le_refl _, rfl⟩
  obtain ⟨j, h1, h2, h3⟩ := hex
  rw [krf_eq h1 h2 h3]
  exact ⟨h1, h3, h2⟩
theorem krf_krf (f : Nat → α) (i : Nat) : krf f (krf f i) = krf f i := by
  obtain ⟨h1, h2, h3⟩ := krf_spec f i
  exact krf_eq (Nat.le_refl _) (fun k hk => by rw [h2]; exact h3 k hk) rfl
theorem krf_uni {f : Nat → α} {i t : Nat} (_ht : t < i) (hk : krf f t = t) (he : f t = f i) : t = krf f i := by
  obtain ⟨h1, h2, h3⟩ := krf_spec f i
  obtain ⟨g1, g2, g3⟩ := krf_spec f t
  rcases Nat.lt_trichotomy t (krf f i) with h | h | h
  · exact absurd he (h3 t h)
  · exact h
  · rw [hk] at g3
    exact absurd (h2.trans he.symm) (g3 _ h)
end
/-- The sign of a state in a round. -/
def sgn (x : AutV) (l : List Nat) (s : Nat) : List Nat := l.getD s 0 :: (List.range 8).map fun c => if c < x.k.toNat then l.getD (stp x s c) 0 else 0
theorem sgn_len (x : AutV) (l : List Nat) (s : Nat) : (sgn x l s).length = 9 := by simp [sgn]
/-- A round. -/
def rnd (x : AutV) (l : List Nat) : List Nat := (List.range l.length).map (krf (sgn x l))
theorem rnd_len (x : AutV) (l : List Nat) : (rnd x l).length = l.length := by simp [rnd]
end Go.Proofs.Ytjedippbjjedlaa

namespace Go.Proofs.Ytjedippbjjedlaa
open Go.RowKit Go.Proofs.YtjedippbjjedlaaW.PrintWords Go.ChangeMaps
open Go.Maps (Keyed)
set_option linter.unusedSimpArgs false
set_option maxRecDepth 100000 in
theorem sg_law : Keyed Try.prog 119 :=
  Keyed.of_law (deep_law_laid (m := 4) (by kernel_rfl : laidOutB Try.prog = true) (by decide) (by decide +kernel) (by kernel_rfl) (by kernel_rfl))
/-- A sign that may be. -/
def sgOk (L : List Nat) : Prop := L.length = 9 ∧ ∀ i, L.getD i 0 ≤ 9223372036854775807
theorem wf_nat {n : Nat} (h : n ≤ 9223372036854775807) : (Lit.int .i64 (n : Int)).wf = true := WalkArith.wf_i64 (by omega)
set_option maxRecDepth 100000 in
theorem key_sg {L : List Nat} (h : sgOk L) : ∃ q, keyOf Try.prog 119 (.agg (img L)) = some q := by
  obtain ⟨hl, hw⟩ := h
  have hkt : Try.prog.keyType 119 = true := by kernel_rfl
  obtain ⟨m, hm⟩ : ∃ m, Try.prog.types.size + 1 = m + 3 := ⟨Try.prog.types.size - 2, by decide +kernel⟩
  have h9 : Try.prog.cellsOf 119 = 9 := by kernel_rfl
  have h8 : Try.prog.cellsOf 117 = 8 := by kernel_rfl
  have h1 : Try.prog.cellsOf 3 = 1 := by kernel_rfl
  match L, hl with
  | [x0, x1, x2, x3, x4, x5, x6, x7, x8], _ =>
    have w0 := wf_nat (hw 0); have w1 := wf_nat (hw 1); have w2 := wf_nat (hw 2); have w3 := wf_nat (hw 3); have w4 := wf_nat (hw 4); have w5 := wf_nat (hw 5); have w6 := wf_nat (hw 6); have w7 := wf_nat (hw 7); have w8 := wf_nat (hw 8)
    simp only [List.getD_cons_zero, List.getD_cons_succ] at w0 w1 w2 w3 w4 w5 w6 w7 w8
    unfold keyOf
    simp only [Try.underlying119]
    rw [if_pos (by simp [hkt, Value.formed, Try.underlying119, h9, img]), hm]
    simp [Program.keyLits, Try.underlying119, Try.underlying117, Try.underlying3, Value.cells, h9, h8, h1, img, w0, w1, w2, w3, w4, w5, w6, w7, w8, List.range, List.range.loop]
theorem img_inj {L M : List Nat} (h : Value.agg (img L) = .agg (img M)) : L = M := by
  injection h with h
  have h2 := congrArg Array.toList h
  simp only [img] at h2
  exact (List.map_inj_right (fun a b e => by injection e with _ e; exact Int.ofNat.inj e)).1 h2
/-- The entries after k places. -/
def ses (f : Nat → List Nat) (k : Nat) : List (Value × Value) := ((List.range k).filter fun t => krf f t == t).map fun t => (.agg (img (f t)), .int .i64 (t : Int))
theorem ses_mem {f : Nat → List Nat} {k : Nat} {p : Value × Value} (h : p ∈ ses f k) : ∃ t, t < k ∧ krf f t = t ∧ p = (.agg (img (f t)), .int .i64 (t : Int)) := by
  obtain ⟨t, ht, rfl⟩ := List.mem_map.1 h
  obtain ⟨h1, h2⟩ := List.mem_filter.1 ht
  exact ⟨t, List.mem_range.1 h1, by simpa using h2, rfl⟩
theorem ses_of {f : Nat → List Nat} {k t : Nat} (h : t < k) (h' : krf f t = t) : (Value.agg (img (f t)), Value.int .i64 (t : Int)) ∈ ses f k :=
  List.mem_map.2 ⟨t, List.mem_filter.2 ⟨List.mem_range.2 h, by simpa using h'⟩, rfl⟩
theorem ses_new {f : Nat → List Nat} {k : Nat} (h : krf f k = k) : ses f (k + 1) = ses f k ++ [(.agg (img (f k)), .int .i64 (k : Int))] := by
  unfold ses
  rw [List.range_succ, List.filter_append, List.map_append]
  simp [List.filter_cons, h]
theorem ses_old {f : Nat → List Nat} {k : Nat} (h : krf f k ≠ k) : ses f (k + 1) = ses f k := by
  unfold ses
  rw [List.range_succ, List.filter_append, List.map_append]
  simp [List.filter_cons, h]
theorem ses_keys {f : Nat → List Nat} {k : Nat} (hf : ∀ t, sgOk (f t)) : ∀ p ∈ ses f k, ∃ q, keyOf Try.prog 119 p.1 = some q := fun p hp => by
  obtain ⟨t, _, _, rfl⟩ := ses_mem hp
  exact key_sg (hf t)
theorem ses_look {f : Nat → List Nat} {k : Nat} (hf : ∀ t, sgOk (f t)) {w : World} {b : Nat} (h : MapIs w b (ses f k)) (c : Bool) :
    (Instr.lookup 116 (.map (some b)) (.agg (img (f k))) c).run Try.prog w = .ok (if krf f k = k then (if c then .tuple #[.int .i64 0, .bool false] else .int .i64 0) else (if c then .tuple #[.int .i64 (krf f k : Nat), .bool true] else .int .i64 (krf f k : Nat))) w := by
  have hz : (zeroValue 3).run Try.prog w = .ok (.int .i64 0) w := by kernel_rfl
  obtain ⟨h1, h2, h3⟩ := krf_spec f k
  obtain ⟨q, hq⟩ := key_sg (hf k)
  by_cases hk : krf f k = k
  · rw [if_pos hk]
    exact h.look_no sg_law (ses_keys hf) Try.underlying116 hz hq (fun p hp he => by
      obtain ⟨t, ht, hkt, rfl⟩ := ses_mem hp
      rw [hk] at h3
      exact h3 t ht (img_inj he)) c
  · rw [if_neg hk]
    exact h.look_yes sg_law (ses_keys hf) Try.underlying116 hz hq ⟨_, ses_of (by omega) (krf_krf f k), by rw [h2]⟩ (fun p hp he => by
      obtain ⟨t, ht, hkt, rfl⟩ := ses_mem hp
      rw [← krf_uni (i := k) ht hkt (img_inj he)]) c
theorem ses_look2 {f : Nat → List Nat} {k : Nat} (hf : ∀ t, sgOk (f t)) {w : World} {b : Nat} (h : MapIs w b (ses f (k + 1))) :
    (Instr.lookup 116 (.map (some b)) (.agg (img (f k))) false).run Try.prog w = .ok (.int .i64 (krf f k : Nat)) w := by
  have hz : (zeroValue 3).run Try.prog w = .ok (.int .i64 0) w := by kernel_rfl
  obtain ⟨h1, h2, h3⟩ := krf_spec f k
  obtain ⟨q, hq⟩ := key_sg (hf k)
  exact h.look_yes sg_law (ses_keys hf) Try.underlying116 hz hq ⟨_, ses_of (by omega) (krf_krf f k), by rw [h2]⟩ (fun p hp he => by
      obtain ⟨t, ht, hkt, rfl⟩ := ses_mem hp
      by_cases e : t = k
      · subst e; rw [hkt]
      · rw [← krf_uni (i := k) (by omega) hkt (img_inj he)]) false
theorem ses_put {f : Nat → List Nat} {k : Nat} (hf : ∀ t, sgOk (f t)) (hk : krf f k = k) {w : World} {b : Nat} (h : MapIs w b (ses f k)) :
    ∃ w', (Instr.mapUpdate 116 (.map (some b)) (.agg (img (f k))) (.int .i64 (k : Int))).run Try.prog w = .ok () w' ∧ MapIs w' b (ses f (k + 1)) ∧ Turned w w' b := by
  obtain ⟨h1, h2, h3⟩ := krf_spec f k
  obtain ⟨q, hq⟩ := key_sg (hf k)
  rw [ses_new hk]
  exact h.put sg_law (ses_keys hf) Try.underlying116 hq (fun p hp he => by
    obtain ⟨t, ht, hkt, rfl⟩ := ses_mem hp
    rw [hk] at h3
    exact h3 t ht (img_inj he)) _
end Go.Proofs.Ytjedippbjjedlaa

namespace Go.Proofs.Ytjedippbjjedlaa
open Go.RowKit Go.Proofs.YtjedippbjjedlaaW.PrintWords
set_option linter.unusedSimpArgs false
set_option linter.unusedVariables false
/-- A sign, c letters done. -/
def sgk (x : AutV) (l : List Nat) (s c : Nat) : List Nat := l.getD s 0 :: (List.range 8).map fun i => if i < c then l.getD (stp x s i) 0 else 0
theorem sgk_len (x : AutV) (l : List Nat) (s c : Nat) : (sgk x l s c).length = 9 := by simp [sgk]
theorem sgk_get (x : AutV) (l : List Nat) (s c : Nat) (h : c < 8) : (sgk x l s c).getD (1 + c) 0 = 0 := by
  rw [Nat.add_comm]; simp [sgk, List.getD_eq_getElem?_getD, h]
theorem sgk_set (x : AutV) (l : List Nat) (s c : Nat) (h : c < 8) : (sgk x l s c).set (1 + c) (l.getD (stp x s c) 0) = sgk x l s (c + 1) := by
  rw [Nat.add_comm]
  simp only [sgk, List.set_cons_succ]
  congr 1
  apply List.ext_getElem (by simp)
  intro i h1 h2
  simp only [List.getElem_set, List.getElem_map, List.getElem_range]
  by_cases e : c = i
  · subst e; simp
  · rw [if_neg e]
    by_cases hi : i < c
    · simp [hi, show i < c + 1 by omega]
    · simp [hi, show ¬ i < c + 1 by omega]
theorem sgk_end (x : AutV) (l : List Nat) (s : Nat) : sgk x l s x.k.toNat = sgn x l s := rfl
theorem sgk_zero (x : AutV) (l : List Nat) (s : Nat) : img (sgk x l s 0) = #[.int .i64 ((l.getD s 0 : Nat) : Int), .int .i64 0, .int .i64 0, .int .i64 0, .int .i64 0, .int .i64 0, .int .i64 0, .int .i64 0, .int .i64 0] := by
  simp [sgk, img, List.range, List.range.loop]
/-- What a round has done before place s. -/
def rdp (f : Nat → List Nat) (n k : Nat) : List Nat := (List.range n).map fun i => if i < k then krf f i else 0
theorem rdp_len (f : Nat → List Nat) (n k : Nat) : (rdp f n k).length = n := by simp [rdp]
theorem rdp_zero (f : Nat → List Nat) (n : Nat) : rdp f n 0 = List.replicate n 0 := by
  apply List.ext_getElem (by simp [rdp])
  intro i h1 h2
  simp [rdp]
theorem rdp_get (f : Nat → List Nat) (n k : Nat) (h : k < n) : (rdp f n k).getD k 0 = 0 := by simp [rdp, List.getD_eq_getElem?_getD, h]
theorem rdp_set (f : Nat → List Nat) (n k : Nat) : (rdp f n k).set k (krf f k) = rdp f n (k + 1) := by
  apply List.ext_getElem (by simp [rdp])
  intro i h1 h2
  simp only [rdp, List.getElem_set, List.getElem_map, List.getElem_range]
  by_cases e : k = i
  · subst e; simp
  · rw [if_neg e]
    by_cases hi : i < k
    · simp [hi, show i < k + 1 by omega]
    · simp [hi, show ¬ i < k + 1 by omega]
theorem rdp_end (x : AutV) (l : List Nat) : rdp (sgn x l) l.length l.length = rnd x l :=
  List.map_congr_left fun i hi => by rw [if_pos (List.mem_range.1 hi)]
theorem sgn_ok {l : List Nat} (hl : ∀ t, l.getD t 0 ≤ 9223372036854775807) (x : AutV) (s : Nat) : sgOk (sgn x l s) := by
  refine ⟨sgn_len _ _ _, fun i => ?_⟩
  cases i with
  | zero => exact hl s
  | succ i =>
    show ((List.range 8).map _).getD i 0 ≤ _
    rw [List.getD_eq_getElem?_getD, List.getElem?_map]
    by_cases hi : i < 8
    · rw [List.getElem?_range hi]
      simp only [Option.map_some, Option.getD_some]
      split
      · exact hl _
      · decide
    · rw [List.getElem?_eq_none (by simpa using hi)]; exact Nat.zero_le _
end Go.Proofs.Ytjedippbjjedlaa

namespace Go.Proofs.Ytjedippbjjedlaa
open Go.RowKit Go.Proofs.YtjedippbjjedlaaW.PrintWords
set_option linter.unusedSimpArgs false
set_option linter.unusedVariables false
section
variable {ops : Array Oper} {rest : List Oper} {o : Oper} {a : Act} {w : World} {Q : Exit → Act → World → Prop}
theorem sg_info {l : List Nat} (h : l.length = 9) : (Try.prog.info? 119).map (·.size) = some (img l).size := by rw [img_size, h]; kernel_rfl
/-- A sign is loaded. -/
theorem ld_sg (p : Operand) (ho : o.op = .load 119 p) (g : Nat) (hx : a.eval p = .pointer (some ⟨g, 0, none⟩)) {l : List Nat} (hl : l.length = 9) (hg : w.heap[g]? = some (.cells (img l) 119 (0, 0))) (hw : Region.wanted o (yielded ops a.tmps) = true)
    (h : wpList Try.prog ops Q rest (a.put o.dst (.agg (img l))) w) : wpList Try.prog ops Q (o :: rest) a w :=
  wpList_step fun K hK => by
    rw [if_pos hw]
    exact wp_load_row 119 p ho g hx _ _ _ _ hg Try.underlying119 rfl (sg_info hl) (hK _ _ h)
/-- .. and stored into a new block. -/
theorem st_sg (x : AutV) (l : List Nat) (s : Nat) {cs : Array Value} (p q : Operand) (ho : o.op = .store 119 p q) (hgd : o.guard = none)
    (hx : a.eval p = .pointer (some ⟨w.heap.size, 0, none⟩)) (hy : a.eval q = .agg (img (sgk x l s 0))) (hc : cs.size = 9) (h : wpList Try.prog ops Q rest (a.put o.dst undef) (w.alloc (.cells (img (sgk x l s 0)) 119))) : wpList Try.prog ops Q (o :: rest) a (w.alloc (.cells cs 119)) :=
  wpList_store_row hgd 119 p q ho w.heap.size _ hx hy 119 cs (hp_new rfl) (sg_info (sgk_len _ _ _ _)) (by rw [img_size, sgk_len, hc]) (img_one _) (by rw [World.setRow_alloc_new]; exact h)
end
set_option maxRecDepth 100000 in
set_option maxHeartbeats 4000000 in
theorem round_any (x : AutV) (A : Option Addr) (c : Nat) (B : Option Addr) (d : Nat) (hx : AutOk x) (L : Option Addr) (lc : Nat) (l : List Nat) (hll : l.length = x.acc.length) (hl : ∀ t, l.getD t 0 ≤ 9223372036854775807) (w : World) (hr : ARd w x A B) (hC : Kd.C (Kd.int .i64) w L l.length (zl l)) :
    Calls Try.prog 77 #[.agg (ac x A c B d), .slice L l.length lc] w fun e w' => ∃ v, e = .returned v ∧ Own w' w.heap.size v (zl (rnd x l)) ∧ Below w.heap.size w w' := by
  have HR := Aside0.mk hr
  have HC := Aside0.mk hC
  have HX := Lib.hid hx
  have hm : l.length ≤ 4096 := by rw [hll]; exact hx.2.2.2.1
  have HLL := Lib.hid hll
  have hk1 := hx.1
  have hk8 := hx.2.1
  have HF := Lib.hid (sgn_ok hl x)
  have hmm := @run_makeMap Try.prog
  clear hr hC hl hx hll
  go_enter Try.func77, Try.ntmps77
  go_wp2_with (refine wpl_make l.length (by omega) rfl _ _ rfl rfl rfl ?_)
  clear hmm
  go_loopw [18] (fun i wr => ∃ k : Nat, k ≤ l.length ∧ i = .int .i64 k ∧ Hid (wr.heap[w.heap.size]? = some (AB x A c B d) ∧ MapIs wr (w.heap.size + 1) (ses (sgn x l) k) ∧ wr.heap[w.heap.size + 1 + 1]? = some (.cells (img (rdp (sgn x l) l.length k)) 3 (0, 0)) ∧ Below w.heap.size w wr)) (fun i _ => l.length - (intOf i).toNat)
  case atStart =>
    refine ⟨0, by omega, rfl, Lib.hid ⟨hp_old (hp_old (hp_new rfl)), ⟨#[], 0, hp_old (hp_new (by simp)), rfl⟩, ?_, bl_alloc (bl_alloc (bl_alloc (Below.refl _ _) _) _) _⟩⟩
    rw [rdp_zero]; exact hp_new (by simp)
  case round =>
    obtain ⟨k, hk, rfl, H⟩ := hrel
    obtain ⟨w3, rfl⟩ : ∃ w3 : World, w3 = wr := ⟨_, rfl⟩
    by_cases hkl : k < l.length
    · obtain ⟨ad, hL, hcell⟩ := Kd.at_int (Kd.C_below HC.out H.out.2.2.2) (k : Int) (by omega) (by omega)
      rw [Int.toNat_natCast, zl_rd] at hcell
      have hlt1 := hp_lt H.out.1
      have c0 : w3.cell? ⟨w.heap.size, 0, none⟩ = some (.int .i64 x.k) := by rw [cell_of_row _ _ _ _ _ _ H.out.1]; rfl
      subst hL
      go_wp2_with (refine st_sg x l k _ _ rfl rfl rfl (by rw [sgk_zero]; rfl) rfl ?_)
      clear c0
      go_loopw [28] (fun i wi => ∃ q : Nat, (q : Int) ≤ x.k ∧ i = .int .i64 q ∧ Hid (wi.heap[w3.heap.size]? = some (.cells (img (sgk x l k q)) 119 (0, 0)) ∧ Below w3.heap.size w3 wi)) (fun i _ => x.k.toNat - (intOf i).toNat)
      case atStart => exact ⟨0, by omega, rfl, Lib.hid ⟨by rw [sgk_zero, show l.getD k 0 = l[k]'hkl by simp [List.getD_eq_getElem?_getD, hkl]]; exact hp_new rfl, bl_alloc (Below.refl _ _) _⟩⟩
      case round =>
        obtain ⟨q, hq, rfl, G⟩ := hrel
        have hAB := hp_below' G.out.2 H.out.1
        have c0 : wr.cell? ⟨w.heap.size, 0, none⟩ = some (.int .i64 x.k) := by rw [cell_of_row _ _ _ _ _ _ hAB]; rfl
        by_cases hqk : (q : Int) < x.k
        · have hka : k < x.acc.length := by have := HLL.out; omega
          obtain ⟨hz1, hz2⟩ := stp_lt HX.out hka hqk
          have hix := stp_idx HX.out hka hqk
          have hq8 : q < 8 := by omega
          have hzl : stp x k q < l.length := by have := HLL.out; omega
          obtain ⟨ad2, hA, hcell2⟩ := Kd.at_int (Kd.C_below (Kd.C_below HR.out.next H.out.2.2.2) G.out.2) ((k * x.k.toNat + q : Nat) : Int) (by omega) (by omega)
          obtain ⟨ad3, hL3, hcell3⟩ := Kd.at_int (Kd.C_below (Kd.C_below HC.out H.out.2.2.2) G.out.2) (stp x k q : Int) (by omega) (by omega)
          injection hL3 with hL3
          subst hL3
          rw [Int.toNat_natCast, hz2] at hcell2
          rw [Int.toNat_natCast, zl_rd] at hcell3
          have c1 : wr.cell? ⟨w.heap.size, 1, none⟩ = some (.slice A x.next.length c) := by rw [cell_of_row _ _ _ _ _ _ hAB]; rfl
          have d1 : wr.cell? ⟨w3.heap.size, 1 + q, none⟩ = some (.int .i64 ((0 : Nat) : Int)) := by rw [cell_of_row _ _ _ _ _ _ G.out.1, img_get _ _ (by rw [sgk_len]; omega), sgk_get _ _ _ _ hq8]
          have f1 : wr.frozen? ⟨w3.heap.size, 1 + q, none⟩ = false := frozen_of_row _ _ _ _ _ G.out.1
          have HS : Hid ((wr.setCell ⟨w3.heap.size, 1 + q, none⟩ (.int .i64 ((l.getD (stp x k q) 0 : Nat) : Int))).heap[w3.heap.size]? = some (.cells (img (sgk x l k (q + 1))) 119 (0, 0)) ∧ Below w3.heap.size w3 (wr.setCell ⟨w3.heap.size, 1 + q, none⟩ (.int .i64 ((l.getD (stp x k q) 0 : Nat) : Int)))) := by
            refine Lib.hid ⟨?_, bl_cell G.out.2 (Nat.le_refl _) _⟩
            rw [heap_setCell_same _ _ _ _ _ _ G.out.1, img_set, sgk_set _ _ _ _ hq8]
          have hmul : (k : Int) * x.k = ((k * x.k.toNat : Nat) : Int) := by
            obtain ⟨kk, hkk⟩ := Int.eq_ofNat_of_zero_le (show 0 ≤ x.k by omega)
            rw [hkk, Int.toNat_natCast]; push_cast; rfl
          have hP : k * x.k.toNat ≤ 40960 := by
            have : k * x.k.toNat ≤ 4096 * 10 := Nat.mul_le_mul (by omega) (by omega)
            omega
          clear hz2 G H hAB
          generalize k * x.k.toNat = P at *
          generalize stp x k q = z at *
          generalize l.getD z 0 = y at *
          subst hA
          go_wp2
          go_roundw
          case rel => exact ⟨q + 1, by omega, by go_num, HS⟩
          case measure => simp [intOf]; omega
        · have e9 : q = x.k.toNat := by omega
          subst e9
          have hM := H.out.2.1.below G.out.2
          have hO := hp_below' G.out.2 H.out.2.2.1
          have hS := G.out.1
          rw [sgk_end] at hS
          have hB3 := bl_then H.out.2.2.2 G.out.2
          have hkl3 : w.heap.size + 1 + 1 < w3.heap.size := hp_lt H.out.2.2.1
          by_cases hkk : krf (sgn x l) k = k
          · have L1 := ses_look HF.out hM true
            rw [if_pos hkk, if_pos rfl] at L1
            obtain ⟨w', hp, hM2, hT⟩ := ses_put HF.out hkk hM
            have L2 := ses_look2 HF.out hM2
            rw [hkk] at L2
            have hO2 : w'.heap[w.heap.size + 1 + 1]? = some (.cells (img (rdp (sgn x l) l.length k)) 3 (0, 0)) := (hT.block _ (by omega)).trans hO
            have hAB2 : w'.heap[w.heap.size]? = some (AB x A c B d) := (hT.block _ (by omega)).trans hAB
            have hS2 : w'.heap[w3.heap.size]? = some (.cells (img (sgn x l k)) 119 (0, 0)) := (hT.block _ (by omega)).trans hS
            have hBB := hT.below hB3 (show w.heap.size ≤ w.heap.size + 1 by omega)
            have d1 : w'.cell? ⟨w.heap.size + 1 + 1, k, none⟩ = some (.int .i64 ((0 : Nat) : Int)) := by rw [cell_of_row _ _ _ _ _ _ hO2, img_get _ _ (by rw [rdp_len]; omega), rdp_get _ _ _ hkl]
            have f1 : w'.frozen? ⟨w.heap.size + 1 + 1, k, none⟩ = false := frozen_of_row _ _ _ _ _ hO2
            have HS : Hid ((w'.setCell ⟨w.heap.size + 1 + 1, k, none⟩ (.int .i64 ((k : Nat) : Int))).heap[w.heap.size]? = some (AB x A c B d) ∧ MapIs (w'.setCell ⟨w.heap.size + 1 + 1, k, none⟩ (.int .i64 ((k : Nat) : Int))) (w.heap.size + 1) (ses (sgn x l) (k + 1)) ∧ (w'.setCell ⟨w.heap.size + 1 + 1, k, none⟩ (.int .i64 ((k : Nat) : Int))).heap[w.heap.size + 1 + 1]? = some (.cells (img (rdp (sgn x l) l.length (k + 1))) 3 (0, 0)) ∧ Below w.heap.size w (w'.setCell ⟨w.heap.size + 1 + 1, k, none⟩ (.int .i64 ((k : Nat) : Int)))) := by
              refine Lib.hid ⟨hp_cell (by show w.heap.size ≠ w.heap.size + 1 + 1; omega) hAB2, ?_, ?_, bl_cell hBB (by show w.heap.size ≤ w.heap.size + 1 + 1; omega) _⟩
              · obtain ⟨es, cl, g1, g2⟩ := hM2
                exact ⟨es, cl, hp_cell (by show w.heap.size + 1 ≠ w.heap.size + 1 + 1; omega) g1, g2⟩
              · rw [heap_setCell_same _ _ _ _ _ _ hO2, img_set, ← rdp_set, hkk]
            have HL1 := Aside0.mk L1; have HP := Aside0.mk hp; have HL2 := Aside0.mk L2; have HSA := Lib.hid hS; have HSB := Lib.hid hS2; have hsl := sgn_len x l k
            clear L1 hp L2 hM hM2 hT hO hO2 hAB hAB2 hBB hB3 hS hS2 H G hkk
            generalize sgn x l k = sg at *
            go_wp2_with (first | (refine ld_sg _ rfl w3.heap.size rfl hsl HSA.out rfl ?_) | (refine ld_sg _ rfl w3.heap.size rfl hsl HSB.out rfl ?_) | (refine mp_look _ _ _ _ rfl _ _ _ rfl rfl rfl HL1.out ?_) | (refine mp_put _ _ _ _ rfl _ _ _ rfl rfl rfl rfl HP.out ?_) | (refine mp_look _ _ _ _ rfl _ _ _ rfl rfl rfl HL2.out ?_))
            go_roundw
            case rel => exact ⟨k + 1, by omega, by go_num, HS⟩
            case measure => simp [intOf]; omega
          · have L1 := ses_look HF.out hM true
            rw [if_neg hkk, if_pos rfl] at L1
            have L2 := ses_look HF.out hM false
            rw [if_neg hkk, if_neg (by decide)] at L2
            have hO2 := hO
            have hAB2 := hAB
            have hBB := hB3
            have hM2 : MapIs wr (w.heap.size + 1) (ses (sgn x l) (k + 1)) := by rw [ses_old hkk]; exact hM
            have d1 : wr.cell? ⟨w.heap.size + 1 + 1, k, none⟩ = some (.int .i64 ((0 : Nat) : Int)) := by rw [cell_of_row _ _ _ _ _ _ hO2, img_get _ _ (by rw [rdp_len]; omega), rdp_get _ _ _ hkl]
            have f1 : wr.frozen? ⟨w.heap.size + 1 + 1, k, none⟩ = false := frozen_of_row _ _ _ _ _ hO2
            have HS : Hid ((wr.setCell ⟨w.heap.size + 1 + 1, k, none⟩ (.int .i64 ((krf (sgn x l) k : Nat) : Int))).heap[w.heap.size]? = some (AB x A c B d) ∧ MapIs (wr.setCell ⟨w.heap.size + 1 + 1, k, none⟩ (.int .i64 ((krf (sgn x l) k : Nat) : Int))) (w.heap.size + 1) (ses (sgn x l) (k + 1)) ∧ (wr.setCell ⟨w.heap.size + 1 + 1, k, none⟩ (.int .i64 ((krf (sgn x l) k : Nat) : Int))).heap[w.heap.size + 1 + 1]? = some (.cells (img (rdp (sgn x l) l.length (k + 1))) 3 (0, 0)) ∧ Below w.heap.size w (wr.setCell ⟨w.heap.size + 1 + 1, k, none⟩ (.int .i64 ((krf (sgn x l) k : Nat) : Int)))) := by
              refine Lib.hid ⟨hp_cell (by show w.heap.size ≠ w.heap.size + 1 + 1; omega) hAB2, ?_, ?_, bl_cell hBB (by show w.heap.size ≤ w.heap.size + 1 + 1; omega) _⟩
              · obtain ⟨es, cl, g1, g2⟩ := hM2
                exact ⟨es, cl, hp_cell (by show w.heap.size + 1 ≠ w.heap.size + 1 + 1; omega) g1, g2⟩
              · rw [heap_setCell_same _ _ _ _ _ _ hO2, img_set, ← rdp_set]
            have HL1 := Aside0.mk L1; have HL2 := Aside0.mk L2; have HSA := Lib.hid hS; have hsl := sgn_len x l k
            clear L1 L2 hM hM2 hO hO2 hAB hAB2 hBB hB3 hS H G hkk
            generalize krf (sgn x l) k = z at *
            generalize sgn x l k = sg at *
            go_wp2_with (first | (refine ld_sg _ rfl w3.heap.size rfl hsl HSA.out rfl ?_) | (refine mp_look _ _ _ _ rfl _ _ _ rfl rfl rfl HL1.out ?_) | (refine mp_look _ _ _ _ rfl _ _ _ rfl rfl rfl HL2.out ?_))
            go_roundw
            case rel => exact ⟨k + 1, by omega, by go_num, HS⟩
            case measure => simp [intOf]; omega
    · have e8 : k = l.length := by omega
      subst e8
      go_wp2
      go_ret
      exact ⟨_, rfl, by rw [← rdp_end]; exact own_img H.out.2.2.1 (by omega) (rdp_len _ _ _) (by omega), H.out.2.2.2⟩
end Go.Proofs.Ytjedippbjjedlaa

namespace Go.Proofs.Ytjedippbjjedlaa
open Go.RowKit Go.Proofs.YtjedippbjjedlaaW.PrintWords
/-- A list of classes: each place has a least one, which is its own. -/
structure Cls (n : Nat) (l : List Nat) : Prop where
  len : l.length = n
  le : ∀ t, t < n → l.getD t 0 ≤ t
  own : ∀ t, t < n → l.getD (l.getD t 0) 0 = l.getD t 0
theorem rnd_getD (x : AutV) (l : List Nat) (t : Nat) (h : t < l.length) : (rnd x l).getD t 0 = krf (sgn x l) t := by simp [rnd, List.getD_eq_getElem?_getD, h]
theorem Cls.rnd {n : Nat} {l : List Nat} (h : Cls n l) (x : AutV) : Cls n (rnd x l) := by
  refine ⟨by rw [rnd_len, h.len], fun t ht => ?_, fun t ht => ?_⟩
  · rw [rnd_getD _ _ _ (by rw [h.len]; exact ht)]; exact (krf_spec _ t).1
  · have h1 := (krf_spec (sgn x l) t).1
    have e := rnd_getD x l t (by rw [h.len]; exact ht)
    rw [e, rnd_getD x l _ (by rw [h.len]; omega), krf_krf]
theorem krl_cls (l : List Nat) : Cls l.length (krl l) := by
  have hg : ∀ t, t < l.length → (krl l).getD t 0 = kr l t := fun t ht => by simp [krl, List.getD_eq_getElem?_getD, ht]
  refine ⟨krl_len l, fun t ht => ?_, fun t ht => ?_⟩
  · rw [hg t ht]; exact (kr_spec l t).1
  · have h1 := (kr_spec l t).1
    rw [hg t ht, hg _ (by omega), kr_kr]
theorem sgn_head {x : AutV} {l : List Nat} {s t : Nat} (h : sgn x l s = sgn x l t) : l.getD s 0 = l.getD t 0 := (List.cons.inj h).1
/-- The places that are their own. -/
def reps (n : Nat) (l : List Nat) : List Nat := (List.range n).filter fun t => l.getD t 0 == t
theorem reps_le (n : Nat) (l : List Nat) : (reps n l).length ≤ n := by
  have := List.length_filter_le (fun t => l.getD t 0 == t) (List.range n)
  rw [List.length_range] at this
  exact this
theorem Cls.rep {n : Nat} {l : List Nat} (h : Cls n l) (x : AutV) {t : Nat} (ht : t < n) (hr : l.getD t 0 = t) : (Go.Proofs.Ytjedippbjjedlaa.rnd x l).getD t 0 = t := by
  obtain ⟨h1, h2, h3⟩ := krf_spec (sgn x l) t
  rw [rnd_getD _ _ _ (by rw [h.len]; exact ht)]
  have h4 := sgn_head h2
  have h5 := h.le (krf (sgn x l) t) (by omega)
  omega
theorem Cls.same {n : Nat} {l : List Nat} (h : Cls n l) (x : AutV) (hs : ∀ t, t < n → (Go.Proofs.Ytjedippbjjedlaa.rnd x l).getD t 0 = t → l.getD t 0 = t) : Go.Proofs.Ytjedippbjjedlaa.rnd x l = l := by
  apply List.ext_getElem (rnd_len x l)
  intro t h1 h2
  have ht : t < n := by rw [← h.len]; exact h2
  have hg := rnd_getD x l t h2
  obtain ⟨k1, k2, k3⟩ := krf_spec (sgn x l) t
  have e1 := sgn_head k2
  have e2 : (Go.Proofs.Ytjedippbjjedlaa.rnd x l).getD (krf (sgn x l) t) 0 = krf (sgn x l) t := by rw [rnd_getD _ _ _ (by omega), krf_krf]
  have e3 := hs _ (by omega) e2
  have e4 : (Go.Proofs.Ytjedippbjjedlaa.rnd x l).getD t 0 = l.getD t 0 := by rw [hg, ← e1, e3]
  simpa [List.getD_eq_getElem?_getD, List.getElem?_eq_getElem h1, List.getElem?_eq_getElem h2] using e4
theorem filter_more {α : Type} {p q : α → Bool} : ∀ (l : List α), (∀ a ∈ l, p a = true → q a = true) → (∃ a ∈ l, q a = true ∧ p a = false) → (l.filter p).length < (l.filter q).length
  | [], _, ⟨a, ha, _⟩ => absurd ha (by simp)
  | b :: r, h, ⟨a, ha, hq, hp⟩ => by
    have hle : (r.filter p).length ≤ (r.filter q).length := by
      rw [← List.countP_eq_length_filter, ← List.countP_eq_length_filter]
      exact List.countP_mono_left fun a ha => h a (List.mem_cons_of_mem _ ha)
    rcases List.mem_cons.1 ha with rfl | ha
    · simp [hq, hp]; omega
    · have ih := filter_more r (fun a ha => h a (List.mem_cons_of_mem _ ha)) ⟨a, ha, hq, hp⟩
      have hb := h b List.mem_cons_self
      cases h1 : p b <;> cases h2 : q b <;> simp [h1, h2] <;> first | omega | (rw [h1, h2] at hb; exact absurd (hb rfl) (by decide))
theorem Cls.more {n : Nat} {l : List Nat} (h : Cls n l) (x : AutV) (hne : Go.Proofs.Ytjedippbjjedlaa.rnd x l ≠ l) : (reps n l).length < (reps n (Go.Proofs.Ytjedippbjjedlaa.rnd x l)).length := by
  refine filter_more _ (fun t ht hp => ?_) ?_
  · have := h.rep x (List.mem_range.1 ht) (by simpa using hp)
    simpa using this
  · apply Classical.byContradiction
    intro hno
    refine hne (h.same x fun t ht hr => ?_)
    apply Classical.byContradiction
    intro hl
    exact hno ⟨t, List.mem_range.2 ht, by simpa using hr, by simpa using hl⟩
/-- At most k rounds. -/
def itr (x : AutV) : Nat → List Nat → List Nat
  | 0, l => l
  | k + 1, l => if rnd x l = l then l else itr x k (rnd x l)
theorem itr_cls {n : Nat} (x : AutV) : ∀ (k : Nat) {l : List Nat}, Cls n l → Cls n (itr x k l)
  | 0, _, h => h
  | k + 1, l, h => by
    unfold itr
    split
    · exact h
    · exact itr_cls x k (h.rnd x)
/-- After as many rounds as there are places nothing parts any more. -/
theorem itr_end {n : Nat} (x : AutV) : ∀ (k : Nat) {l : List Nat}, Cls n l → n ≤ k + (reps n l).length → rnd x (itr x k l) = itr x k l
  | 0, l, h, hk => Classical.byContradiction fun hne => by
    have h1 := h.more x hne
    have h2 := reps_le n (rnd x l)
    omega
  | k + 1, l, h, hk => by
    unfold itr
    by_cases e : rnd x l = l
    · rw [if_pos e]; exact e
    · rw [if_neg e]
      have h1 := h.more x e
      exact itr_end x k (h.rnd x) (by omega)
theorem itr_succ (x : AutV) : ∀ (k : Nat) (l : List Nat), itr x (k + 1) l = if rnd x (itr x k l) = itr x k l then itr x k l else rnd x (itr x k l)
  | 0, l => by
    show (if rnd x l = l then l else rnd x l) = if rnd x l = l then l else rnd x l
    rfl
  | k + 1, l => by
    by_cases e : rnd x l = l
    · have h1 : ∀ j, itr x j l = l := fun j => by cases j with
        | zero => rfl
        | succ j => unfold itr; rw [if_pos e]
      rw [h1, h1, if_pos e]
    · have h1 : ∀ j, itr x (j + 1) l = itr x j (rnd x l) := fun j => by
        rw [itr, if_neg e]
      rw [h1, h1]
      exact itr_succ x k (rnd x l)
end Go.Proofs.Ytjedippbjjedlaa

namespace Go.Proofs.Ytjedippbjjedlaa
open Go.RowKit Go.Proofs.YtjedippbjjedlaaW.PrintWords
set_option linter.unusedSimpArgs false
set_option linter.unusedVariables false
theorem zl_inj {l m : List Nat} : zl l = zl m ↔ l = m := List.map_inj_right fun a b e => Int.ofNat.inj e
theorem itr_stop (x : AutV) (l : List Nat) (k : Nat) (h : rnd x (itr x k l) = itr x k l) : ∀ j, itr x (k + j) l = itr x k l
  | 0 => rfl
  | j + 1 => by
    rw [← Nat.add_assoc, itr_succ, itr_stop x l k h j, if_pos h]
/-- The classes after so many rounds. -/
def cls (x : AutV) (k : Nat) : List Nat := itr x k (krl (st0 x))
theorem cls_cls (x : AutV) (k : Nat) : Cls x.acc.length (cls x k) := by
  have h := krl_cls (st0 x)
  rw [st0_len] at h
  exact itr_cls x k h
theorem cls_le (x : AutV) (k t : Nat) (hm : x.acc.length ≤ 4096) : (cls x k).getD t 0 ≤ 9223372036854775807 := by
  have h := cls_cls x k
  by_cases ht : t < x.acc.length
  · have := h.le t ht; omega
  · rw [List.getD_eq_getElem?_getD, List.getElem?_eq_none (by rw [h.len]; omega)]; exact Nat.zero_le _
/-- How many rounds are asked. -/
def rfn (x : AutV) (n : Int) : Nat := if n < 0 then x.acc.length else n.toNat
theorem cls_more {x : AutV} {k : Nat} (h : k ≤ (reps x.acc.length (cls x k)).length) (hne : rnd x (cls x k) ≠ cls x k) : k + 1 ≤ (reps x.acc.length (cls x (k + 1))).length ∧ cls x (k + 1) = rnd x (cls x k) := by
  have e : cls x (k + 1) = rnd x (cls x k) := by unfold cls at hne ⊢; rw [itr_succ, if_neg hne]
  have := (cls_cls x k).more x hne
  rw [e]
  exact ⟨by omega, rfl⟩
set_option maxRecDepth 100000 in
set_option maxHeartbeats 4000000 in
theorem refine_any (x : AutV) (A : Option Addr) (c : Nat) (B : Option Addr) (d : Nat) (hx : AutOk x) (n : Int) (w : World) (hr : ARd w x A B) :
    Calls Try.prog 57 #[.agg (ac x A c B d), .int .i64 n] w fun e w' => ∃ v, e = .returned v ∧ Own w' w.heap.size v (zl (cls x (rfn x n))) ∧ Below w.heap.size w w' := by
  have HR := Aside0.mk hr
  have HM := Lib.hid hx.2.2.2.1
  have H0 := Lib.hid (hp_new (w := w) (o := AB x A c B d) rfl)
  have ST := Aside0.mk (fun (W : World) (h : ARd W x A B) => start_any x A c B d (by have := HM.out; omega) W h)
  have RD := Aside0.mk (fun (k : Nat) (L : Option Addr) (lc : Nat) (W : World) (h : ARd W x A B) (hC : Kd.C (Kd.int .i64) W L x.acc.length (zl (cls x k))) => by
    have hl := (cls_cls x k).len
    have h1 := round_any x A c B d hx L lc (cls x k) hl (fun t => cls_le x k t hx.2.2.2.1) W h (by rw [hl]; exact hC)
    rw [hl] at h1
    exact h1)
  clear hr hx
  go_enter Try.func57, Try.ntmps57
  go_wp2
  go_step3
  go_wp2_with (refine ld_au _ rfl w.heap.size rfl H0.out rfl ?_)
  refine (ST.out _ (HR.out.below (bl_alloc (Below.refl _ _) _))).mono ?_
  rintro e w1 ⟨v, rfl, ho, hb⟩
  have H1 := Lib.hid (hp_below' hb H0.out)
  have HB1 := Lib.hid (bl_then (bl_alloc (Below.refl w.heap.size w) (AB x A c B d)) hb)
  have HO := Aside0.mk (Kd.R_lower ho (bl_alloc (Below.refl w.heap.size w) (AB x A c B d)).size)
  clear hb ho ST
  go_wp2
  go_step3
  go_wp2
  go_loopw [5, 6] (fun v i wr => ∃ k : Nat, i = .int .i64 k ∧ Hid (k ≤ (reps x.acc.length (cls x k)).length ∧ (n < 0 ∨ (k : Int) ≤ n)) ∧ Hid (Own wr w.heap.size v (zl (cls x k)) ∧ wr.heap[w.heap.size]? = some (AB x A c B d) ∧ Below w.heap.size w wr)) (fun _ i _ => x.acc.length + 1 - (intOf i).toNat)
  case atStart => exact ⟨0, rfl, Lib.hid ⟨Nat.zero_le _, by omega⟩, Lib.hid ⟨HO.out, H1.out, HB1.out⟩⟩
  case round =>
    obtain ⟨k, rfl, HK, H⟩ := hrel
    obtain ⟨L, lc, rfl, _, hC⟩ := own_slice x.acc.length (cls_cls x k).len H.out.1
    have HC := Aside0.mk hC
    have hkx0 : k ≤ x.acc.length := Nat.le_trans HK.out.1 (reps_le _ _)
    have hm3 := HM.out
    have HRL := Lib.hid ((cls_cls x k).rnd x).len
    have SME := Aside0.mk (fun (L2 : Option Addr) (lc2 : Nat) (L : Option Addr) (lc : Nat) (W : World) (h2 : Kd.C (Kd.int .i64) W L2 x.acc.length (zl (rnd x (cls x k)))) (h1 : Kd.C (Kd.int .i64) W L x.acc.length (zl (cls x k))) => by
      have e1 : (zl (rnd x (cls x k))).length = x.acc.length := by rw [zl_len]; exact HRL.out
      have e2 : (zl (cls x k)).length = x.acc.length := by rw [zl_len]; exact (cls_cls x k).len
      have h := same_mn L2 lc2 (zl (rnd x (cls x k))) L lc (zl (cls x k)) W (by rw [e1]; exact h2) (by rw [e2]; exact h1) (by rw [e1, e2])
      rw [e1, e2] at h
      exact h)
    clear hC
    by_cases hn : n < 0
    · have HRN : Hid (k ≤ rfn x n) := Lib.hid (by unfold rfn; rw [if_pos hn]; exact hkx0)
      clear hkx0
      go_wp2_with (refine ld_au _ rfl w.heap.size rfl H.out.2.1 rfl ?_)
      refine (RD.out k L lc _ (HR.out.below H.out.2.2) HC.out).mono ?_
      rintro e w2 ⟨v2, rfl, ho, hb⟩
      obtain ⟨L2, lc2, rfl, _, hC2⟩ := own_slice x.acc.length HRL.out ho
      have HO2 := Aside0.mk (Kd.R_lower ho H.out.2.2.size)
      have HO1 := Aside0.mk (Kd.R_below H.out.1 hb)
      have SM := Aside0.mk (SME.out L2 lc2 L lc w2 hC2 (Kd.C_below HC.out hb))
      have HA2 := Lib.hid (hp_below' hb H.out.2.1)
      have HB2 := Lib.hid (bl_then H.out.2.2 hb)
      clear hb ho hC2 H HC
      by_cases hst : rnd x (cls x k) = cls x k
      · have HF : Hid (cls x (rfn x n) = cls x k) := Lib.hid (by
          have h := itr_stop x (krl (st0 x)) k hst (rfn x n - k)
          rw [show k + (rfn x n - k) = rfn x n by have := HRN.out; omega] at h
          exact h)
        rw [show decide (zl (rnd x (cls x k)) = zl (cls x k)) = true from decide_eq_true (by rw [hst])] at SM
        clear hst
        go_wp2_with fail
        refine SM.out.mono ?_
        rintro e w3 ⟨rfl, hb⟩
        have HO3 := Aside0.mk (Kd.R_below HO1.out hb)
        have HB3 := Lib.hid (bl_then HB2.out hb)
        clear hb SM
        go_wp2
        unfold Exit.noGoto
        go_ret
        exact ⟨_, rfl, by rw [HF.out]; exact HO3.out, HB3.out⟩
      · obtain ⟨hm1, hm2⟩ := cls_more HK.out.1 hst
        have HK2 : Hid (k + 1 ≤ (reps x.acc.length (cls x (k + 1))).length ∧ (n < 0 ∨ ((k + 1 : Nat) : Int) ≤ n)) := Lib.hid ⟨hm1, by omega⟩
        have hkx : k + 1 ≤ x.acc.length := Nat.le_trans hm1 (reps_le _ _)
        rw [show decide (zl (rnd x (cls x k)) = zl (cls x k)) = false from decide_eq_false (fun h => hst (zl_inj.1 h))] at SM
        rw [← hm2] at HO2
        clear hst hm1 hm2
        go_wp2_with fail
        refine SM.out.mono ?_
        rintro e w3 ⟨rfl, hb⟩
        have HO3 := Aside0.mk (Kd.R_below HO2.out hb)
        have HA3 := Lib.hid (hp_below' hb HA2.out)
        have HB3 := Lib.hid (bl_then HB2.out hb)
        clear hb SM
        have hm4 := HM.out
        go_wp2
        go_roundw
        case rel => exact ⟨k + 1, by go_num, HK2, Lib.hid ⟨HO3.out, HA3.out, HB3.out⟩⟩
        case measure => simp [intOf]; omega
    · by_cases hkn : (k : Int) < n
      · have HRN : Hid (k ≤ rfn x n) := Lib.hid (by unfold rfn; rw [if_neg hn]; omega)
        clear hkx0
        go_wp2_with (refine ld_au _ rfl w.heap.size rfl H.out.2.1 rfl ?_)
        refine (RD.out k L lc _ (HR.out.below H.out.2.2) HC.out).mono ?_
        rintro e w2 ⟨v2, rfl, ho, hb⟩
        obtain ⟨L2, lc2, rfl, _, hC2⟩ := own_slice x.acc.length HRL.out ho
        have HO2 := Aside0.mk (Kd.R_lower ho H.out.2.2.size)
        have HO1 := Aside0.mk (Kd.R_below H.out.1 hb)
        have SM := Aside0.mk (SME.out L2 lc2 L lc w2 hC2 (Kd.C_below HC.out hb))
        have HA2 := Lib.hid (hp_below' hb H.out.2.1)
        have HB2 := Lib.hid (bl_then H.out.2.2 hb)
        clear hb ho hC2 H HC
        by_cases hst : rnd x (cls x k) = cls x k
        · have HF : Hid (cls x (rfn x n) = cls x k) := Lib.hid (by
            have h := itr_stop x (krl (st0 x)) k hst (rfn x n - k)
            rw [show k + (rfn x n - k) = rfn x n by have := HRN.out; omega] at h
            exact h)
          rw [show decide (zl (rnd x (cls x k)) = zl (cls x k)) = true from decide_eq_true (by rw [hst])] at SM
          clear hst
          go_wp2_with fail
          refine SM.out.mono ?_
          rintro e w3 ⟨rfl, hb⟩
          have HO3 := Aside0.mk (Kd.R_below HO1.out hb)
          have HB3 := Lib.hid (bl_then HB2.out hb)
          clear hb SM
          go_wp2
          unfold Exit.noGoto
          go_ret
          exact ⟨_, rfl, by rw [HF.out]; exact HO3.out, HB3.out⟩
        · obtain ⟨hm1, hm2⟩ := cls_more HK.out.1 hst
          have HK2 : Hid (k + 1 ≤ (reps x.acc.length (cls x (k + 1))).length ∧ (n < 0 ∨ ((k + 1 : Nat) : Int) ≤ n)) := Lib.hid ⟨hm1, by omega⟩
          have hkx : k + 1 ≤ x.acc.length := Nat.le_trans hm1 (reps_le _ _)
          rw [show decide (zl (rnd x (cls x k)) = zl (cls x k)) = false from decide_eq_false (fun h => hst (zl_inj.1 h))] at SM
          rw [← hm2] at HO2
          clear hst hm1 hm2
          go_wp2_with fail
          refine SM.out.mono ?_
          rintro e w3 ⟨rfl, hb⟩
          have HO3 := Aside0.mk (Kd.R_below HO2.out hb)
          have HA3 := Lib.hid (hp_below' hb HA2.out)
          have HB3 := Lib.hid (bl_then HB2.out hb)
          clear hb SM
          have hm4 := HM.out
          go_wp2
          go_roundw
          case rel => exact ⟨k + 1, by go_num, HK2, Lib.hid ⟨HO3.out, HA3.out, HB3.out⟩⟩
          case measure => simp [intOf]; omega
      · have HRN : Hid (cls x (rfn x n) = cls x k) := Lib.hid (by unfold rfn; rw [if_neg hn, show n.toNat = k by have := HK.out.2; omega])
        go_wp2
        go_ret
        exact ⟨_, rfl, by rw [HRN.out]; exact H.out.1, H.out.2.2⟩
end Go.Proofs.Ytjedippbjjedlaa

namespace Go.Proofs.Ytjedippbjjedlaa
open Go.RowKit Go.Proofs.YtjedippbjjedlaaW.PrintWords
set_option linter.unusedSimpArgs false
set_option linter.unusedVariables false
/-- What Classes and Level answer. -/
noncomputable def lvE (x : AutV) (n : Int) : Int := if autE x = 0 then (if n < 0 then 11 else 0) else 80
noncomputable def clL (x : AutV) : List Nat := if autE x = 0 then cls x x.acc.length else []
noncomputable def lvL (x : AutV) (n : Int) : List Nat := if lvE x n = 0 then cls x n.toNat else []
set_option maxRecDepth 100000 in
set_option maxHeartbeats 2000000 in
theorem classes_any (x : AutV) (A : Option Addr) (c : Nat) (B : Option Addr) (d : Nat) (w : World) (hr : ARd w x A B) :
    Calls Try.prog 37 #[.agg (ac x A c B d)] w fun e w' => ∃ v, e = .returned (.tuple #[v, .int .i64 (autE x)]) ∧ Own w' w.heap.size v (zl (clL x)) ∧ Below w.heap.size w w' := by
  have HR := Aside0.mk hr
  have H0 := Lib.hid (hp_new (w := w) (o := AB x A c B d) rfl)
  have CK := Aside0.mk (acheck_any x A c B d (w.alloc (AB x A c B d)) (hr.below (bl_alloc (Below.refl _ _) _)))
  clear hr
  by_cases h0 : autE x = 0
  · have hx := autE_is h0
    have e1 : clL x = cls x (rfn x (-1)) := by unfold clL rfn; rw [if_pos h0, if_pos (by decide)]
    have RF := Aside0.mk (fun (W : World) (h : ARd W x A B) => refine_any x A c B d hx (-1) W h)
    rw [e1, h0]
    rw [h0] at CK
    clear h0 hx e1
    generalize cls x (rfn x (-1)) = l at *
    go_enter Try.func37, Try.ntmps37
    go_wp2_with (refine ld_au _ rfl w.heap.size rfl H0.out rfl ?_)
    refine CK.out.mono ?_
    rintro e w1 ⟨rfl, hb⟩
    have H1 := Lib.hid (hp_below' hb H0.out)
    have HB1 := Lib.hid (bl_then (bl_alloc (Below.refl w.heap.size w) (AB x A c B d)) hb)
    clear hb CK
    go_wp2_with (refine ld_au _ rfl w.heap.size rfl H1.out rfl ?_)
    refine (RF.out _ (HR.out.below HB1.out)).mono ?_
    rintro e w2 ⟨v, rfl, ho, hb⟩
    have HO := Aside0.mk (Kd.R_lower ho HB1.out.size)
    have HB2 := Lib.hid (bl_then HB1.out hb)
    clear ho hb
    go_wp2
    go_ret2
    exact ⟨v, rfl, HO.out, HB2.out⟩
  · have h80 : autE x = 80 := autE_no (fun h => h0 (autE_ok h))
    have e1 : clL x = [] := by unfold clL; rw [if_neg h0]
    rw [e1, h80]
    rw [h80] at CK
    clear h0 h80 e1
    go_enter Try.func37, Try.ntmps37
    go_wp2_with (refine ld_au _ rfl w.heap.size rfl H0.out rfl ?_)
    refine CK.out.mono ?_
    rintro e w1 ⟨rfl, hb⟩
    have HB1 := Lib.hid (bl_then (bl_alloc (Below.refl w.heap.size w) (AB x A c B d)) hb)
    clear hb CK
    go_wp2
    go_ret2
    exact ⟨_, rfl, Kd.R_nil _ _ _ _ _, HB1.out⟩
set_option maxRecDepth 100000 in
set_option maxHeartbeats 2000000 in
theorem level_any (x : AutV) (A : Option Addr) (c : Nat) (B : Option Addr) (d : Nat) (n : Int) (w : World) (hr : ARd w x A B) :
    Calls Try.prog 39 #[.agg (ac x A c B d), .int .i64 n] w fun e w' => ∃ v, e = .returned (.tuple #[v, .int .i64 (lvE x n)]) ∧ Own w' w.heap.size v (zl (lvL x n)) ∧ Below w.heap.size w w' := by
  have HR := Aside0.mk hr
  have H0 := Lib.hid (hp_new (w := w) (o := AB x A c B d) rfl)
  have CK := Aside0.mk (acheck_any x A c B d (w.alloc (AB x A c B d)) (hr.below (bl_alloc (Below.refl _ _) _)))
  clear hr
  by_cases h0 : autE x = 0
  · have hx := autE_is h0
    by_cases hn : n < 0
    · have e0 : lvE x n = 11 := by unfold lvE; rw [if_pos h0, if_pos hn]
      have e1 : lvL x n = [] := by unfold lvL; rw [e0]; rfl
      rw [e0, e1]
      rw [h0] at CK
      clear h0 hx e0 e1
      go_enter Try.func39, Try.ntmps39
      go_wp2_with (refine ld_au _ rfl w.heap.size rfl H0.out rfl ?_)
      refine CK.out.mono ?_
      rintro e w1 ⟨rfl, hb⟩
      have HB1 := Lib.hid (bl_then (bl_alloc (Below.refl w.heap.size w) (AB x A c B d)) hb)
      clear hb CK
      go_wp2
      go_ret2
      exact ⟨_, rfl, Kd.R_nil _ _ _ _ _, HB1.out⟩
    have e0 : lvE x n = 0 := by unfold lvE; rw [if_pos h0, if_neg hn]
    have e1 : lvL x n = cls x (rfn x n) := by unfold lvL rfn; rw [if_pos e0, if_neg hn]
    have RF := Aside0.mk (fun (W : World) (h : ARd W x A B) => refine_any x A c B d hx n W h)
    rw [e1, e0]
    rw [h0] at CK
    clear h0 hx e1 e0
    generalize cls x (rfn x n) = l at *
    go_enter Try.func39, Try.ntmps39
    go_wp2_with (refine ld_au _ rfl w.heap.size rfl H0.out rfl ?_)
    refine CK.out.mono ?_
    rintro e w1 ⟨rfl, hb⟩
    have H1 := Lib.hid (hp_below' hb H0.out)
    have HB1 := Lib.hid (bl_then (bl_alloc (Below.refl w.heap.size w) (AB x A c B d)) hb)
    clear hb CK
    go_wp2_with (refine ld_au _ rfl w.heap.size rfl H1.out rfl ?_)
    refine (RF.out _ (HR.out.below HB1.out)).mono ?_
    rintro e w2 ⟨v, rfl, ho, hb⟩
    have HO := Aside0.mk (Kd.R_lower ho HB1.out.size)
    have HB2 := Lib.hid (bl_then HB1.out hb)
    clear ho hb
    go_wp2
    go_ret2
    exact ⟨v, rfl, HO.out, HB2.out⟩
  · have h80 : autE x = 80 := autE_no (fun h => h0 (autE_ok h))
    have e0 : lvE x n = 80 := by unfold lvE; rw [if_neg h0]
    have e1 : lvL x n = [] := by unfold lvL; rw [e0]; rfl
    rw [e1, e0]
    rw [h80] at CK
    clear h0 h80 e1 e0
    go_enter Try.func39, Try.ntmps39
    go_wp2_with (refine ld_au _ rfl w.heap.size rfl H0.out rfl ?_)
    refine CK.out.mono ?_
    rintro e w1 ⟨rfl, hb⟩
    have HB1 := Lib.hid (bl_then (bl_alloc (Below.refl w.heap.size w) (AB x A c B d)) hb)
    clear hb CK
    go_wp2
    go_ret2
    exact ⟨_, rfl, Kd.R_nil _ _ _ _ _, HB1.out⟩
end Go.Proofs.Ytjedippbjjedlaa

namespace Go.Proofs.Ytjedippbjjedlaa
open Go.RowKit Go.Proofs.YtjedippbjjedlaaW.PrintWords
set_option linter.unusedVariables false
set_option linter.unusedSectionVars false
section
variable {σ : Type} [DecidableEq σ] {k : Nat} {step : σ → Nat → σ} {first : σ}
/-- Where no more than N states are met, all is closed after N places. -/
theorem closed_at (hk : 0 < k) {N : Nat} (h : ∀ m, (bs k step first m).length ≤ N) : Closed k step first (bs k step first (N * k)).length ∧ ∀ m, (bs k step first (N * k)).length * k ≤ m → bs k step first m = bs k step first (N * k) := by
  obtain ⟨n, hn, hc⟩ := closed_of h
  have e : bs k step first (N * k) = bs k step first (n * k) := hc.stay hk (Nat.mul_le_mul_right k hn)
  have hl : (bs k step first (n * k)).length = n := by rw [bs_len]; exact hc
  rw [e, hl]
  exact ⟨hc, fun m hm => hc.stay hk hm⟩
theorem nx_le (m : Nat) : (nx k step first m).length ≤ m := by
  induction m with
  | zero => exact Nat.le_refl _
  | succ m ih =>
    rw [nx]
    split
    · omega
    · rw [List.length_append, List.length_singleton]; omega
theorem idxOf_last {L : List σ} {t : σ} (h : t ∉ L) : (L ++ [t]).idxOf t = L.length := by
  rw [List.idxOf_append, if_neg h]; simp
/-- One step: the letter leads to a state that is there .. -/
theorem bs_nx_old {i c : Nat} {s : σ} (hc : c < k) (hi : (bs k step first (i * k + c))[i]? = some s) (h : step s c ∈ bs k step first (i * k + c)) : bs k step first (i * k + (c + 1)) = bs k step first (i * k + c) ∧ nx k step first (i * k + (c + 1)) = nx k step first (i * k + c) ++ [(bs k step first (i * k + c)).idxOf (step s c)] := by
  have e1 : (i * k + c) / k = i := by rw [Nat.add_comm, Nat.add_mul_div_right _ _ (by omega), Nat.div_eq_of_lt hc, Nat.zero_add]
  have e2 : (i * k + c) % k = c := by rw [Nat.add_comm, Nat.add_mul_mod_self_right, Nat.mod_eq_of_lt hc]
  have h1 := bs_next (k := k) (step := step) (first := first) (m := i * k + c) (by rw [e1]; exact hi)
  have h2 := nx_next (k := k) (step := step) (first := first) (m := i * k + c) (by rw [e1]; exact hi)
  rw [e2] at h1 h2
  rw [if_pos h] at h1
  rw [h1] at h2
  exact ⟨h1, h2⟩
/-- .. or to a new one. -/
theorem bs_nx_new {i c : Nat} {s : σ} (hc : c < k) (hi : (bs k step first (i * k + c))[i]? = some s) (h : step s c ∉ bs k step first (i * k + c)) : bs k step first (i * k + (c + 1)) = bs k step first (i * k + c) ++ [step s c] ∧ nx k step first (i * k + (c + 1)) = nx k step first (i * k + c) ++ [(bs k step first (i * k + c)).length] := by
  have e1 : (i * k + c) / k = i := by rw [Nat.add_comm, Nat.add_mul_div_right _ _ (by omega), Nat.div_eq_of_lt hc, Nat.zero_add]
  have e2 : (i * k + c) % k = c := by rw [Nat.add_comm, Nat.add_mul_mod_self_right, Nat.mod_eq_of_lt hc]
  have h1 := bs_next (k := k) (step := step) (first := first) (m := i * k + c) (by rw [e1]; exact hi)
  have h2 := nx_next (k := k) (step := step) (first := first) (m := i * k + c) (by rw [e1]; exact hi)
  rw [e2] at h1 h2
  rw [if_neg h] at h1
  rw [h1, idxOf_last h] at h2
  exact ⟨h1, h2⟩
end
/-- The number of letters; the classes; where a letter leads a class; the first class. -/
def mK (x : AutV) : Nat := x.k.toNat
def mcl (x : AutV) : List Nat := cls x x.acc.length
def mst (x : AutV) (s c : Nat) : Nat := (mcl x).getD (stp x s c) 0
def mfi (x : AutV) : Nat := (mcl x).getD 0 0
abbrev mbs (x : AutV) (m : Nat) : List Nat := bs (mK x) (mst x) (mfi x) m
abbrev mnx (x : AutV) (m : Nat) : List Nat := nx (mK x) (mst x) (mfi x) m
/-- The states of the minimal automaton, as classes. -/
def mL (x : AutV) : List Nat := mbs x (x.acc.length * mK x)
def mAut (x : AutV) : AutV := ⟨x.k, zl (mnx x ((mL x).length * mK x)), (mL x).map fun (s : Nat) => rdOf false x.acc (s : Int)⟩
def mTo (x : AutV) : List Int := (mcl x).map fun c => if c ∈ mL x then (((mL x).idxOf c : Nat) : Int) else -1
noncomputable def minV (x : AutV) : AutV := if autE x = 0 then mAut x else ⟨0, [], []⟩
noncomputable def minT (x : AutV) : List Int := if autE x = 0 then mTo x else []
theorem mcl_len (x : AutV) : (mcl x).length = x.acc.length := (cls_cls x _).len
theorem mcl_lt {x : AutV} {t : Nat} (h : t < x.acc.length) : (mcl x).getD t 0 < x.acc.length := Nat.lt_of_le_of_lt ((cls_cls x _).le t h) h
theorem mK_pos {x : AutV} (h : AutOk x) : 0 < mK x := by have := h.1; unfold mK; omega
theorem mst_lt {x : AutV} (h : AutOk x) {s c : Nat} (hs : s < x.acc.length) (hc : c < mK x) : mst x s c < x.acc.length := mcl_lt (stp_lt h hs (by unfold mK at hc; have := h.1; omega)).1
theorem mrn_lt {x : AutV} (h : AutOk x) : ∀ (w : List Nat) (s : Nat), s < x.acc.length → (∀ c ∈ w, c < mK x) → rn (mst x) s w < x.acc.length
  | [], s, hs, _ => hs
  | c :: r, s, hs, hw => mrn_lt h r (mst x s c) (mst_lt h hs (hw c List.mem_cons_self)) (fun d hd => hw d (List.mem_cons_of_mem _ hd))
theorem mfi_lt {x : AutV} (h : AutOk x) : mfi x < x.acc.length := mcl_lt h.2.2.1
theorem mbs_lt {x : AutV} (h : AutOk x) (m : Nat) : ∀ s ∈ mbs x m, s < x.acc.length := fun s hs => by
  obtain ⟨w, hw, rfl⟩ := List.mem_map.1 hs
  exact mrn_lt h w _ (mfi_lt h) (bw_let (mK_pos h) w hw)
theorem mbs_le {x : AutV} (h : AutOk x) (m : Nat) : (mbs x m).length ≤ x.acc.length := nodup_le (bs_nodup m) (mbs_lt h m)
theorem mL_end {x : AutV} (h : AutOk x) {i : Nat} (hi : (mbs x (i * mK x)).length = i) : mbs x (i * mK x) = mL x ∧ (mL x).length = i := by
  obtain ⟨h1, h2⟩ := closed_at (mK_pos h) (mbs_le h)
  have hc : Closed (mK x) (mst x) (mfi x) i := by unfold Closed; rw [← bs_len]; exact hi
  have e := hc.uniq (mK_pos h) h1
  exact ⟨h2 _ (by rw [← e]; exact Nat.le_refl _), e.symm⟩
end Go.Proofs.Ytjedippbjjedlaa

namespace Go.Proofs.Ytjedippbjjedlaa
open Go.RowKit Go.ChangeMaps Go.Proofs.YtjedippbjjedlaaW.PrintWords
set_option linter.unusedSimpArgs false
set_option linter.unusedVariables false
theorem encI_key {n : Nat} (h : n ≤ 4096) : ∃ q, keyOf Try.prog 3 (encI n) = some q := ⟨_, int_key _ (by omega)⟩
/-- Where Minimal stands: its lists and its map. -/
structure MS (w wr : World) (AA : Obj) (k : Int) (cl : List Nat) (vc : Value) (go gm : Nat) (v vn va : Value) (L N : List Nat) (Ac : List Bool) : Prop where
  ab : wr.heap[w.heap.size]? = some AA
  res : wr.heap[w.heap.size + 1]? = some (.cells #[.int .i64 0, .slice none 0 0, .slice none 0 0] 25 (0, 0))
  out : wr.heap[go]? = some (.cells #[.int .i64 k, vn, va] 25 (0, 0))
  cls : Own wr w.heap.size vc (zl cl)
  mp : MapIs wr gm (nents encI L)
  lst : Own wr w.heap.size v (zl L)
  nxt : Own wr w.heap.size vn (zl N)
  acc : Kd.R Kd.bool 4 wr w.heap.size (fun _ => True) va Ac
  s1 : sep vc v
  s2 : sep vc vn
  s3 : sep v vn
  bel : Below w.heap.size w wr
  gmb : w.heap.size ≤ gm
  gob : w.heap.size + 1 < go
section
variable {w W w1 : World} {cs : Array Value} {k : Int} {cl : List Nat} {vc : Value} {go gm : Nat} {v vn va v1 : Value} {L N : List Nat} {Ac : List Bool}
theorem MS.acc_step (h : MS w W (.cells cs 25 (0, 0)) k cl vc go gm v vn va L N Ac) {b : Bool} (ho : Kd.R Kd.bool 4 w1 w.heap.size (fun _ => True) v1 (Ac ++ [b])) (hb : Below w.heap.size w w1) (ha : App W w1 va v1) :
    MS w (w1.setCell ⟨go, 2, none⟩ v1) (.cells cs 25 (0, 0)) k cl vc go gm v vn v1 L N (Ac ++ [b]) := by
  have ho1 := ha.cells h.out h.acc (by decide)
  have hg := h.gob
  refine ⟨hp_cell (by show w.heap.size ≠ go; omega) (ha.cells h.ab h.acc (by decide)), hp_cell (by show w.heap.size + 1 ≠ go; omega) (ha.cells h.res h.acc (by decide)), ?_, ?_, ?_, ?_, ?_, ?_, h.s1, h.s2, h.s3, bl_cell hb (by show w.heap.size ≤ go; omega) _, h.gmb, h.gob⟩
  · rw [heap_setCell_same _ _ _ _ _ _ ho1]; rfl
  · exact own_cellT ho1 (ha.own rfl h.cls (sep_type h.cls h.acc (by decide))).1 (by decide) rfl _ _
  · exact (ha.map h.mp h.acc).of (heap_setCell_other _ _ _ _ (fun e => by
      obtain ⟨es, c, h1, _⟩ := ha.map h.mp h.acc
      simp only at e
      rw [e, ho1] at h1
      cases h1))
  · exact own_cellT ho1 (ha.own rfl h.lst (sep_type h.lst h.acc (by decide))).1 (by decide) rfl _ _
  · exact own_cellT ho1 (ha.own rfl h.nxt (sep_type h.nxt h.acc (by decide))).1 (by decide) rfl _ _
  · exact own_cellT ho1 ho (by decide) rfl _ _
theorem MS.nxt_step (h : MS w W (.cells cs 25 (0, 0)) k cl vc go gm v vn va L N Ac) {b : Nat} (ho : Own w1 w.heap.size v1 (zl N ++ [(b : Int)])) (hb : Below w.heap.size w w1) (ha : App W w1 vn v1) :
    MS w (w1.setCell ⟨go, 1, none⟩ v1) (.cells cs 25 (0, 0)) k cl vc go gm v v1 va L (N ++ [b]) Ac := by
  have ho1 := ha.cells h.out h.nxt (by decide)
  have hg := h.gob
  have hc := ha.own rfl h.cls h.s2
  have hl := ha.own rfl h.lst h.s3
  refine ⟨hp_cell (by show w.heap.size ≠ go; omega) (ha.cells h.ab h.nxt (by decide)), hp_cell (by show w.heap.size + 1 ≠ go; omega) (ha.cells h.res h.nxt (by decide)), ?_, ?_, ?_, ?_, ?_, ?_, h.s1, hc.2, hl.2, bl_cell hb (by show w.heap.size ≤ go; omega) _, h.gmb, h.gob⟩
  · rw [heap_setCell_same _ _ _ _ _ _ ho1]; rfl
  · exact own_cellT ho1 hc.1 (by decide) rfl _ _
  · exact (ha.map h.mp h.nxt).of (heap_setCell_other _ _ _ _ (fun e => by
      obtain ⟨es, c, h1, _⟩ := ha.map h.mp h.nxt
      simp only at e
      rw [e, ho1] at h1
      cases h1))
  · exact own_cellT ho1 hl.1 (by decide) rfl _ _
  · rw [show zl (N ++ [b]) = zl N ++ [(b : Int)] by simp [zl]]
    exact own_cellT ho1 ho (by decide) rfl _ _
  · exact own_cellT ho1 (ha.own rfl h.acc (sep_type h.acc h.nxt (by decide))).1 (by decide) rfl _ _
/-- A new state is numbered .. -/
theorem MS.turn (h : MS w W (.cells cs 25 (0, 0)) k cl vc go gm v vn va L N Ac) {W2 : World} (ht : Turned W W2 gm) :
    W2.heap[w.heap.size]? = some (.cells cs 25 (0, 0)) ∧ W2.heap[w.heap.size + 1]? = some (.cells #[.int .i64 0, .slice none 0 0, .slice none 0 0] 25 (0, 0)) ∧ W2.heap[go]? = some (.cells #[.int .i64 k, vn, va] 25 (0, 0)) ∧ Own W2 w.heap.size vc (zl cl) ∧ Own W2 w.heap.size v (zl L) ∧ Own W2 w.heap.size vn (zl N) ∧ Kd.R Kd.bool 4 W2 w.heap.size (fun _ => True) va Ac ∧ Below w.heap.size w W2 := by
  have hne : ∀ {g : Nat} {c : Array Value} {t : TypeId}, W.heap[g]? = some (.cells c t (0, 0)) → g ≠ gm := fun hg e => by
    obtain ⟨es, c, h1, _⟩ := h.mp
    rw [e, h1] at hg; cases hg
  exact ⟨(ht.block _ (hne h.ab)).trans h.ab, (ht.block _ (hne h.res)).trans h.res, (ht.block _ (hne h.out)).trans h.out, own_turn ht h.cls (map_not h.mp h.cls) rfl, own_turn ht h.lst (map_not h.mp h.lst) rfl, own_turn ht h.nxt (map_not h.mp h.nxt) rfl, own_turn ht h.acc (map_not h.mp h.acc) rfl, ht.below h.bel h.gmb⟩
/-- .. and listed. -/
theorem MS.lst_step (h : MS w W (.cells cs 25 (0, 0)) k cl vc go gm v vn va L N Ac) {W2 : World} {s : Nat} (ht : Turned W W2 gm) (hm : MapIs W2 gm (nents encI (L ++ [s]))) (ho : Own w1 w.heap.size v1 (zl L ++ [(s : Int)])) (hb : Below w.heap.size w w1) (ha : App W2 w1 v v1) :
    MS w w1 (.cells cs 25 (0, 0)) k cl vc go gm v1 vn va (L ++ [s]) N Ac := by
  obtain ⟨t1, t2, t3, t4, t5, t6, t7, t8⟩ := h.turn ht
  have hc := ha.own rfl t4 h.s1
  have hn := ha.own rfl t6 h.s3.symm
  exact ⟨ha.cells t1 t5 (by decide), ha.cells t2 t5 (by decide), ha.cells t3 t5 (by decide), hc.1, ha.map hm t5, by rw [show zl (L ++ [s]) = zl L ++ [(s : Int)] by simp [zl]]; exact ho, hn.1, (ha.own rfl t7 (sep_type t7 t5 (by decide))).1, hc.2, h.s2, hn.2.symm, hb, h.gmb, h.gob⟩
theorem MS.below (h : MS w W (.cells cs 25 (0, 0)) k cl vc go gm v vn va L N Ac) (hb : Below W.heap.size W w1) : MS w w1 (.cells cs 25 (0, 0)) k cl vc go gm v vn va L N Ac :=
  ⟨hp_below' hb h.ab, hp_below' hb h.res, hp_below' hb h.out, Kd.R_below h.cls hb, h.mp.below hb, Kd.R_below h.lst hb, Kd.R_below h.nxt hb, Kd.R_below h.acc hb, h.s1, h.s2, h.s3, bl_then h.bel hb, h.gmb, h.gob⟩
theorem MS.drewN (h : MS w W (.cells cs 25 (0, 0)) k cl vc go gm v vn va L N Ac) (n : Nat) : MS w (W.drewN n) (.cells cs 25 (0, 0)) k cl vc go gm v vn va L N Ac :=
  ⟨h.ab, h.res, h.out, Kd.R_drewN h.cls n, h.mp.of rfl, Kd.R_drewN h.lst n, Kd.R_drewN h.nxt n, Kd.R_drewN h.acc n, h.s1, h.s2, h.s3, bl_drewN h.bel n, h.gmb, h.gob⟩
theorem MS.drew (h : MS w W (.cells cs 25 (0, 0)) k cl vc go gm v vn va L N Ac) : MS w W.drew (.cells cs 25 (0, 0)) k cl vc go gm v vn va L N Ac := h.drewN 1
end
end Go.Proofs.Ytjedippbjjedlaa

namespace Go.Proofs.Ytjedippbjjedlaa
open Go.RowKit Go.Proofs.YtjedippbjjedlaaW.PrintWords
set_option linter.unusedSimpArgs false
set_option linter.unusedVariables false
/-- Which of the first places accept. -/
def acs (x : AutV) (k m : Nat) : List Bool := ((mbs x m).take k).map fun (s : Nat) => rdOf false x.acc (s : Int)
theorem acs_keep (x : AutV) {k m m' : Nat} (h : m ≤ m') (hk : k ≤ (mbs x m).length) : acs x k m' = acs x k m := by
  obtain ⟨r, hr⟩ := bw_more (k := mK x) (step := mst x) (first := mfi x) m (m' - m)
  rw [show m + (m' - m) = m' by omega] at hr
  have : mbs x m' = mbs x m ++ r.map (rn (mst x) (mfi x)) := by unfold mbs bs; rw [hr, List.map_append]
  unfold acs
  rw [this, List.take_append_of_le_length hk]
theorem acs_next (x : AutV) {k m : Nat} (hk : k < (mbs x m).length) : acs x (k + 1) m = acs x k m ++ [rdOf false x.acc (((mbs x m).getD k 0 : Nat) : Int)] := by
  unfold acs
  rw [List.take_succ_eq_append_getElem hk, List.map_append, List.getD_eq_getElem?_getD, List.getElem?_eq_getElem hk]
  rfl
theorem acs_next' (x : AutV) {k m s : Nat} (hk : k < (mbs x m).length) (hs : s = (mbs x m).getD k 0) : acs x (k + 1) m = acs x k m ++ [rdOf false x.acc (s : Int)] := by rw [hs]; exact acs_next x hk
/-- Where the first j states go. -/
def tv (x : AutV) (c : Nat) : Int := if c ∈ mL x then (((mL x).idxOf c : Nat) : Int) else -1
def tok (x : AutV) (j : Nat) : List Int := (List.range x.acc.length).map fun i => if i < j then tv x ((mcl x).getD i 0) else 0
theorem tok_len (x : AutV) (j : Nat) : (tok x j).length = x.acc.length := by simp [tok]
theorem tok_zero (x : AutV) : tok x 0 = zl (List.replicate x.acc.length 0) := by
  apply List.ext_getElem (by simp [tok, zl])
  intro i h1 h2
  simp [tok, zl]
theorem tok_set (x : AutV) (j : Nat) : (tok x j).set j (tv x ((mcl x).getD j 0)) = tok x (j + 1) := by
  apply List.ext_getElem (by simp [tok])
  intro i h1 h2
  simp only [tok, List.getElem_set, List.getElem_map, List.getElem_range]
  by_cases e : j = i
  · subst e; simp
  · rw [if_neg e]
    by_cases hi : i < j
    · simp [hi, show i < j + 1 by omega]
    · simp [hi, show ¬ i < j + 1 by omega]
theorem tok_end (x : AutV) : tok x x.acc.length = mTo x := by
  unfold tok mTo
  apply List.ext_getElem (by simp [mcl_len])
  intro i h1 h2
  have hi : i < x.acc.length := by simpa using h1
  have hi2 : i < (mcl x).length := by rw [mcl_len]; exact hi
  simp only [List.getElem_map, List.getElem_range, if_pos hi, List.getD_eq_getElem?_getD, List.getElem?_eq_getElem hi2, Option.getD_some]
  rfl
theorem add_plain0 (ad : Addr) : ad.add 0 = ad := by unfold Addr.add; simp
set_option maxRecDepth 100000 in
set_option maxHeartbeats 4000000 in
set_option pp.deepTerms true in
set_option pp.maxSteps 100000 in
theorem minimal_any (x : AutV) (A : Option Addr) (c : Nat) (B : Option Addr) (d : Nat) (hx : AutOk x) (w : World) (hr : ARd w x A B) :
    Calls Try.prog 25 #[.agg (ac x A c B d)] w fun e w' => ∃ vn va vt, e = .returned (.tuple #[.agg #[.int .i64 x.k, vn, va], vt, .int .i64 0]) ∧ Own w' w.heap.size vn (mAut x).next ∧ Kd.R Kd.bool 4 w' w.heap.size (fun _ => True) va (mAut x).acc ∧ Own w' w.heap.size vt (mTo x) ∧ sep vn vt ∧ Below w.heap.size w w' := by
  have HR := Aside0.mk hr
  have HX := Lib.hid hx
  have H0 := Lib.hid (hp_new (w := w) (o := AB x A c B d) rfl)
  have CK := Aside0.mk (fun (W : World) (h : ARd W x A B) => acheck_any x A c B d W h)
  rw [autE_ok hx] at CK
  have RF := Aside0.mk (fun (W : World) (h : ARd W x A B) => refine_any x A c B d hx (-1) W h)
  rw [show cls x (rfn x (-1)) = mcl x by unfold rfn mcl; rw [if_pos (by decide)]] at RF
  have hx0 := hx.2.2.1; have hx1 := hx.2.2.2.1; have hk0 := hx.1; have hk8 := hx.2.1
  have hmm := @run_makeMap Try.prog
  clear hr hx
  go_enter Try.func25, Try.ntmps25
  have A0 := Lib.hid (hp_old (o := .cells #[.int .i64 0, .slice none 0 0, .slice none 0 0] 25) H0.out)
  have A1 := Lib.hid (hp_new (w := w.alloc (AB x A c B d)) (o := .cells #[.int .i64 0, .slice none 0 0, .slice none 0 0] 25) rfl)
  have AL := Lib.hid (bl_alloc (bl_alloc (Below.refl w.heap.size w) (AB x A c B d)) (.cells #[.int .i64 0, .slice none 0 0, .slice none 0 0] 25))
  go_wp2_with (refine ld_au _ rfl w.heap.size rfl A0.out rfl ?_)
  refine (CK.out _ (HR.out.below AL.out)).mono ?_
  rintro e w1 ⟨rfl, hb⟩
  have B0 := Lib.hid (hp_below' hb A0.out); have B1 := Lib.hid (hp_below' hb A1.out)
  have BL := Lib.hid (bl_then AL.out hb)
  clear hb CK A0 A1 AL
  go_wp2_with (refine ld_au _ rfl w.heap.size rfl B0.out rfl ?_)
  refine (RF.out _ (HR.out.below BL.out)).mono ?_
  rintro e w2 ⟨vc, rfl, ho, hb⟩
  have hvc := Kd.R_lower ho BL.out.size
  have C0 := Lib.hid (hp_below' hb B0.out); have C1 := Lib.hid (hp_below' hb B1.out)
  have CL := Lib.hid (bl_then BL.out hb)
  clear hb ho RF B0 B1 BL
  obtain ⟨Lc, lcc, rfl, hlcc, hcC⟩ := own_slice x.acc.length (mcl_len x) hvc
  have HC := Aside0.mk hcC
  have HVC := Aside0.mk hvc
  clear hcC hvc
  obtain ⟨ad0, hL0, hcell0⟩ := Kd.at_int HC.out (0 : Int) (by omega) (by omega)
  subst hL0
  rw [show (0 : Int).toNat = ((0 : Nat) : Int).toNat from rfl, Int.toNat_natCast] at hcell0
  rw [show (0 : Int) = ((0 : Nat) : Int) from rfl, zl_rd] at hcell0
  have c0 : w2.cell? ⟨w.heap.size, 0, none⟩ = some (.int .i64 x.k) := by rw [cell_of_row _ _ _ _ _ _ C0.out]; rfl
  have M0 : MapIs ((w2.alloc (AB ⟨x.k, [], []⟩ none 0 none 0)).alloc (.map #[] 0)) (w2.alloc (AB ⟨x.k, [], []⟩ none 0 none 0)).heap.size (nents encI []) := MapIs.new _
  obtain ⟨w3, hrun, hM, hT⟩ := nents_put (s := (mcl x).getD 0 0) M0 int_law encI_inj (fun s hs => by cases hs) (encI_key (by have := mcl_lt (x := x) (t := 0) (by omega); omega)) Try.underlying74 (by simp)
  rw [World.size_alloc] at hrun hM hT
  have HRN := Aside0.mk hrun
  clear hrun M0
  rw [add_plain0] at hcell0
  have hlt0 := World.block_lt_of_cell? _ _ hcell0
  have hc1 := alloc_cell (o := .map #[] 0) (alloc_cell (o := AB ⟨x.k, [], []⟩ none 0 none 0) hcell0)
  have hc2 := hT.cell hc1 (by omega)
  go_wp2_with (first | ((with_reducible refine gate_st (t := 25) rfl ?_); refine st_au_new (y := ⟨x.k, [], []⟩) (A := none) (c := 0) (B := none) (d := 0) _ _ rfl rfl rfl rfl rfl ?_) | ((with_reducible refine gate_ins (t := 74) rfl ?_); refine mp_ins _ _ _ _ rfl _ _ _ rfl rfl rfl rfl HRN.out ?_))
  have MSI : Hid (MS w (w3.alloc (.cells #[.int .i64 (((mcl x).getD 0 0 : Nat) : Int)] 3)) (AB x A c B d) x.k (mcl x) (.slice (some ad0) x.acc.length lcc) w2.heap.size (w2.heap.size + 1) (.slice (some ⟨w3.heap.size, 0, none⟩) 1 1) (.slice none 0 0) (.slice none 0 0) (mbs x (0 * mK x)) (mnx x (0 * mK x)) (acs x 0 (0 * mK x))) := by
    have e0 : mbs x (0 * mK x) = [(mcl x).getD 0 0] := by rw [Nat.zero_mul]; rfl
    have e1 : mnx x (0 * mK x) = [] := by rw [Nat.zero_mul]; rfl
    have e2 : acs x 0 (0 * mK x) = [] := by unfold acs; rw [List.take_zero]; rfl
    rw [e0, e1, e2]
    have hs3 : w3.heap.size = w2.heap.size + 2 := by rw [hT.size, World.size_alloc, World.size_alloc]
    have hsc := CL.out.size
    have k1 : w2.heap.size < w3.heap.size := by omega
    have kc := own_turn hT (Kd.R_alloc (Kd.R_alloc HVC.out (AB ⟨x.k, [], []⟩ none 0 none 0)) (.map #[] 0)) (fun he => by have := Kd.R_lt HVC.out _ he.symm; omega) rfl
    have hl0 := hp_lt C0.out; have hl1 := hp_lt C1.out
    rw [World.size_alloc] at hl1
    refine Lib.hid ⟨hp_old ((hT.block _ (by omega)).trans (hp_old (hp_old C0.out))), hp_old ((hT.block _ (by omega)).trans (hp_old (hp_old (by rw [← World.size_alloc]; exact C1.out)))), hp_old ((hT.block _ (by omega)).trans (hp_old (hp_new rfl))), Kd.R_alloc kc _, hM.of (by exact (Below.heap_alloc _ _ _ (by omega))), own_img (l := [(mcl x).getD 0 0]) (hp_new rfl) (by omega) rfl (by omega), Kd.R_nil _ _ _ _ _, Kd.R_nil _ _ _ _ _, ?_, sep_nil _, sep_nil _, ?_, by omega, by omega⟩
    · exact sep_new (W := w2) HVC.out ⟨w3.heap.size, rfl, by omega⟩
    · have hb := hT.below (bl_alloc (bl_alloc CL.out (AB ⟨x.k, [], []⟩ none 0 none 0)) (.map #[] 0)) (by omega)
      exact bl_alloc hb _
  have hgo := CL.out.size
  generalize hgow : w2.heap.size = gow at *
  clear hM hT HRN hc1 hc2 hlt0 hcell0 c0 C0 C1 HC HVC hmm
  go_loopw [9, 10] (fun v i wr => ∃ (k : Nat) (vn va : Value), i = .int .i64 k ∧ Hid (k ≤ (mbs x (k * mK x)).length) ∧ Hid (MS w wr (AB x A c B d) x.k (mcl x) (.slice (some ad0) x.acc.length lcc) gow (gow + 1) v vn va (mbs x (k * mK x)) (mnx x (k * mK x)) (acs x k (k * mK x)))) (fun _ i _ => x.acc.length + 1 - (intOf i).toNat)
  case atStart => exact ⟨0, _, _, rfl, Lib.hid (Nat.zero_le _), MSI⟩
  case round =>
    obtain ⟨k, vn, va, rfl, HK, H⟩ := hrel
    have hlen := mbs_le HX.out (k * mK x)
    obtain ⟨lb, lc, rfl, hlb, hlbs, hlcell⟩ := own_form (0 : Int) H.out.lst (by rw [zl_len]; exact bs_len (k := mK x) (step := mst x) (first := mfi x) _ ▸ bw_len_pos _)
    rw [zl_len] at *
    have hkn := HK.out
    by_cases hkl : k < (mbs x (k * mK x)).length
    ·
      --<A
      have hss := mbs_lt HX.out (k * mK x) _ (List.mem_of_getElem? (List.getElem?_eq_getElem hkl))
      obtain ⟨s, hs⟩ : ∃ s, s = (mbs x (k * mK x)).getD k 0 := ⟨_, rfl⟩
      have hs' : (mbs x (k * mK x))[k]? = some s := by rw [hs, List.getD_eq_getElem?_getD, List.getElem?_eq_getElem hkl]; rfl
      have hsn : s < x.acc.length := mbs_lt HX.out _ _ (List.mem_of_getElem? hs')
      have cl1 := (hlcell k hkl).1
      rw [zl_get, ← hs] at cl1
      have HS1 := Lib.hid hs
      have HS2 := Lib.hid hs'
      clear hs hs' hlcell
      have ca2 : wr.cell? ⟨w.heap.size, 2, none⟩ = some (.slice B x.acc.length d) := by rw [cell_of_row _ _ _ _ _ _ H.out.ab]; rfl
      obtain ⟨adB, hB, ca3⟩ := Kd.at_bool (Kd.C_below HR.out.acc H.out.bel) (s : Int) (by omega) (by omega)
      rw [Int.toNat_natCast] at ca3
      subst hB
      have hba := Kd.R_base H.out.acc
      have hgo := H.out.gob
      have hnb : ∀ {g : Nat} {cs : Array Value}, wr.heap[g]? = some (.cells cs 25 (0, 0)) → some g ≠ va.ownBlock := fun h => Kd.R_ne H.out.acc h (by decide)
      have hnl : some lb ≠ va.ownBlock := fun e => sep_type H.out.lst H.out.acc (by decide) lb rfl e.symm
      have hbB : (adB.add s).block < w.heap.size := by
        obtain ⟨ad', e', h'⟩ := Kd.at_bool HR.out.acc (s : Int) (by omega) (by omega)
        injection e' with e'
        subst e'
        rw [Int.toNat_natCast] at h'
        exact World.block_lt_of_cell? _ _ h'
      have hnB : some (adB.add s).block ≠ va.ownBlock := fun e => by
        have h1 := hba _ e.symm
        omega
      have hlg : lb ≠ gow := fun e => Kd.R_ne H.out.lst H.out.out (by decide) (by rw [e]; rfl)
      have HD := Lib.hid H.out.drew
      go_wp2
      refine wp_region_held_drew (S := Away wr va gow) (by kernel_rfl) (fun _ _ _ _ => rfl) (fun hS => ?_)
      refine any_take (i := 0) (v := ?v3) rfl (by kernel_rfl) (by kernel_rfl) (by kernel_rfl) (fun _ _ _ h => h) hS (.inl ⟨by rfl, ?y3⟩) ?_
      case y3 => (intro w' h'; go_simp; with_reducible rfl)
      (try simp only [Act.put, List.setIfInBounds_toArray, List.set_cons_zero, List.set_cons_succ])
      refine any_take (i := 2) (v := ?v4) rfl (by kernel_rfl) (by kernel_rfl) (by kernel_rfl) (fun _ _ _ h => h) hS (.inl ⟨by rfl, ?y4⟩) ?_
      case y4 => (intro w' h'; go_simp; with_reducible rfl)
      (try simp only [Act.put, List.setIfInBounds_toArray, List.set_cons_zero, List.set_cons_succ])
      refine any_take (i := 3) (v := (.slice (some adB) x.acc.length d)) rfl (by kernel_rfl) (by kernel_rfl) (by kernel_rfl) (fun _ _ _ h => h) hS (yi_cell _ _ rfl (by rfl) ⟨w.heap.size, 2, none⟩ rfl _ Try.underlying23 rfl (fun w' h' => (h'.cell ca2 (hnb H.out.ab) (by show w.heap.size ≠ gow; omega)))) ?_
      (try simp only [Act.put, List.setIfInBounds_toArray, List.set_cons_zero, List.set_cons_succ])
      refine any_take (i := 4) (v := ?v7) rfl (by kernel_rfl) (by kernel_rfl) (by kernel_rfl) (fun _ _ _ h => h) hS (.inl ⟨by rfl, ?y7⟩) ?_
      case y7 => (intro w' h'; go_simp; with_reducible rfl)
      (try simp only [Act.put, List.setIfInBounds_toArray, List.set_cons_zero, List.set_cons_succ])
      refine any_take (i := 5) (v := ?v8) rfl (by kernel_rfl) (by kernel_rfl) (by kernel_rfl) (fun _ _ _ h => h) hS (.inl ⟨by rfl, ?y8⟩) ?_
      case y8 => (intro w' h'; go_simp; with_reducible rfl)
      (try simp only [Act.put, List.setIfInBounds_toArray, List.set_cons_zero, List.set_cons_succ])
      refine any_take (i := 6) (v := ?v9) rfl (by kernel_rfl) (by kernel_rfl) (by kernel_rfl) (fun _ _ _ h => h) hS (.inl ⟨by rfl, ?y9⟩) ?_
      case y9 => (intro w' h'; go_simp; with_reducible rfl)
      (try simp only [Act.put, List.setIfInBounds_toArray, List.set_cons_zero, List.set_cons_succ])
      refine any_take (i := 7) (v := (.int .i64 s)) rfl (by kernel_rfl) (by kernel_rfl) (by kernel_rfl) (fun _ _ _ h => h) hS (yi_cell _ _ rfl (by rfl) ⟨lb, k, none⟩ rfl _ Try.underlying3 rfl (fun w' h' => (h'.cell cl1 hnl hlg))) ?_
      (try simp only [Act.put, List.setIfInBounds_toArray, List.set_cons_zero, List.set_cons_succ])
      refine any_take (i := 8) (v := ?v12) rfl (by kernel_rfl) (by kernel_rfl) (by kernel_rfl) (fun _ _ _ h => h) hS (.inl ⟨by rfl, ?y12⟩) ?_
      case y12 => (intro w' h'; go_simp; with_reducible rfl)
      (try simp only [Act.put, List.setIfInBounds_toArray, List.set_cons_zero, List.set_cons_succ])
      refine any_take (i := 9) (v := (.bool (rdOf false x.acc s))) rfl (by kernel_rfl) (by kernel_rfl) (by kernel_rfl) (fun _ _ _ h => h) hS (yi_cell _ _ rfl (by rfl) (adB.add s) rfl _ Try.underlying4 rfl (fun w' h' => (h'.cell ca3 hnB (by omega)))) ?_
      (try simp only [Act.put, List.setIfInBounds_toArray, List.set_cons_zero, List.set_cons_succ])
      refine any_fapp Kd.bool (w0 := w) (W := wr.drew) w.heap.size (i1 := 1) (i2 := 10) (i3 := 11) rfl rfl rfl (by kernel_rfl) (by kernel_rfl) (by kernel_rfl) (by kernel_rfl) rfl rfl rfl (by decide) 23 4 (.bool false) 1 rfl rfl rfl Try.underlying23 info_bool rfl (by decide) (by decide) gow 2 va (acs x k (k * mK x)) (rdOf false x.acc s) (.bool (rdOf false x.acc s)) [.bool (rdOf false x.acc s)] (run_box1 _ _ Try.underlying23 info_bool rfl rfl) rfl rfl ?f1 ?f2 ?f3 ?f4 ?f5 rfl HD.out.acc HD.out.bel HD.out.bel.size ?f6 ?f7 (fun _ _ _ _ => rfl) ?f8 (fun v1 w1 ho hb ha => ?_)
      case f1 => rfl
      case f2 => rfl
      case f3 => rfl
      case f4 => rfl
      case f5 => rfl
      case f6 =>
        have : (acs x k (k * mK x)).length ≤ 4096 := by unfold acs; rw [List.length_map, List.length_take]; omega
        omega
      case f7 => rw [cell_of_row _ _ _ _ _ _ HD.out.out]; rfl
      case f8 => exact fun g hg _ _ => Below.heap_alloc _ _ g hg
      have hv1 := own_val ho
      have hout1 := ha.cells HD.out.out HD.out.acc (by decide)
      have hS1 : Away wr va gow w1 := fun g hg h1 _ => ha.gr.block g hg h1
      refine ⟨hS1, ?_⟩
      (try simp only [Act.put, List.setIfInBounds_toArray, List.set_cons_zero, List.set_cons_succ])
      rw [show wr.drew.heap.size = wr.heap.size from rfl]
      refine any_take (i := 12) (v := ?v17) rfl (by kernel_rfl) (by kernel_rfl) (by kernel_rfl) (fun _ _ _ h => h) hS1 (.inl ⟨by rfl, ?y17⟩) ?_
      case y17 => (intro w' h'; go_simp; with_reducible rfl)
      (try simp only [Act.put, List.setIfInBounds_toArray, List.set_cons_zero, List.set_cons_succ])
      refine any_one (i := 13) rfl (by kernel_rfl) (by rfl) (wp_store1 23 _ _ rfl gow 2 v1 va rfl rfl (by kernel_rfl) hv1.1 hv1.2 (by rw [cell_of_row _ _ _ _ _ _ hout1]; rfl) (frozen_of_row _ _ _ _ _ hout1) ⟨hS1.set 2 v1, ?_⟩)
      (try simp only [Act.put, List.setIfInBounds_toArray, List.set_cons_zero, List.set_cons_succ])
      refine wpAnyH_done (by kernel_rfl) ?_ _
      have HM := Lib.hid (HD.out.acc_step ho hb ha)
      clear hv1 hout1 hS1 ho hb ha HD H hS
      rw [← acs_next' x hkl HS1.out] at HM
      generalize w1.setCell ⟨gow, 2, none⟩ v1 = w5 at *
      have c0 : w5.cell? ⟨w.heap.size, 0, none⟩ = some (.int .i64 x.k) := by rw [cell_of_row _ _ _ _ _ _ HM.out.ab]; rfl
      clear hnb hnl hnB hba hbB hlg ca3 ca2 cl1 hlbs
      go_wp2
      clear c0
      go_loopw [9, 61] (fun v i wi => ∃ (q : Nat) (vn : Value), (q : Int) ≤ x.k ∧ i = .int .i64 q ∧ Hid (MS w wi (AB x A c (some adB) d) x.k (mcl x) (.slice (some ad0) x.acc.length lcc) gow (gow + 1) v vn v1 (mbs x (k * mK x + q)) (mnx x (k * mK x + q)) (acs x (k + 1) (k * mK x)))) (fun _ i _ => x.k.toNat - (intOf i).toNat)
      case atStart => exact ⟨0, _, by omega, rfl, HM⟩
      case round =>
        obtain ⟨q, vn2, hq, rfl, G⟩ := hrel
        obtain ⟨lb2, lc2, rfl, hlb2, hlbs2, hlcell2⟩ := own_form (0 : Int) G.out.lst (by rw [zl_len]; exact bs_len (k := mK x) (step := mst x) (first := mfi x) _ ▸ bw_len_pos _)
        rw [zl_len] at *
        have c0 : wr.cell? ⟨w.heap.size, 0, none⟩ = some (.int .i64 x.k) := by rw [cell_of_row _ _ _ _ _ _ G.out.ab]; rfl
        by_cases hqk : (q : Int) < x.k
        · have hqK : q < mK x := by unfold mK; omega
          have hsq : (mbs x (k * mK x + q))[k]? = some s := bs_keep (Nat.le_add_right _ _) HS2.out
          obtain ⟨hk2, hk3⟩ := List.getElem?_eq_some_iff.1 hsq
          have cl1 := (hlcell2 k hk2).1
          rw [zl_get, List.getD_eq_getElem?_getD, hsq] at cl1
          replace cl1 : wr.cell? ⟨lb2, k, none⟩ = some (.int .i64 (s : Int)) := cl1
          have c1 : wr.cell? ⟨w.heap.size, 1, none⟩ = some (.slice A x.next.length c) := by rw [cell_of_row _ _ _ _ _ _ G.out.ab]; rfl
          obtain ⟨hz1, hz2⟩ := stp_lt HX.out hsn hqk
          have hix := stp_idx HX.out hsn hqk
          obtain ⟨ad2, hA, hcell2⟩ := Kd.at_int (Kd.C_below HR.out.next G.out.bel) ((s * x.k.toNat + q : Nat) : Int) (by omega) (by omega)
          rw [Int.toNat_natCast, hz2] at hcell2
          obtain ⟨Lc3, lc3, e3, _, hC3⟩ := own_slice x.acc.length (mcl_len x) G.out.cls
          obtain ⟨ad3, hL3, hcell3⟩ := Kd.at_int hC3 (stp x s q : Int) (by omega) (by omega)
          have e4 : some ad0 = Lc3 := by injection e3
          clear e3
          rw [← e4] at hL3
          injection hL3 with hL3
          subst hL3
          clear e4
          rw [Int.toNat_natCast, zl_rd] at hcell3
          have hmul : (s : Int) * x.k = ((s * x.k.toNat : Nat) : Int) := by
            obtain ⟨kk, hkk⟩ := Int.eq_ofNat_of_zero_le (show 0 ≤ x.k by omega)
            rw [hkk, Int.toNat_natCast]; push_cast; rfl
          have hP : s * x.k.toNat ≤ 40960 := by
            have : s * x.k.toNat ≤ 4096 * 10 := Nat.mul_le_mul (by omega) (by omega)
            omega
          obtain ⟨t, ht⟩ : ∃ t, t = mst x s q := ⟨_, rfl⟩
          have htn : t < x.acc.length := by rw [ht]; exact mst_lt HX.out hsn hqK
          have HT := Lib.hid ht
          have hcell4 : wr.cell? (ad0.add (stp x s q)) = some (.int .i64 (t : Int)) := by rw [ht]; exact hcell3
          have HSQ := Lib.hid hsq
          clear ht hcell3 hC3 hsq hk2 hk3 hlcell2
          have HMUL := Lib.hid hmul
          have HX2 := Lib.hid hcell2; have HX4 := Lib.hid hcell4; have HL1 := Lib.hid cl1; have HC0 := Lib.hid c0; have HC1 := Lib.hid c1
          have hcond : Hid (t ∈ mbs x (k * mK x + q) → mbs x (k * mK x + (q + 1)) = mbs x (k * mK x + q) ∧ mnx x (k * mK x + (q + 1)) = mnx x (k * mK x + q) ++ [(mbs x (k * mK x + q)).idxOf t]) := Lib.hid (fun hm => by rw [HT.out] at hm ⊢; exact bs_nx_old hqK HSQ.out hm)
          have hcond2 : Hid (t ∉ mbs x (k * mK x + q) → mbs x (k * mK x + (q + 1)) = mbs x (k * mK x + q) ++ [t] ∧ mnx x (k * mK x + (q + 1)) = mnx x (k * mK x + q) ++ [(mbs x (k * mK x + q)).length]) := Lib.hid (fun hm => by rw [HT.out] at hm ⊢; exact bs_nx_new hqK HSQ.out hm)
          have hlen2 := mbs_le HX.out (k * mK x + q)
          have hkL : k < (mbs x (k * mK x + q)).length := (List.getElem?_eq_some_iff.1 HSQ.out).1
          have hnd : Hid ((mbs x (k * mK x + q)).Nodup) := Lib.hid (bs_nodup _)
          have hky : Hid (∀ s ∈ mbs x (k * mK x + q), ∃ q, keyOf Try.prog 3 (encI s) = some q) := Lib.hid (fun s hs => encI_key (by have := mbs_lt HX.out _ s hs; omega))
          have hnl : Hid ((mnx x (k * mK x + q)).length ≤ 40960) := Lib.hid (by
            have h1 : k < x.acc.length := by omega
            have : (mnx x (k * mK x + q)).length ≤ _ := nx_le (k * mK x + q)
            have h2 : k * mK x + q ≤ (k + 1) * mK x := by rw [Nat.succ_mul]; omega
            have h3 : (k + 1) * mK x ≤ 4096 * 8 := Nat.mul_le_mul (by omega) (by unfold mK; omega)
            omega)
          clear hmul hz2 hcell2 hcell4 cl1 c0 c1
          generalize mbs x (k * mK x + q) = L1 at *
          generalize mnx x (k * mK x + q) = N1 at *
          generalize acs x (k + 1) (k * mK x) = A1 at *
          generalize s * x.k.toNat = P at *
          generalize stp x s q = z at *
          subst hA
          go_wp2
          refine wp_region_held_drew (S := fun w' => w' = wr.drew) (by kernel_rfl) rfl (fun hS => ?_)
          have hw5 : IntKind.i64.wrap ((s : Int) * x.k) = (P : Int) := by rw [HMUL.out]; exact IntWalk.i64_in _ ⟨by omega, by omega⟩
          have hw11 : IntKind.i64.wrap ((P : Int) + (q : Int)) = (P : Int) + (q : Int) := IntWalk.i64_in _ ⟨by omega, by omega⟩
          have hw12 : 0 ≤ (P : Int) + (q : Int) ∧ (P : Int) + (q : Int) < (x.next.length : Int) := ⟨by omega, by omega⟩
          have hw13 : ((P : Int) + (q : Int)).toNat = P + q := by omega
          refine any_take (i := 0) (v := ?v21) rfl (by kernel_rfl) (by kernel_rfl) (by kernel_rfl) (fun _ _ _ h => h) hS (.inl ⟨by rfl, ?y21⟩) ?_
          case y21 => (intro w' h'; go_simp; with_reducible rfl)
          (try simp only [Act.put, List.setIfInBounds_toArray, List.set_cons_zero, List.set_cons_succ])
          refine any_take (i := 1) (v := ?v22) rfl (by kernel_rfl) (by kernel_rfl) (by kernel_rfl) (fun _ _ _ h => h) hS (.inl ⟨by rfl, ?y22⟩) ?_
          case y22 => (intro w' h'; go_simp; with_reducible rfl)
          (try simp only [Act.put, List.setIfInBounds_toArray, List.set_cons_zero, List.set_cons_succ])
          refine any_take (i := 2) (v := (.slice (some ad2) x.next.length c)) rfl (by kernel_rfl) (by kernel_rfl) (by kernel_rfl) (fun _ _ _ h => h) hS (yi_cell _ _ rfl (by rfl) ⟨w.heap.size, 1, none⟩ rfl _ Try.underlying22 rfl (fun w' h' => (by rw [h']; exact HC1.out))) ?_
          (try simp only [Act.put, List.setIfInBounds_toArray, List.set_cons_zero, List.set_cons_succ])
          refine any_take (i := 3) (v := ?v25) rfl (by kernel_rfl) (by kernel_rfl) (by kernel_rfl) (fun _ _ _ h => h) hS (.inl ⟨by rfl, ?y25⟩) ?_
          case y25 => (intro w' h'; go_simp; with_reducible rfl)
          (try simp only [Act.put, List.setIfInBounds_toArray, List.set_cons_zero, List.set_cons_succ])
          refine any_take (i := 4) (v := ?v26) rfl (by kernel_rfl) (by kernel_rfl) (by kernel_rfl) (fun _ _ _ h => h) hS (.inl ⟨by rfl, ?y26⟩) ?_
          case y26 => (intro w' h'; go_simp; with_reducible rfl)
          (try simp only [Act.put, List.setIfInBounds_toArray, List.set_cons_zero, List.set_cons_succ])
          refine any_take (i := 5) (v := ?v27) rfl (by kernel_rfl) (by kernel_rfl) (by kernel_rfl) (fun _ _ _ h => h) hS (.inl ⟨by rfl, ?y27⟩) ?_
          case y27 => (intro w' h'; go_simp; with_reducible rfl)
          (try simp only [Act.put, List.setIfInBounds_toArray, List.set_cons_zero, List.set_cons_succ])
          refine any_take (i := 6) (v := (.int .i64 s)) rfl (by kernel_rfl) (by kernel_rfl) (by kernel_rfl) (fun _ _ _ h => h) hS (yi_cell _ _ rfl (by rfl) ⟨lb2, k, none⟩ rfl _ Try.underlying3 rfl (fun w' h' => (by rw [h']; exact HL1.out))) ?_
          (try simp only [Act.put, List.setIfInBounds_toArray, List.set_cons_zero, List.set_cons_succ])
          refine any_take (i := 7) (v := ?v30) rfl (by kernel_rfl) (by kernel_rfl) (by kernel_rfl) (fun _ _ _ h => h) hS (.inl ⟨by rfl, ?y30⟩) ?_
          case y30 => (intro w' h'; go_simp; with_reducible rfl)
          (try simp only [Act.put, List.setIfInBounds_toArray, List.set_cons_zero, List.set_cons_succ])
          refine any_take (i := 8) (v := (.int .i64 x.k)) rfl (by kernel_rfl) (by kernel_rfl) (by kernel_rfl) (fun _ _ _ h => h) hS (yi_cell _ _ rfl (by rfl) ⟨w.heap.size, 0, none⟩ rfl _ Try.underlying3 rfl (fun w' h' => (by rw [h']; exact HC0.out))) ?_
          (try simp only [Act.put, List.setIfInBounds_toArray, List.set_cons_zero, List.set_cons_succ])
          refine any_take (i := 9) (v := .int .i64 (P : Int)) rfl (by kernel_rfl) (by kernel_rfl) (by kernel_rfl) (fun _ _ _ h => h) hS (yi_val (by rfl) (fun w' h' => ?y32)) ?_
          case y32 => first | rfl | (go_simp; done) | (go_simp; omega)
          (try simp only [Act.put, List.setIfInBounds_toArray, List.set_cons_zero, List.set_cons_succ])
          refine any_take (i := 10) (v := ?v34) rfl (by kernel_rfl) (by kernel_rfl) (by kernel_rfl) (fun _ _ _ h => h) hS (.inl ⟨by rfl, ?y34⟩) ?_
          case y34 => (intro w' h'; go_simp; with_reducible rfl)
          (try simp only [Act.put, List.setIfInBounds_toArray, List.set_cons_zero, List.set_cons_succ])
          refine any_take (i := 11) (v := .int .i64 ((P : Int) + (q : Int))) rfl (by kernel_rfl) (by kernel_rfl) (by kernel_rfl) (fun _ _ _ h => h) hS (yi_val (by rfl) (fun w' h' => ?y35)) ?_
          case y35 => first | rfl | (go_simp; done) | (go_simp; omega)
          (try simp only [Act.put, List.setIfInBounds_toArray, List.set_cons_zero, List.set_cons_succ])
          refine any_take (i := 12) (v := .pointer (some (ad2.add (P + q)))) rfl (by kernel_rfl) (by kernel_rfl) (by kernel_rfl) (fun _ _ _ h => h) hS (yi_val (by rfl) (fun w' h' => ?y36)) ?_
          case y36 => first | rfl | (go_simp; done) | (go_simp; omega)
          (try simp only [Act.put, List.setIfInBounds_toArray, List.set_cons_zero, List.set_cons_succ])
          refine any_take (i := 13) (v := (.int .i64 (z : Int))) rfl (by kernel_rfl) (by kernel_rfl) (by kernel_rfl) (fun _ _ _ h => h) hS (yi_cell _ _ rfl (by rfl) (ad2.add (P + q)) rfl _ Try.underlying3 rfl (fun w' h' => (by rw [h']; exact HX2.out))) ?_
          (try simp only [Act.put, List.setIfInBounds_toArray, List.set_cons_zero, List.set_cons_succ])
          refine any_take (i := 14) (v := ?v39) rfl (by kernel_rfl) (by kernel_rfl) (by kernel_rfl) (fun _ _ _ h => h) hS (.inl ⟨by rfl, ?y39⟩) ?_
          case y39 => (intro w' h'; go_simp; with_reducible rfl)
          (try simp only [Act.put, List.setIfInBounds_toArray, List.set_cons_zero, List.set_cons_succ])
          refine any_take (i := 15) (v := (.int .i64 (t : Int))) rfl (by kernel_rfl) (by kernel_rfl) (by kernel_rfl) (fun _ _ _ h => h) hS (yi_cell _ _ rfl (by rfl) (ad0.add z) rfl _ Try.underlying3 rfl (fun w' h' => (by rw [h']; exact HX4.out))) ?_
          (try simp only [Act.put, List.setIfInBounds_toArray, List.set_cons_zero, List.set_cons_succ])
          refine any_take (i := 16) (v := ?v42) rfl (by kernel_rfl) (by kernel_rfl) (by kernel_rfl) (fun _ _ _ h => h) hS (.inl ⟨by rfl, ?y42⟩) ?_
          case y42 => (intro w' h'; go_simp; with_reducible rfl)
          (try simp only [Act.put, List.setIfInBounds_toArray, List.set_cons_zero, List.set_cons_succ])
          refine wpAnyH_done (by kernel_rfl) ?_ _
          clear hS hw5 hw11 hw12 hw13 HMUL
          have GD := Lib.hid G.out.drew
          clear G HX2 HX4 HL1 HC0 HC1
          generalize wr.drew = w6 at *
          have LK := nents_look (s := t) GD.out.mp int_law encI_inj hnd.out hky.out (encI_key (by omega)) Try.underlying74 (by kernel_rfl) true
          by_cases hm : t ∈ L1
          · have LK2 := nents_look (s := t) GD.out.mp int_law encI_inj hnd.out hky.out (encI_key (by omega)) Try.underlying74 (by kernel_rfl) false
            rw [if_pos hm, if_pos rfl] at LK
            rw [if_pos hm, if_neg (by decide)] at LK2
            obtain ⟨e1, e2⟩ := hcond.out hm
            have HE1 := Lib.hid e1; have HE2 := Lib.hid e2
            have HLK := Aside0.mk LK; have HLK2 := Aside0.mk LK2
            have c4 : w6.cell? ⟨gow, 1, none⟩ = some vn2 := by rw [cell_of_row _ _ _ _ _ _ GD.out.out]; rfl
            clear e1 e2 LK LK2 hcond hcond2 hm
            generalize L1.idxOf t = y at *
            go_wp2_with (first | ((with_reducible refine gate_look (c := true) rfl ?_); refine mp_look _ _ _ _ rfl _ _ _ rfl rfl rfl HLK.out ?_) | ((with_reducible refine gate_look (c := false) rfl ?_); refine mp_look _ _ _ _ rfl _ _ _ rfl rfl rfl HLK2.out ?_) | ((with_reducible refine gate_builtin (b := .append) (xs := #[.tmp 97, .tmp 101]) rfl ?_); at_builtin; refine wpl_append (Kd.int .i64) (w0 := w) w.heap.size rfl (.tmp 97) (.tmp 101) 22 3 (.int .i64 0) 8 rfl Try.underlying22 info_int rfl (by decide) (by omega) vn2 (zl N1) (y : Int) [.int .i64 y] rfl rfl rfl GD.out.nxt GD.out.bel GD.out.bel.size (by rw [zl_len]; have := hnl.out; omega) (fun v3 w7 ho hb ha => ?_); have d1 : w7.cell? ⟨gow, 1, none⟩ = some vn2 := (by rw [cell_of_row _ _ _ _ _ _ (ha.cells GD.out.out GD.out.nxt (by decide))]; rfl); have f1 : w7.frozen? ⟨gow, 1, none⟩ = false := frozen_of_row _ _ _ _ _ (ha.cells GD.out.out GD.out.nxt (by decide)); have hm2 := GD.out.nxt_step ho hb ha; obtain ⟨A3, c3, rfl⟩ := Kd.R_slice ho; rw [List.length_append, List.length_singleton] at hm2; have HM2 := Lib.hid hm2; clear ho hb ha hm2))
            go_roundw
            case rel => exact ⟨q + 1, _, by omega, by go_num, by rw [HE1.out, HE2.out]; exact HM2⟩
            case measure => simp [intOf]; omega
          · rw [if_neg hm, if_pos rfl] at LK
            obtain ⟨e1, e2⟩ := hcond2.out hm
            obtain ⟨w8, hrun, hM, hT⟩ := nents_put (s := t) GD.out.mp int_law encI_inj hky.out (encI_key (by omega)) Try.underlying74 hm
            have hky2 : ∀ s ∈ L1 ++ [t], ∃ q, keyOf Try.prog 3 (encI s) = some q := fun s hs => by
              rcases List.mem_append.1 hs with h | h
              · exact hky.out s h
              · rw [List.mem_singleton.1 h]; exact encI_key (by omega)
            have hnd2 : (L1 ++ [t]).Nodup := List.nodup_append.2 ⟨hnd.out, by simp, fun a ha b hb e => hm (by rw [List.mem_singleton.1 hb] at e; exact e ▸ ha)⟩
            have HLK2 := Aside0.mk (fun (W : World) (h : MapIs W (gow + 1) (nents encI (L1 ++ [t]))) => by
              have hl := nents_look (s := t) h int_law encI_inj hnd2 hky2 (encI_key (by omega)) Try.underlying74 (by kernel_rfl) false
              rw [if_pos (by simp), if_neg (by decide), idxOf_last hm] at hl
              exact hl)
            have HE1 := Lib.hid e1; have HE2 := Lib.hid e2
            have HLK := Aside0.mk LK; have HP := Aside0.mk hrun; have HMM := Aside0.mk hM; have HTT := Aside0.mk hT
            obtain ⟨t1, t2, t3, t4, t5, t6, t7, t8⟩ := GD.out.turn hT
            have HT5 := Aside0.mk t5; have HT8 := Aside0.mk t8
            clear e1 e2 LK hcond hcond2 hm hrun hM hT hky2 hnd2 t1 t2 t3 t4 t5 t6 t7 t8
            go_wp2_with (first | ((with_reducible refine gate_look (c := true) rfl ?_); refine mp_look _ _ _ _ rfl _ _ _ rfl rfl rfl HLK.out ?_) | ((with_reducible refine gate_put rfl ?_); refine mp_put _ _ _ _ rfl _ _ _ rfl rfl rfl rfl HP.out ?_) | ((with_reducible refine gate_builtin (b := .append) (xs := #[.tmp 92, .tmp 94]) rfl ?_); at_builtin; refine wpl_append (Kd.int .i64) (w0 := w) w.heap.size rfl (.tmp 92) (.tmp 94) 22 3 (.int .i64 0) 8 rfl Try.underlying22 info_int rfl (by decide) (by omega) _ (zl L1) (t : Int) [.int .i64 t] rfl rfl rfl HT5.out HT8.out HT8.out.size (by rw [zl_len]; omega) (fun v3 w7 ho hb ha => ?_); have hm2 := GD.out.lst_step HTT.out HMM.out ho hb ha; obtain ⟨A3, c3, rfl⟩ := Kd.R_slice ho; rw [List.length_append, List.length_singleton] at hm2; have HM2 := Lib.hid hm2; clear ho hb ha hm2; have c4 : w7.cell? ⟨gow, 1, none⟩ = some vn2 := (by rw [cell_of_row _ _ _ _ _ _ HM2.out.out]; rfl); have HLK3 := Aside0.mk (HLK2.out _ HM2.out.mp)) | ((with_reducible refine gate_look (c := false) rfl ?_); refine mp_look _ _ _ _ rfl _ _ _ rfl rfl rfl HLK3.out ?_) | ((with_reducible refine gate_builtin (b := .append) (xs := #[.tmp 97, .tmp 101]) rfl ?_); at_builtin; refine wpl_append (Kd.int .i64) (w0 := w) w.heap.size rfl (.tmp 97) (.tmp 101) 22 3 (.int .i64 0) 8 rfl Try.underlying22 info_int rfl (by decide) (by omega) vn2 (zl N1) (L1.length : Int) [.int .i64 L1.length] rfl rfl rfl HM2.out.nxt HM2.out.bel HM2.out.bel.size (by rw [zl_len]; have := hnl.out; omega) (fun v4 w9 ho hb ha => ?_); have d1 : w9.cell? ⟨gow, 1, none⟩ = some vn2 := (by rw [cell_of_row _ _ _ _ _ _ (ha.cells HM2.out.out HM2.out.nxt (by decide))]; rfl); have f1 : w9.frozen? ⟨gow, 1, none⟩ = false := frozen_of_row _ _ _ _ _ (ha.cells HM2.out.out HM2.out.nxt (by decide)); have hm3 := HM2.out.nxt_step ho hb ha; obtain ⟨A4, c4', rfl⟩ := Kd.R_slice ho; rw [List.length_append, List.length_singleton] at hm3; have HM3 := Lib.hid hm3; clear ho hb ha hm3))
            go_roundw
            case rel => exact ⟨q + 1, _, by omega, by go_num, by rw [HE1.out, HE2.out]; exact HM3⟩
            case measure => simp [intOf]; omega
        · have hqe : q = mK x := by unfold mK; omega
          have HMM : Hid (k + 1 ≤ (mbs x ((k + 1) * mK x)).length ∧ MS w wr (AB x A c (some adB) d) x.k (mcl x) (.slice (some ad0) x.acc.length lcc) gow (gow + 1) (.slice (some ⟨lb2, 0, none⟩) (mbs x (k * mK x + q)).length lc2) vn2 v1 (mbs x ((k + 1) * mK x)) (mnx x ((k + 1) * mK x)) (acs x (k + 1) ((k + 1) * mK x))) := Lib.hid (by
            have e : (k + 1) * mK x = k * mK x + q := by rw [Nat.succ_mul, hqe]
            have h1 : (mbs x (k * mK x)).length ≤ (mbs x ((k + 1) * mK x)).length := by
              unfold mbs; rw [bs_len, bs_len]; exact bw_le (by omega)
            refine ⟨by omega, ?_⟩
            rw [acs_keep x (show k * mK x ≤ (k + 1) * mK x by omega) (by omega), e]
            exact G.out)
          go_wp2
          go_roundw
          case rel => exact ⟨k + 1, _, _, by go_num, Lib.hid HMM.out.1, Lib.hid HMM.out.2⟩
          case measure => simp [intOf]; omega
      -->A
    · have hke : k = (mbs x (k * mK x)).length := by omega
      obtain ⟨e1, e2⟩ := mL_end HX.out hke.symm
      have HFN : Hid ((mAut x).next = zl (mnx x (k * mK x))) := Lib.hid (by unfold mAut; rw [e2])
      have HFA : Hid ((mAut x).acc = acs x k (k * mK x)) := Lib.hid (by unfold mAut acs; rw [e1, List.take_of_length_le (by omega)])
      have HKY : Hid (∀ s ∈ mL x, ∃ q, keyOf Try.prog 3 (encI s) = some q) := Lib.hid (fun s hs => encI_key (by rw [← e1] at hs; have := mbs_lt HX.out _ s hs; omega))
      have HND : Hid ((mL x).Nodup) := Lib.hid (by rw [← e1]; exact bs_nodup _)
      rw [e1] at H
      clear hlcell hlbs hlb hke e1 e2 hlen hkn HK MSI
      generalize mnx x (k * mK x) = N1 at *
      generalize acs x k (k * mK x) = A1 at *
      have hmk : (mcl x).length = x.acc.length := mcl_len x
      have HML := Lib.hid hmk
      clear hmk
      obtain ⟨w4, rfl⟩ : ∃ w4 : World, w4 = wr := ⟨_, rfl⟩
      go_wp2_with (refine wpl_make x.acc.length (by omega) rfl _ _ rfl rfl rfl ?_)
      go_loopw [110] (fun i wi => ∃ j : Nat, j ≤ x.acc.length ∧ i = .int .i64 j ∧ Hid (Own wi w4.heap.size (.slice (some ⟨w4.heap.size, 0, none⟩) x.acc.length x.acc.length) (tok x j) ∧ Below w4.heap.size w4 wi)) (fun i _ => x.acc.length - (intOf i).toNat)
      case atStart => exact ⟨0, by omega, rfl, Lib.hid ⟨by rw [tok_zero]; exact own_img (hp_new rfl) (Nat.le_refl _) (by simp) (by omega), bl_alloc (Below.refl _ _) _⟩⟩
      case round =>
        obtain ⟨j, hj, rfl, T⟩ := hrel
        by_cases hjn : j < x.acc.length
        · obtain ⟨Lc3, lc3, e3, _, hC3⟩ := own_slice x.acc.length HML.out (H.out.below T.out.2).cls
          obtain ⟨ad3, hL3, hcell3⟩ := Kd.at_int hC3 (j : Int) (by omega) (by omega)
          have e4 : some ad0 = Lc3 := by injection e3
          clear e3
          rw [← e4] at hL3
          injection hL3 with hL3
          subst hL3
          clear e4
          rw [Int.toNat_natCast, zl_rd] at hcell3
          have HTS := Lib.hid (tok_set x j)
          have hcn : (mcl x).getD j 0 < x.acc.length := mcl_lt hjn
          have hc1 := Kd.R_celln (0 : Int) T.out.1 (j : Int) (by omega) (by omega)
          rw [Int.toNat_natCast] at hc1
          obtain ⟨d1, f1⟩ := hc1
          have hp1 := Kd.R_putn T.out.1 (j : Int) (-1 : Int)
          rw [Int.toNat_natCast] at hp1
          have hc2 := Kd.R_celln (0 : Int) hp1 (j : Int) (by omega) (by omega)
          rw [Int.toNat_natCast] at hc2
          obtain ⟨d2, f2⟩ := hc2
          have hmp : MapIs (wr.setCell ⟨w4.heap.size, j, none⟩ (.int .i64 (-1))) (gow + 1) (nents encI (mL x)) := ((H.out.below T.out.2).mp).of (heap_setCell_other _ _ _ _ (by have := H.out.mp.lt; show gow + 1 ≠ w4.heap.size; omega))
          have LK := nents_look (s := (mcl x).getD j 0) hmp int_law encI_inj HND.out HKY.out (encI_key (by omega)) Try.underlying74 (by kernel_rfl) true
          by_cases hm : (mcl x).getD j 0 ∈ mL x
          · rw [if_pos hm, if_pos rfl] at LK
            have HTV : Hid (tv x ((mcl x).getD j 0) = (((mL x).idxOf ((mcl x).getD j 0) : Nat) : Int)) := Lib.hid (by unfold tv; rw [if_pos hm])
            have hp2 := Kd.R_putn hp1 (j : Int) ((((mL x).idxOf ((mcl x).getD j 0) : Nat) : Int))
            rw [Int.toNat_natCast, List.set_set, ← HTV.out, HTS.out] at hp2
            have HP2 : Hid (Own ((wr.setCell ⟨w4.heap.size, j, none⟩ (.int .i64 (-1))).setCell ⟨w4.heap.size, j, none⟩ (.int .i64 (((mL x).idxOf ((mcl x).getD j 0) : Nat) : Int))) w4.heap.size (.slice (some ⟨w4.heap.size, 0, none⟩) x.acc.length x.acc.length) (tok x (j + 1)) ∧ Below w4.heap.size w4 ((wr.setCell ⟨w4.heap.size, j, none⟩ (.int .i64 (-1))).setCell ⟨w4.heap.size, j, none⟩ (.int .i64 (((mL x).idxOf ((mcl x).getD j 0) : Nat) : Int)))) := Lib.hid ⟨by rw [← HTV.out]; exact hp2, bl_cell (bl_cell T.out.2 (Nat.le_refl _) _) (Nat.le_refl _) _⟩
            have HLK := Aside0.mk LK
            clear hC3 hp1 hmp LK hm hp2 HTV T HTS
            generalize (mL x).idxOf ((mcl x).getD j 0) = y at *
            generalize (mcl x).getD j 0 = cj at *
            go_wp2_with ((with_reducible refine gate_look (c := true) rfl ?_); refine mp_look _ _ _ _ rfl _ _ _ rfl rfl rfl HLK.out ?_)
            go_roundw
            case rel => exact ⟨j + 1, by omega, by go_num, HP2⟩
            case measure => simp [intOf]; omega
          · rw [if_neg hm, if_pos rfl] at LK
            have HTV : Hid (tv x ((mcl x).getD j 0) = -1) := Lib.hid (by unfold tv; rw [if_neg hm])
            rw [← HTV.out, HTS.out, HTV.out] at hp1
            have HP2 : Hid (Own (wr.setCell ⟨w4.heap.size, j, none⟩ (.int .i64 (-1))) w4.heap.size (.slice (some ⟨w4.heap.size, 0, none⟩) x.acc.length x.acc.length) (tok x (j + 1)) ∧ Below w4.heap.size w4 (wr.setCell ⟨w4.heap.size, j, none⟩ (.int .i64 (-1)))) := Lib.hid ⟨hp1, bl_cell T.out.2 (Nat.le_refl _) _⟩
            have HLK := Aside0.mk LK
            clear hC3 hp1 hmp LK hm HTV T HTS
            generalize (mcl x).getD j 0 = cj at *
            go_wp2_with ((with_reducible refine gate_look (c := true) rfl ?_); refine mp_look _ _ _ _ rfl _ _ _ rfl rfl rfl HLK.out ?_)
            go_roundw
            case rel => exact ⟨j + 1, by omega, by go_num, HP2⟩
            case measure => simp [intOf]; omega
        · have hjn : j = x.acc.length := by omega
          subst hjn
          have HE := Lib.hid (H.out.below T.out.2)
          have HO := Aside0.mk (Kd.R_lower T.out.1 (show w.heap.size ≤ w4.heap.size from H.out.bel.size))
          have hsp := sep_new (W := w4) H.out.nxt (v := .slice (some ⟨w4.heap.size, 0, none⟩) x.acc.length x.acc.length) ⟨w4.heap.size, rfl, Nat.le_refl _⟩
          rw [tok_end] at HO
          have HSP := Aside0.mk hsp
          obtain ⟨An, cn, rfl⟩ := Kd.R_slice H.out.nxt
          obtain ⟨Aa, ca, rfl⟩ := Kd.R_slice H.out.acc
          clear T H hsp
          go_wp2_with (first | ((with_reducible refine gate_ld (t := 25) rfl ?_); refine ld_au (y := ⟨x.k, zl N1, A1⟩) (A := An) (c := cn) (B := Aa) (d := ca) _ rfl gow rfl HE.out.out rfl ?_) | ((with_reducible refine gate_st (t := 25) rfl ?_); refine wpList_store_row rfl 25 _ _ rfl (w.heap.size + 1) (ac ⟨x.k, zl N1, A1⟩ An cn Aa ca) rfl rfl 25 _ HE.out.res (by show _ = some 3; kernel_rfl) rfl (by simp [Value.oneCell']) ?_))
          refine bodyPost_ret (v := .tuple #[.agg (ac ⟨x.k, zl N1, A1⟩ An cn Aa ca), .slice (some ⟨w4.heap.size, 0, none⟩) x.acc.length x.acc.length, .int .i64 0]) ?_ rfl ⟨_, _, _, rfl, ?_, ?_, ?_, HSP.out, bl_row HE.out.bel (by omega) _⟩
          · refine (results_cell_tmp2 (p := 2) (t := 3) (u := 4) (by rfl) _ _ (w.heap.size + 1) 25 _ _ _ ?_ (setRow_heap _ _ _ _ _ _ HE.out.res) Try.underlying25 rfl (by show _ = some 3; kernel_rfl)).trans ?_ <;> rfl
          · rw [HFN.out]; exact own_rowT HE.out.res HE.out.nxt (by decide) rfl _
          · rw [HFA.out]; exact own_rowT HE.out.res HE.out.acc (by decide) rfl _
          · exact own_rowT HE.out.res HO.out (by decide) rfl _
end Go.Proofs.Ytjedippbjjedlaa

