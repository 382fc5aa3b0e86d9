/- Merged by tools/merge2.py out of: XSet XGood XImg XRImg XKer XMade XGoodC XGoodE XAutAll XAutD XDoes XDoesL XRfOW XLawK (a claim bears 60 files at most). -/
import Derived.Test.YtpebnldoimoahaaBase
import Derived.Laws.BitsAllLaws
import Derived.Laws.RangeAny
import Derived.Laws.RangeString
import Derived.Test.YtpebnldoimoahaaWMore
import Derived.IntWalk
import Derived.Deep.Grids
import Derived.Test.YtpebnldoimoahaaPTransWordsx1
import Derived.Test.YtpebnldoimoahaaPTransWordsx0
import Derived.Test.YtpebnldoimoahaaPTransWordsx2
import Derived.BigQuiet
namespace Go.Proofs.Ytpebnldoimoahaa
open Go.RowKit Go.Proofs.YtpebnldoimoahaaW.PrintWords
def sv (x : Nat) : Array Value := #[.int .u64 (x : Int), .int .u64 0, .int .u64 0, .int .u64 0, .int .u64 0, .int .u64 0, .int .u64 0, .int .u64 0]
theorem sv_z (x : Nat) : (Try.prog.info? 69).map (·.size) = some (sv x).size := by kernel_rfl
theorem sv_one (x : Nat) : (sv x).all (·.oneCell') = true := by simp [sv, Value.oneCell']
theorem sv_zero : sv 0 = #[.int .u64 0, .int .u64 0, .int .u64 0, .int .u64 0, .int .u64 0, .int .u64 0, .int .u64 0, .int .u64 0] := rfl
theorem sv_at (x : Nat) : (sv x)[0]? = some (.int .u64 x) := by simp [sv]
theorem sv_set (x y : Nat) : (sv x).setIfInBounds 0 (.int .u64 (y : Int)) = sv y := by simp [sv]
section
variable {ops : Array Oper} {rest : List Oper} {o : Oper} {a : Act} {w : World} {Q : Exit → Act → World → Prop}
theorem ld_sv (x : Operand) (ho : o.op = .load 69 x) (g : Nat) (hx : a.eval x = .pointer (some ⟨g, 0, none⟩)) {n : Nat} {t : TypeId} {fr : Nat × Nat} (hg : w.heap[g]? = some (.cells (sv n) t fr)) (hw : Region.wanted o (yielded ops a.tmps) = true)
    (h : wpList Try.prog ops Q rest (a.put o.dst (.agg (sv n))) w) : wpList Try.prog ops Q (o :: rest) a w :=
  wpList_want hw fun _ hK => wp_load_row 69 x ho g hx t _ fr _ hg Try.underlying69 rfl (sv_z n) (hK _ _ h)
theorem st_sv (x y : Operand) (ho : o.op = .store 69 x y) (hgd : o.guard = none) (g : Nat) {n : Nat} {c : Array Value} {t : TypeId}
    (hx : a.eval x = .pointer (some ⟨g, 0, none⟩)) (hy : a.eval y = .agg (sv n)) (hg : w.heap[g]? = some (.cells c t (0, 0))) (hc : c.size = 8) (h : wpList Try.prog ops Q rest (a.put o.dst undef) (w.setRow g (sv n))) : wpList Try.prog ops Q (o :: rest) a w :=
  wpList_store_row hgd 69 x y ho g _ hx hy t c hg (sv_z n) hc (sv_one _) h
theorem st_sv_new (x y : Operand) (ho : o.op = .store 69 x y) (hgd : o.guard = none) {n : Nat} {c : Array Value} {t : TypeId}
    (hx : a.eval x = .pointer (some ⟨w.heap.size, 0, none⟩)) (hy : a.eval y = .agg (sv n)) (hc : c.size = 8) (h : wpList Try.prog ops Q rest (a.put o.dst undef) (w.alloc (.cells (sv n) t))) : wpList Try.prog ops Q (o :: rest) a (w.alloc (.cells c t)) :=
  st_sv x y ho hgd w.heap.size hx hy (hp_new rfl) hc (by rw [World.setRow_alloc_new]; exact h)
end
/-- The word of a list. -/
def bo (l : List Nat) : Nat := l.foldl (fun x i => x ||| 2 ^ i) 0
theorem bo_snoc (l : List Nat) (i : Nat) : bo (l ++ [i]) = bo l ||| 2 ^ i := by simp [bo, List.foldl_append]
theorem bo_lt : ∀ (l : List Nat), (∀ i ∈ l, i < 64) → bo l < 18446744073709551616 := by
  intro l
  have key : ∀ (l : List Nat) (x : Nat), x < 2 ^ 64 → (∀ i ∈ l, i < 64) → l.foldl (fun x i => x ||| 2 ^ i) x < 2 ^ 64 := by
    intro l
    induction l with
    | nil => intro x hx _; exact hx
    | cons i l ih =>
      intro x hx h
      exact ih _ (Nat.or_lt_two_pow hx (Nat.pow_lt_pow_right (by decide) (h i (by simp)))) (fun j hj => h j (List.mem_cons_of_mem _ hj))
  exact key l 0 (by decide)
theorem or_bit (x i : Nat) (hx : x < 18446744073709551616) (hi : i < 64) : bits .or .u64 (x : Int) (IntKind.u64.wrap (2 ^ i)) = ((x ||| 2 ^ i : Nat) : Int) := by
  have h1 : (2 : Nat) ^ i < 2 ^ 64 := Nat.pow_lt_pow_right (by decide) hi
  have e : (2 : Int) ^ i = ((2 ^ i : Nat) : Int) := by push_cast; rfl
  have h2 : (2 : Nat) ^ 64 = 18446744073709551616 := by decide
  have h3 := Nat.pow_pos (n := i) (show 0 < 2 by decide)
  rw [e, IntWalk.u64_in _ ⟨by omega, by omega⟩, bits_or_u64_nat _ _ hx (by omega)]
theorem take_snoc {l : List Nat} {k : Nat} (h : k < l.length) : l.take (k + 1) = l.take k ++ [l.getD k 0] := by
  rw [List.take_succ_eq_append_getElem h]; simp [List.getD_eq_getElem?_getD, List.getElem?_eq_getElem h]
/-- The loop's state: the set so far. -/
def Sw (w wr : World) (x : Nat) : Prop := wr.heap[w.heap.size + 1]? = some (.cells (sv x) 69 (0, 0)) ∧ (∃ c, wr.heap[w.heap.size]? = some (.cells c 69 (0, 0)) ∧ c.size = 8) ∧ Below w.heap.size w wr
theorem fits_any (x : Nat) (hx : x < 64) (w : World) : Calls Try.prog 84 #[.int .i64 x] w fun e w' => e = .returned (.bool true) ∧ w = w' := by
  go_enter Try.func84, Try.ntmps84
  go_wp2
  go_ret
  exact ⟨by simp; omega, rfl⟩
set_option maxRecDepth 100000 in
set_option maxHeartbeats 800000 in
theorem of_any (A : Option Addr) (c : Nat) (l : List Nat) (n : Nat) (hn : l.length = n) (hlt : ∀ i, l.getD i 0 < 64) (hmax : n ≤ 1000000) (w : World) (hr : Kd.C (Kd.int .i64) w A n (zl l)) :
    Calls Try.prog 78 #[.slice A n c] w fun e w' => e = .returned (.tuple #[.agg (sv (bo l)), .int .i64 0]) ∧ Below w.heap.size w w' := by
  have HR := Aside0.mk hr
  have HN := Lib.hid hn
  have HI := Lib.hid hlt
  clear hr hn hlt
  go_enter Try.func78, Try.ntmps78
  go_wp2
  go_loopw [9] (fun i wr => ∃ k : Nat, k ≤ n ∧ i = .int .i64 k ∧ Hid (Sw w wr (bo (l.take k)))) (fun i _ => n - (intOf i).toNat)
  case atStart =>
    exact ⟨0, by omega, rfl, Lib.hid ⟨hp_new (by simp), ⟨_, hp_old (hp_new rfl), rfl⟩, bl_alloc (bl_alloc (Below.refl _ _) _) _⟩⟩
  case round =>
    obtain ⟨k, hk, rfl, H⟩ := hrel
    obtain ⟨g1, ⟨cc, g2, g2'⟩, g3⟩ := H.out
    have G1 := Lib.hid g1; have G2 := Lib.hid g2; have G2' := Lib.hid g2'; have G3 := Lib.hid g3
    clear g1 g2 g2' g3 H
    by_cases hkn : k < n
    · obtain ⟨ad, rfl, hcell⟩ := Kd.at_int (Kd.C_below HR.out G3.out) k (by omega) (by omega)
      rw [Int.toNat_natCast, zl_rd] at hcell
      have HK := Lib.hid (show bo (l.take (k + 1)) = bo (l.take k) ||| 2 ^ (l.getD k 0) by rw [take_snoc (by rw [HN.out]; exact hkn), bo_snoc])
      have HX := Lib.hid (bo_lt (l.take k) (fun i hi => by
        obtain ⟨j, hj, rfl⟩ := List.mem_iff_getElem.1 (List.mem_of_mem_take hi)
        have := HI.out j
        simpa [List.getD_eq_getElem?_getD, List.getElem?_eq_getElem hj] using this))
      have hy := HI.out k
      generalize l.getD k 0 = y at *
      generalize bo (l.take k) = x at *
      have c1 : wr.cell? ⟨w.heap.size + 1, 0, none⟩ = some (.int .u64 x) := by rw [cell_of_row _ _ _ _ _ _ G1.out, sv_at]
      have f1 : wr.frozen? ⟨w.heap.size + 1, 0, none⟩ = false := frozen_of_row _ _ _ _ _ G1.out
      have e1 : (y : Int).tdiv 64 = 0 := by rw [Int.tdiv_eq_ediv_of_nonneg (by omega)]; omega
      have e2 : (y : Int).tmod 64 = y := by rw [Int.tmod_eq_emod_of_nonneg (by omega)]; omega
      have e3 : (y : Int) / 64 = 0 := by omega
      have e4 : (y : Int) % 64 = y := by omega
      have H2 : Hid (Sw w (wr.setCell ⟨w.heap.size + 1, 0, none⟩ (.int .u64 (bits .or .u64 (x : Int) (IntKind.u64.wrap (2 ^ y))))).drew (x ||| 2 ^ y)) := Lib.hid (by
        rw [or_bit x y HX.out hy]
        refine ⟨?_, ⟨cc, hp_cell (by simp) G2.out, G2'.out⟩, (bl_cell G3.out (by simp) _).drew⟩
        rw [heap_drew, heap_setCell_same _ _ _ _ _ _ G1.out, sv_set])
      rw [← HK.out] at H2
      go_wp2_with fail
      refine (fits_any y hy _).mono ?_
      rintro e w' ⟨rfl, rfl⟩
      go_wp2
      go_region
      go_wp2
      go_roundw
      case rel => exact ⟨k + 1, by omega, by go_num, H2⟩
      case measure => simp [intOf]; omega
    · have : k = n := by omega
      subst this
      have HF := Lib.hid (show bo (l.take k) = bo l by rw [← HN.out, List.take_length])
      rw [HF.out] at G1
      go_wp2_with (first | (refine ld_sv _ rfl (w.heap.size + 1) rfl G1.out rfl ?_) | (refine st_sv _ _ rfl rfl w.heap.size rfl rfl G2.out G2'.out ?_))
      refine bodyPost_ret (v := .tuple #[.agg (sv (bo l)), .int .i64 0]) ?_ rfl ⟨rfl, bl_row G3.out (by omega) _⟩
      refine (results_cell_tmp (p := 2) (t := 3) (by rfl) _ _ w.heap.size 69 _ _ _ ?_ (setRow_heap _ _ _ _ _ _ G2.out) Try.underlying69 rfl (sv_z _)).trans ?_ <;> rfl
set_option maxRecDepth 100000 in
set_option maxHeartbeats 800000 in
theorem chosen_any (A : Option Addr) (c : Nat) (l : List Nat) (n : Nat) (hn : l.length = n) (hlt : ∀ i, l.getD i 0 < 64) (hmax : n ≤ 1000000) (w : World) (hr : Kd.C (Kd.int .i64) w A n (zl l)) :
    Calls Try.prog 68 #[.slice A n c] w fun e w' => e = .returned (.agg (sv (bo l))) ∧ Below w.heap.size w w' := by
  have HC := Aside0.mk (of_any A c l n hn hlt hmax)
  have HR := Aside0.mk (Kd.C_alloc hr (.cells (sv 0) 69))
  clear hr hn hlt
  generalize bo l = x at *
  go_enter Try.func68, Try.ntmps68
  go_wp2_with fail
  refine (HC.out _ HR.out).mono ?_
  rintro e w1 ⟨rfl, hb⟩
  have G1 := Lib.hid (hp_below' hb (hp_new (w := w) (o := .cells (sv 0) 69) rfl))
  have HB := Lib.hid (bl_then (bl_alloc (Below.refl _ w) _) hb)
  clear hb
  have G2 := Lib.hid (hp_old (o := .cells (sv x) 69) G1.out)
  go_wp2_with (first | (refine st_sv_new _ _ rfl rfl rfl rfl rfl ?_) | (refine ld_sv _ rfl w1.heap.size rfl (hp_new rfl) rfl ?_) | (refine st_sv _ _ rfl rfl w.heap.size rfl rfl G2.out rfl ?_))
  refine bodyPost_ret (v := .agg (sv x)) ?_ rfl ⟨rfl, bl_row (bl_alloc HB.out _) (by omega) _⟩
  exact results_cell_row rfl _ _ w.heap.size 69 _ _ _ rfl (setRow_heap _ _ _ _ _ _ G2.out) Try.underlying69 rfl (sv_z _)
end Go.Proofs.Ytpebnldoimoahaa

namespace Go.Proofs.Ytpebnldoimoahaa
open Go.RowKit Go.Proofs.YtpebnldoimoahaaW.PrintWords
/-- n images below n, 1 ≤ n ≤ 64. -/
structure Gd (n : Nat) (L : List Nat) : Prop where
  one : 1 ≤ n
  max : n ≤ 64
  len : L.length = n
  lt : Inn L n
theorem Gd.lt64 {n : Nat} {L : List Nat} (h : Gd n L) (i : Nat) : L.getD i 0 < 64 := by
  by_cases hi : i < n
  · have := h.lt i hi; have := h.max; omega
  · rw [List.getD_eq_getElem?_getD, List.getElem?_eq_none (by rw [h.len]; omega)]; decide
theorem Gd.ext {n : Nat} {L M : List Nat} (h : Gd n L) (h' : Gd n M) (he : ∀ i, i < n → L.getD i 0 = M.getD i 0) : L = M := by
  apply List.ext_getElem (by rw [h.len, h'.len])
  intro i h1 h2
  have := he i (by rw [← h.len]; exact h1)
  simpa [List.getD_eq_getElem?_getD, List.getElem?_eq_getElem h1, List.getElem?_eq_getElem h2] using this
theorem pw_digit (l : List Nat) (lo : Nat) (h : ∀ i, l.getD i 0 < 64) (j : Nat) : ∀ c, j < c → pw l lo c / 64 ^ j % 64 = l.getD (lo + j) 0
  | 0, hj => absurd hj (by omega)
  | c + 1, hj => by
    simp only [pw]
    by_cases e : j = c
    · subst e
      rw [Nat.add_mul_div_right _ _ (Nat.pow_pos (by decide)), Nat.div_eq_of_lt (pw_lt l lo h j), Nat.zero_add, Nat.mod_eq_of_lt (h _)]
    · have ih := pw_digit l lo h j c (by omega)
      obtain ⟨d, rfl⟩ : ∃ d, c = j + 1 + d := ⟨c - j - 1, by omega⟩
      rw [show l.getD (lo + (j + 1 + d)) 0 * 64 ^ (j + 1 + d) = (l.getD (lo + (j + 1 + d)) 0 * 64 ^ d * 64) * 64 ^ j by
        rw [Nat.pow_add, Nat.pow_add, Nat.pow_one]; ac_rfl]
      rw [Nat.add_mul_div_right _ _ (Nat.pow_pos (by decide)), Nat.add_mul_mod_self_right]
      exact ih
theorem im_pks {l : List Nat} {n i : Nat} (h : ∀ i, l.getD i 0 < 64) (hn : n ≤ 64) (hi : i < n) : im (pks l n) i = l.getD i 0 := by
  unfold im
  rw [pks_getD _ _ _ (by omega), pw_digit l _ h (i % 10) _ (by omega)]
  congr 1; omega
theorem Gd.im {n : Nat} {L : List Nat} (h : Gd n L) {i : Nat} (hi : i < n) : im (pks L n) i = L.getD i 0 := im_pks h.lt64 h.max hi
/-- Two good ones are the same value just if their lists are. -/
theorem Gd.inj {n : Nat} {L M : List Nat} (h : Gd n L) (h' : Gd n M) : pks L n = pks M n ↔ L = M :=
  ⟨fun e => h.ext h' fun i hi => by rw [← h.im hi, ← h'.im hi, e], fun e => by rw [e]⟩
theorem Gd.ims {n : Nat} {L : List Nat} (h : Gd n L) : ims n (pks L n) = padk n L := by
  apply List.ext_getElem (by simp [ims_len, padk_len])
  intro i h1 h2
  have hi : i < 64 := by rw [padk_len] at h2; exact h2
  have e1 : (Ytpebnldoimoahaa.ims n (pks L n)).getD i 0 = (padk n L).getD i 0 := by
    rw [ims_getD, padk_getD]
    by_cases hin : i < n
    · rw [if_pos ⟨hin, hi⟩, if_pos ⟨hin, hi⟩, h.im hin]
    · rw [if_neg (by omega), if_neg (by omega)]
  simpa [List.getD_eq_getElem?_getD, List.getElem?_eq_getElem h1, List.getElem?_eq_getElem h2] using e1
theorem Gd.imk {n : Nat} {L : List Nat} (h : Gd n L) : imk n (pks L n) = L := by
  apply List.ext_getElem (by rw [imk_len, h.len])
  intro i h1 h2
  have hi : i < n := by rw [imk_len] at h1; exact h1
  have e1 : (Ytpebnldoimoahaa.imk n (pks L n)).getD i 0 = L.getD i 0 := by rw [imk_getD _ _ _ hi, h.im hi]
  simpa [List.getD_eq_getElem?_getD, List.getElem?_eq_getElem h1, List.getElem?_eq_getElem h2] using e1
theorem Gd.good {n : Nat} {L : List Nat} (h : Gd n L) : goodT n (pks L n) = true := by
  rw [goodT_all h.one h.max (fun i hi => by rw [h.im hi]; exact h.lt i hi), decide_eq_true_iff, h.ims, pks_padk _ _ h.max]
theorem Gd.words {n : Nat} {L : List Nat} (h : Gd n L) (i : Nat) : (pks L n).getD i 0 < 18446744073709551616 := pks_lt _ _ h.lt64 i
theorem Gd.range {n : Nat} (h1 : 1 ≤ n) (h : n ≤ 64) : Gd n (List.range n) := ⟨h1, h, by simp, fun i hi => by simp [hi]⟩
theorem Gd.thn {n : Nat} {L M : List Nat} (h : Gd n L) (h' : Gd n M) : Gd n (thn L M) :=
  ⟨h.one, h.max, by rw [thn_len, h.len], fun i hi => by rw [thn_getD _ _ _ (by rw [h.len]; exact hi)]; exact h'.lt _ (h.lt i hi)⟩
/-- The k-th power. -/
def pwr (n : Nat) (L : List Nat) (k : Nat) : List Nat := (List.range n).map fun i => orb L i k
theorem pwr_getD (n : Nat) (L : List Nat) (k i : Nat) (h : i < n) : (pwr n L k).getD i 0 = orb L i k := by simp [pwr, List.getD_eq_getElem?_getD, h]
theorem Gd.pwr {n : Nat} {L : List Nat} (h : Gd n L) (k : Nat) : Gd n (pwr n L k) :=
  ⟨h.one, h.max, by simp [Ytpebnldoimoahaa.pwr], fun i hi => by rw [pwr_getD _ _ _ _ hi]; exact orb_lt h.lt hi k⟩
/-- Products, lists of one length. -/
theorem thn_assoc {n : Nat} {L M N : List Nat} (h : Gd n L) (h' : Gd n M) (h'' : Gd n N) : thn (thn L M) N = thn L (thn M N) :=
  ((h.thn h').thn h'').ext (h.thn (h'.thn h'')) fun i hi => by
    rw [thn_getD _ _ _ (by rw [thn_len, h.len]; exact hi), thn_getD _ _ _ (by rw [h.len]; exact hi), thn_getD _ _ _ (by rw [h.len]; exact hi), thn_getD _ _ _ (by rw [h'.len]; exact h.lt i hi)]
theorem thn_left {n : Nat} {L : List Nat} (h : Gd n L) : thn (List.range n) L = L :=
  ((Gd.range h.one h.max).thn h).ext h fun i hi => by rw [thn_getD _ _ _ (by simpa using hi)]; simp [hi]
theorem thn_right {n : Nat} {L : List Nat} (h : Gd n L) : thn L (List.range n) = L :=
  (h.thn (Gd.range h.one h.max)).ext h fun i hi => by
    have := h.lt i hi
    rw [thn_getD _ _ _ (by rw [h.len]; exact hi)]
    generalize L.getD i 0 = x at *
    simp [this]
theorem thn_pwr {n : Nat} {L : List Nat} (h : Gd n L) (a b : Nat) : thn (pwr n L a) (pwr n L b) = pwr n L (a + b) :=
  ((h.pwr a).thn (h.pwr b)).ext (h.pwr (a + b)) fun i hi => by
    rw [thn_getD _ _ _ (by rw [(h.pwr a).len]; exact hi), pwr_getD _ _ _ _ hi, pwr_getD _ _ _ _ (orb_lt h.lt hi a), pwr_getD _ _ _ _ hi, orb_add]
theorem pwr_one {n : Nat} {L : List Nat} (h : Gd n L) : pwr n L 1 = L := (h.pwr 1).ext h fun i hi => by rw [pwr_getD _ _ _ _ hi]; rfl
theorem orb_sq {n : Nat} {L : List Nat} (h : Gd n L) {v : Nat} (hv : v < n) : ∀ k, orb (thn L L) v k = orb L v (2 * k)
  | 0 => rfl
  | k + 1 => by
    show (thn L L).getD (orb (thn L L) v k) 0 = _
    rw [thn_getD _ _ _ (by rw [h.len]; exact orb_lt (h.thn h).lt hv k), orb_sq h hv k]
    rfl
theorem rpl_pwr {n : Nat} : ∀ (k : Nat) {o l : List Nat}, Gd n o → Gd n l → Gd n (rpl o l k) ∧ ∀ i, i < n → (rpl o l k).getD i 0 = orb l (o.getD i 0) k := by
  intro k
  induction k using Nat.strongRecOn with
  | ind k ih =>
    intro o l ho hl
    rw [rpl]
    by_cases hk : k = 0
    · subst hk; rw [dif_pos rfl]; exact ⟨ho, fun i _ => rfl⟩
    · rw [dif_neg hk]
      by_cases hodd : k % 2 = 1
      · rw [if_pos hodd]
        obtain ⟨h1, h2⟩ := ih (k / 2) (by omega) (ho.thn hl) (hl.thn hl)
        refine ⟨h1, fun i hi => ?_⟩
        have hx := ho.lt i hi
        rw [h2 i hi, thn_getD _ _ _ (by rw [ho.len]; exact hi), orb_sq hl (hl.lt _ hx)]
        have h3 := orb_add l (o.getD i 0) 1 (2 * (k / 2))
        rw [show 1 + 2 * (k / 2) = k by omega] at h3
        exact h3.symm
      · rw [if_neg hodd]
        obtain ⟨h1, h2⟩ := ih (k / 2) (by omega) ho (hl.thn hl)
        refine ⟨h1, fun i hi => ?_⟩
        rw [h2 i hi, orb_sq hl (ho.lt i hi), show 2 * (k / 2) = k by omega]
theorem rpl_range {n : Nat} {L : List Nat} (h : Gd n L) (k : Nat) : rpl (List.range n) L k = pwr n L k := by
  obtain ⟨h1, h2⟩ := rpl_pwr k (Gd.range h.one h.max) h
  exact h1.ext (h.pwr k) fun i hi => by rw [h2 i hi, pwr_getD _ _ _ _ hi]; simp [hi]
/-- What the calls answer at good ones. -/
theorem cmpT_good {n : Nat} {L M : List Nat} (h : Gd n L) (h' : Gd n M) : cmpT n (pks L n) n (pks M n) = ((n : Int), pks (thn L M) n, 0) := by
  unfold cmpT
  rw [h.good, h'.good, if_pos (show (true && true) = true from rfl), if_pos rfl, Int.toNat_natCast, ← thn_bhd h.max (fun i hi => by rw [h.im hi]; exact h.lt i hi), h.imk, h'.imk]
theorem powT_good {n : Nat} {L : List Nat} (h : Gd n L) (k : Nat) : powT n (pks L n) k = ((n : Int), pks (pwr n L k) n, 0) := by
  unfold powT
  rw [h.good, if_pos rfl, Int.toNat_natCast, ← (Agr.pow h.max k (agr_range h.max) (agr_imk h.max (fun i hi => by rw [h.im hi]; exact h.lt i hi))).pks, h.imk, rpl_range h]
theorem idT_good {n : Nat} (h1 : 1 ≤ n) (h : n ≤ 64) : idT n = ((n : Int), pks (List.range n) n, 0) := by
  unfold idT
  rw [if_neg (by omega), Int.toNat_natCast, pks_ext (List.range 64) (List.range n) n (fun i hi => by simp [hi, show i < 64 by omega])]
theorem makeT_gd {n : Nat} {L : List Nat} (h : Gd n L) : makeT (zl L) = ((n : Int), pks L n, 0) := by
  have e : nats (zl L) = L := by unfold nats zl; rw [List.map_map]; conv => rhs; rw [← List.map_id L]
                                 congr 1
  rw [makeT_good (by rw [zl_len, h.len]; have := h.one; have := h.max; omega) (fun i hi => by
    have hz := zl_rd L i
    unfold rd at hz
    rw [Int.toNat_natCast] at hz
    rw [zl_len, h.len] at *
    rw [hz]; have := h.lt i hi; omega), e, zl_len, h.len]
theorem cyc_orb {L M : List Nat} {n : Nat} (h : ∀ i, i < n → L.getD i 0 = M.getD i 0) (hL : Inn L n) {v : Nat} (hv : v < n) : ∀ k, orb L v k = orb M v k
  | 0 => rfl
  | k + 1 => by
    have ih := cyc_orb h hL hv k
    show L.getD (orb L v k) 0 = M.getD (orb M v k) 0
    rw [← ih]; exact h _ (orb_lt hL hv k)
end Go.Proofs.Ytpebnldoimoahaa

namespace Go.Proofs.Ytpebnldoimoahaa
open Go.RowKit Go.Proofs.YtpebnldoimoahaaW.PrintWords
set_option linter.unusedSimpArgs false
/-- The first images of a row lie as a list. -/
theorem C_img {w : World} {g : Nat} {L : List Nat} {t : TypeId} {fr : Nat × Nat} (h : w.heap[g]? = some (.cells (img L) t fr)) (l : List Nat) (n : Nat) (hn : l.length = n) (hm : n ≤ 64) (hL : L.length = 64) (he : ∀ i, i < n → l.getD i 0 = L.getD i 0) : Kd.C (Kd.int .i64) w (some ⟨g, 0, none⟩) n (zl l) := by
  have := C_block (zl l) h (by rw [zl_len, hn]; omega) (fun j hj => by
    rw [zl_len, hn] at hj
    rw [img_get _ _ (by omega)]
    have e := zl_rd l j
    unfold rd at e
    rw [Int.toNat_natCast] at e
    rw [e, he j hj])
  rw [zl_len, hn] at this
  exact this
/-- The first images as a slice. -/
theorem cut_img (g m : Nat) (hm : m ≤ 64) : ∀ W : World, (Instr.sliceAt 98 (.pointer (some ⟨g, 0, none⟩)) none (some (.int .i64 (m : Int))) none).run Try.prog W = .ok (.slice (some ⟨g, 0, none⟩) m 64) W := by
  intro W
  have hl : Try.prog.arrayLen 98 = 64 := by kernel_rfl
  have he : Try.prog.elem 98 = 3 := by kernel_rfl
  have hu : Try.prog.underlying 98 = some (.array (Try.prog.arrayLen 98) (Try.prog.elem 98)) := by rw [hl, he]; exact Try.underlying98
  obtain ⟨i, hi⟩ := info_of_underlying (P := Try.prog) Try.underlying3
  rw [run_sliceAt_array_h W _ _ hu .i64 (m : Int) (by omega) (by rw [hl]; omega), hl, he]
  have ha : (⟨g, 0, none⟩ : Addr).add 0 = ⟨g, 0, none⟩ := by simp [Addr.add]
  simp [sizeOf, typeInfo, hi, slicedAt, Result.andThen, ha]
theorem lsT_true (n : Nat) (ws : List Nat) : lsT true n ws = imk n ws := rfl
set_option maxRecDepth 100000 in
set_option maxHeartbeats 800000 in
theorem image_any (n : Int) (ws : List Nat) (hl : ws.length = 7) (hw : Hid (∀ i, ws.getD i 0 < 18446744073709551616)) (w : World) :
    Calls Try.prog 35 #[.agg (tvv n ws)] w fun e w' => e = .returned (.tuple #[.agg (sv (bo (lsT (goodT n ws) n.toNat ws))), .int .i64 (chkE (goodT n ws))]) ∧ Below w.heap.size w w' := by
  have HL := Lib.hid hl; clear hl
  have HZ := Lib.hid (tvv_zero n ws)
  go_enter Try.func35, Try.ntmps35
  go_wp2_with (refine ld_tr w.heap.size HL.out (hp_old (hp_new rfl)) rfl _ rfl rfl ?_)
  refine (open_any n ws HL.out hw _).mono ?_
  rintro e w1 ⟨l, hl, rfl, hi, hb⟩
  have HLL := Lib.hid hl; have HI := Lib.hid hi
  have A1 := Lib.hid (hp_below' hb (hp_old (hp_new (w := w) (o := .cells (tvv n ws) 26) rfl)))
  have A2 := Lib.hid (hp_below' hb (hp_new (w := w.alloc (.cells (tvv n ws) 26)) rfl))
  have HB := Lib.hid (bl_then (bl_alloc (bl_alloc (Below.refl _ w) _) _) hb)
  rw [World.size_alloc] at A2
  clear hi hl hb
  have B1 := Lib.hid (hp_old (o := .cells (img l) 98) A1.out)
  have B2 := Lib.hid (hp_old (o := .cells (img l) 98) A2.out)
  have B3 := Lib.hid (hp_new (w := w1) (o := .cells (img l) 98) rfl)
  have D1 : (w1.alloc (.cells (img l) 98)).cell? ⟨w.heap.size, 0, none⟩ = some (.int .i64 n) := by rw [cell_of_row _ _ _ _ _ _ B1.out, HZ.out]
  generalize hgb : goodT n ws = b at *
  have HGB := Lib.hid hgb; clear hgb
  cases b with
  | false =>
    go_wp2_with (first | (refine st_im_new HLL.out rfl rfl _ _ rfl rfl rfl ?_) | (refine st_sv _ _ rfl rfl (w.heap.size + 1) (n := 0) rfl rfl B2.out rfl ?_))
    refine bodyPost_ret (v := .tuple #[.agg (sv 0), .int .i64 130]) ?_ rfl ⟨by rw [HGB.out]; rfl, bl_row (bl_alloc HB.out _) (by omega) _⟩
    refine (results_cell_tmp (p := 2) (t := 3) (by rfl) _ _ (w.heap.size + 1) 69 _ _ _ ?_ (setRow_heap _ _ _ _ _ _ B2.out) Try.underlying69 rfl (sv_z _)).trans ?_ <;> rfl
  | true =>
    obtain ⟨hn1, hn64, _, _⟩ := goodT_spec HGB.out
    obtain ⟨m, rfl⟩ := Int.eq_ofNat_of_zero_le (show 0 ≤ n by omega)
    obtain rfl := HI.out rfl
    rw [Int.toNat_natCast] at *
    have hm : m ≤ 64 := by omega
    clear hn1 hn64 HI
    have HC := Aside0.mk (C_img B3.out (imk m ws) m (imk_len _ _) hm HLL.out (fun i hi => by rw [imk_getD _ _ _ hi, ims_getD, if_pos ⟨hi, by omega⟩]))
    have hcut := cut_img w1.heap.size m hm
    go_wp2_with (refine st_im_new HLL.out rfl rfl _ _ rfl rfl rfl ?_)
    refine (chosen_any _ 64 (imk m ws) m (imk_len _ _) (imk_lt _ _) (by omega) _ HC.out).mono ?_
    rintro e w2 ⟨rfl, hb⟩
    have C2 := Lib.hid (hp_below' hb B2.out)
    have CB := Lib.hid (bl_then (bl_alloc HB.out _) hb)
    clear hb
    go_wp2_with (refine st_sv _ _ rfl rfl (w.heap.size + 1) rfl rfl C2.out rfl ?_)
    refine bodyPost_ret (v := .tuple #[.agg (sv (bo (imk m ws))), .int .i64 0]) ?_ rfl ⟨by rw [HGB.out]; rfl, bl_row CB.out (by omega) _⟩
    refine (results_cell_tmp (p := 2) (t := 3) (by rfl) _ _ (w.heap.size + 1) 69 _ _ _ ?_ (setRow_heap _ _ _ _ _ _ C2.out) Try.underlying69 rfl (sv_z _)).trans ?_ <;> rfl
set_option maxRecDepth 100000 in
set_option maxHeartbeats 800000 in
theorem with_any (x y : Nat) (hx : x < 18446744073709551616) (hy : y < 64) (w : World) :
    Calls Try.prog 73 #[.agg (sv x), .int .i64 y] w fun e w' => e = .returned (.agg (sv (x ||| 2 ^ y))) ∧ Below w.heap.size w w' := by
  have e1 : (y : Int).tdiv 64 = 0 := by rw [Int.tdiv_eq_ediv_of_nonneg (by omega)]; omega
  have e2 : (y : Int).tmod 64 = y := by rw [Int.tmod_eq_emod_of_nonneg (by omega)]; omega
  have e3 : (y : Int) / 64 = 0 := by omega
  have e4 : (y : Int) % 64 = y := by omega
  have HV := or_bit x y hx hy
  go_enter Try.func73, Try.ntmps73
  have A1 := Lib.hid (hp_old (o := .cells (sv 0) 69) (hp_new (w := w) (o := .cells (sv x) 69) rfl))
  have A2 := Lib.hid (hp_new (w := w.alloc (.cells (sv x) 69)) (o := .cells (sv 0) 69) rfl)
  rw [World.size_alloc] at A2
  have HB := Lib.hid (bl_alloc (bl_alloc (Below.refl _ w) (.cells (sv x) 69)) (.cells (sv 0) 69))
  have hz : sv 0 = #[.int .u64 0, .int .u64 0, .int .u64 0, .int .u64 0, .int .u64 0, .int .u64 0, .int .u64 0, .int .u64 0] := rfl
  rw [hz] at A1 A2 HB
  have c1 : ((w.alloc (.cells (sv x) 69)).alloc (.cells #[.int .u64 0, .int .u64 0, .int .u64 0, .int .u64 0, .int .u64 0, .int .u64 0, .int .u64 0, .int .u64 0] 69)).cell? ⟨w.heap.size, 0, none⟩ = some (.int .u64 x) := by rw [cell_of_row _ _ _ _ _ _ A1.out, sv_at]
  have f1 : ((w.alloc (.cells (sv x) 69)).alloc (.cells #[.int .u64 0, .int .u64 0, .int .u64 0, .int .u64 0, .int .u64 0, .int .u64 0, .int .u64 0, .int .u64 0] 69)).frozen? ⟨w.heap.size, 0, none⟩ = false := frozen_of_row _ _ _ _ _ A1.out
  have hss := sv_set x (x ||| 2 ^ y)
  have HS := Lib.hid (hp_old (o := .cells (sv 0) 69) (hp_new (w := w) (o := .cells (sv (x ||| 2 ^ y)) 69) rfl))
  have HT := Lib.hid (hp_new (w := w.alloc (.cells (sv (x ||| 2 ^ y)) 69)) (o := .cells (sv 0) 69) rfl)
  rw [World.size_alloc] at HT
  have HU := Lib.hid (bl_alloc (bl_alloc (Below.refl _ w) (.cells (sv (x ||| 2 ^ y)) 69)) (.cells (sv 0) 69))
  go_wp2_with (first | (refine ld_sv _ rfl w.heap.size rfl HS.out rfl ?_) | (refine st_sv _ _ rfl rfl (w.heap.size + 1) rfl rfl HT.out rfl ?_))
  refine bodyPost_ret (v := .agg (sv (x ||| 2 ^ y))) ?_ rfl ⟨rfl, bl_row HU.out (by omega) _⟩
  exact results_cell_row rfl _ _ (w.heap.size + 1) 69 _ _ _ rfl (setRow_heap _ _ _ _ _ _ HT.out) Try.underlying69 rfl (sv_z _)
end Go.Proofs.Ytpebnldoimoahaa

namespace Go.Proofs.Ytpebnldoimoahaa
open Go.RowKit Go.Proofs.YtpebnldoimoahaaW.PrintWords
set_option linter.unusedSimpArgs false
/-- The cell of a list's place. -/
theorem at_cell {w : World} {ad : Addr} {n : Nat} {l : List Nat} (h : Kd.C (Kd.int .i64) w (some ad) n (zl l)) (k : Nat) (hk : k < n) : w.cell? (ad.add k) = some (.int .i64 ((l.getD k 0 : Nat) : Int)) := by
  obtain ⟨ad', e, hc⟩ := Kd.at_int h k (by omega) (by omega)
  cases e
  rw [Int.toNat_natCast, zl_rd] at hc
  exact hc
theorem at_some {w : World} {A : Option Addr} {n : Nat} {l : List Nat} (h : Kd.C (Kd.int .i64) w A n (zl l)) (k : Nat) (hk : k < n) : ∃ ad, A = some ad := by
  obtain ⟨ad', e, _⟩ := Kd.at_int h k (by omega) (by omega)
  exact ⟨ad', e⟩
theorem mem_lt64 {l : List Nat} (h : ∀ i, l.getD i 0 < 64) (k : Nat) : ∀ i ∈ l.take k, i < 64 := fun i hi => by
  obtain ⟨j, hj, rfl⟩ := List.mem_iff_getElem.1 (List.mem_of_mem_take hi)
  have := h j
  simpa [List.getD_eq_getElem?_getD, List.getElem?_eq_getElem hj] using this
theorem lsT_len {b : Bool} {n : Int} {ws : List Nat} (h : goodT n ws = b) : (lsT b n.toNat ws).length = if b then n.toNat else 0 := by
  cases b <;> simp [lsT, imk_len]
theorem lsT_small {n : Int} {ws : List Nat} {b : Bool} (h : goodT n ws = b) : (lsT b n.toNat ws).length ≤ 64 := by
  cases b
  · simp [lsT]
  · have := goodT_spec h
    simp [lsT, imk_len]; omega
theorem lsT_lt (b : Bool) (n : Nat) (ws : List Nat) (i : Nat) : (lsT b n ws).getD i 0 < 64 := by
  cases b
  · simp [lsT]
  · exact imk_lt _ _ _
/-- List's answer, by names. -/
def RlR (l : List Nat) (er : Int) (w : World) (e : Ending) (w' : World) : Prop := ∃ v, e = .returned (.tuple #[v, .int .i64 er]) ∧ Own w' w.heap.size v (zl l) ∧ Below w.heap.size w w'
theorem rlist_l (n : Int) (ws : List Nat) (hl : ws.length = 7) (hw : Hid (∀ i, ws.getD i 0 < 18446744073709551616)) : ∀ w : World,
    Calls Try.prog 46 #[.agg (tvv n ws)] w (RlR (lsT (goodT n ws) n.toNat ws) (chkE (goodT n ws)) w) := fun w => rlist_any n ws hl hw w
set_option maxRecDepth 100000 in
set_option maxHeartbeats 800000 in
theorem rimage_any (n : Int) (ws : List Nat) (hl : ws.length = 7) (hw : Hid (∀ i, ws.getD i 0 < 18446744073709551616)) (w : World) :
    Calls Try.prog 48 #[.agg (tvv n ws)] w fun e w' => e = .returned (.tuple #[.agg (sv (bo (lsT (goodT n ws) n.toNat ws))), .int .i64 (chkE (goodT n ws))]) ∧ Below w.heap.size w w' := by
  have HL := Lib.hid hl; clear hl
  have HM := Lib.hid (lsT_small (n := n) (ws := ws) rfl)
  have HI := Lib.hid (lsT_lt (goodT n ws) n.toNat ws)
  have HLS := Aside0.mk (rlist_l n ws HL.out hw)
  generalize lsT (goodT n ws) n.toNat ws = l at *
  generalize chkE (goodT n ws) = er at *
  go_enter Try.func48, Try.ntmps48
  go_wp2_with (refine ld_tr w.heap.size HL.out (hp_old (hp_new rfl)) rfl _ rfl rfl ?_)
  refine (HLS.out _).mono ?_
  rintro e w1 ⟨v, rfl, ho, hb⟩
  have A2 := Lib.hid (hp_below' hb (hp_new (w := w.alloc (.cells (tvv n ws) 26)) rfl))
  rw [World.size_alloc] at A2
  have HB := Lib.hid (bl_then (bl_alloc (bl_alloc (Below.refl _ w) _) _) hb)
  obtain ⟨A, c, rfl, _, hC⟩ := own_slice l.length rfl ho
  have HC := Aside0.mk hC
  clear hb ho hC
  go_wp2
  go_loopw [7] (fun i wr => ∃ k : Nat, k ≤ l.length ∧ i = .int .i64 k ∧ Hid (wr.heap[w1.heap.size]? = some (.cells (sv (bo (l.take k))) 69 (0, 0)) ∧ Below w1.heap.size w1 wr)) (fun i _ => l.length - (intOf i).toNat)
  case atStart => exact ⟨0, by omega, rfl, Lib.hid ⟨hp_new rfl, bl_alloc (Below.refl _ _) _⟩⟩
  case round =>
    obtain ⟨k, hk, rfl, H⟩ := hrel
    have hm64 := HM.out
    by_cases hkl : k < l.length
    · obtain ⟨ad, rfl⟩ := at_some HC.out k hkl
      have HK := Lib.hid (show bo (l.take (k + 1)) = bo (l.take k) ||| 2 ^ (l.getD k 0) by rw [take_snoc hkl, bo_snoc])
      have HX := Lib.hid (bo_lt (l.take k) (mem_lt64 HI.out k))
      have HY := Lib.hid (HI.out k)
      have HCC := Lib.hid (show ∀ (wz : World), Below w1.heap.size w1 wz → wz.cell? (ad.add k) = some (.int .i64 ((l.getD k 0 : Nat) : Int)) from fun wz hb => at_cell (Kd.C_below HC.out hb) k hkl)
      generalize l.getD k 0 = y at *
      generalize bo (l.take k) = x at *
      go_wp2_with fail
      refine wp_region_held_drew (S := fun w' => Below w1.heap.size w1 w') (by kernel_rfl) H.out.2.drew (fun hS => ?_)
      refine any_take (i := 1) (v := ?v2) rfl (by kernel_rfl) (by kernel_rfl) (by kernel_rfl) (fun _ _ _ h => h) hS (.inl ⟨by rfl, ?y2⟩) ?_
      case y2 => (intro w' h'; go_simp; with_reducible rfl)
      (try simp only [Act.put, List.setIfInBounds_toArray, List.set_cons_zero, List.set_cons_succ])
      refine any_take (i := 2) (v := ?v3) rfl (by kernel_rfl) (by kernel_rfl) (by kernel_rfl) (fun _ _ _ h => h) hS (.inl ⟨by rfl, ?y3⟩) ?_
      case y3 => (intro w' h'; go_simp; with_reducible rfl)
      (try simp only [Act.put, List.setIfInBounds_toArray, List.set_cons_zero, List.set_cons_succ])
      refine any_take (i := 3) (v := .pointer (some (ad.add k))) rfl (by kernel_rfl) (by kernel_rfl) (by kernel_rfl) (fun _ _ _ h => h) hS (yi_val (by rfl) (fun w' h' => ?y4)) ?_
      case y4 => first | rfl | (go_simp; done) | (go_simp; omega)
      (try simp only [Act.put, List.setIfInBounds_toArray, List.set_cons_zero, List.set_cons_succ])
      refine any_take (i := 4) (v := .int .i64 (y : Int)) rfl (by kernel_rfl) (by kernel_rfl) (by kernel_rfl) (fun _ _ _ h => h) hS (yi_cell _ _ rfl (by rfl) (ad.add k) rfl _ Try.underlying3 rfl (fun w' h' => HCC.out w' h')) ?_
      (try simp only [Act.put, List.setIfInBounds_toArray, List.set_cons_zero, List.set_cons_succ])
      refine any_one (i := 0) rfl (by kernel_rfl) (by rfl) (wp_load_row 69 _ rfl w1.heap.size rfl _ _ _ _ (show wr.drew.heap[w1.heap.size]? = _ from H.out.1) Try.underlying69 rfl (sv_z x) ⟨hS, ?_⟩)
      (try simp only [Act.put, List.setIfInBounds_toArray, List.set_cons_zero, List.set_cons_succ])
      refine any_call (i := 5) rfl (by kernel_rfl) (by rfl) 73 #[.agg (sv x), .int .i64 (y : Int)] ?x7 (with_any x y HX.out HY.out _) ?_
      case x7 => (simp [go_sem])
      (try simp only [Act.put, List.setIfInBounds_toArray, List.set_cons_zero, List.set_cons_succ])
      rintro e w2 ⟨rfl, hb⟩
      have hS2 : Below w1.heap.size w1 w2 := bl_then hS hb
      refine ⟨_, rfl, hS2, ?_⟩
      (try simp only [Act.put, List.setIfInBounds_toArray, List.set_cons_zero, List.set_cons_succ])
      have g2 : w2.heap[w1.heap.size]? = some (.cells (sv x) 69 (0, 0)) := hp_below' hb (show wr.drew.heap[w1.heap.size]? = _ from H.out.1)
      have hS3 : Below w1.heap.size w1 (w2.setRow w1.heap.size (sv (x ||| 2 ^ y))) := bl_row hS2 (Nat.le_refl _) _
      refine any_row (i := 6) rfl (by kernel_rfl) (by rfl) _ _ _ rfl w1.heap.size (sv (x ||| 2 ^ y)) rfl rfl 69 _ g2 (sv_z _) rfl (sv_one _) hS3 ?_
      (try simp only [Act.put, List.setIfInBounds_toArray, List.set_cons_zero, List.set_cons_succ])
      refine wpAnyH_done (by kernel_rfl) ?_ _
      have G2 := Lib.hid (setRow_heap _ _ _ (sv (x ||| 2 ^ y)) _ _ g2)
      have G3 := Lib.hid hS3
      rw [← HK.out] at G2 G3
      rw [← HK.out]
      clear hS hS2 hS3 g2 hb H
      go_wp2
      go_roundw
      case rel => exact ⟨k + 1, by omega, by go_num, Lib.hid ⟨G2.out, G3.out⟩⟩
      case measure => simp [intOf]; omega
    · have : k = l.length := by omega
      subst this
      rw [List.take_length] at H
      have A3 := Lib.hid (hp_below' H.out.2 A2.out)
      go_wp2_with (first | (refine ld_sv _ rfl w1.heap.size rfl H.out.1 rfl ?_) | (refine st_sv _ _ rfl rfl (w.heap.size + 1) rfl rfl A3.out rfl ?_))
      refine bodyPost_ret (v := .tuple #[.agg (sv (bo l)), .int .i64 er]) ?_ rfl ⟨rfl, bl_row (bl_then HB.out H.out.2) (by omega) _⟩
      refine (results_cell_tmp (p := 2) (t := 3) (by rfl) _ _ (w.heap.size + 1) 69 _ _ _ ?_ (setRow_heap _ _ _ _ _ _ A3.out) Try.underlying69 rfl (sv_z _)).trans ?_ <;> rfl
end Go.Proofs.Ytpebnldoimoahaa

namespace Go.Proofs.Ytpebnldoimoahaa
open Go.RowKit Go.Proofs.YtpebnldoimoahaaW.PrintWords
/-- The least point that goes where i goes. -/
def kr (L : List Nat) (i : Nat) : Nat := ((List.range (i + 1)).find? fun k => L.getD k 0 == L.getD i 0).getD 0
theorem kr_eq {L : List Nat} {i j : Nat} (hj : j ≤ i) (h : ∀ k, k < j → L.getD k 0 ≠ L.getD i 0) (he : L.getD j 0 = L.getD i 0) : kr L i = j := by
  have : (List.range (i + 1)).find? (fun k => L.getD k 0 == L.getD i 0) = some j := by
    rw [List.find?_range_eq_some]
    refine ⟨by simpa using he, by simp; omega, fun k hk => by simpa using h k hk⟩
  unfold kr
  rw [this]; rfl
theorem kr_spec (L : List Nat) (i : Nat) : kr L i ≤ i ∧ L.getD (kr L i) 0 = L.getD i 0 ∧ ∀ k, k < kr L i → L.getD k 0 ≠ L.getD i 0 := by
  have hex : ∃ j, j ≤ i ∧ (∀ k, k < j → L.getD k 0 ≠ L.getD i 0) ∧ L.getD j 0 = L.getD i 0 := by
    have key : ∀ m, (∃ j, j ≤ m ∧ L.getD j 0 = L.getD i 0) → ∃ j, j ≤ m ∧ (∀ k, k < j → L.getD k 0 ≠ L.getD i 0) ∧ L.getD j 0 = L.getD i 0 := by
      intro m
      induction m using Nat.strongRecOn with
      | ind m ih =>
        rintro ⟨j, hj, he⟩
        by_cases hk : ∃ k, k < j ∧ L.getD k 0 = L.getD i 0
        · obtain ⟨k, hk, hke⟩ := hk
          obtain ⟨j', h1, h2, h3⟩ := ih k (by omega) ⟨k, Nat.le_refl _, hke⟩
          exact ⟨j', by omega, h2, h3⟩
        · exact ⟨j, hj, fun k hkj hke => hk ⟨k, hkj, hke⟩, he⟩
    exact key i ⟨i, Nat.le_refl _, rfl⟩
  obtain ⟨j, h1, h2, h3⟩ := hex
  rw [kr_eq h1 h2 h3]
  exact ⟨h1, h3, h2⟩
theorem kr_congr {L M : List Nat} {i : Nat} (h : ∀ k, k ≤ i → L.getD k 0 = M.getD k 0) : kr L i = kr M i := by
  obtain ⟨h1, h2, h3⟩ := kr_spec M i
  refine kr_eq h1 (fun k hk => ?_) ?_
  · rw [h k (by omega), h i (Nat.le_refl _)]; exact h3 k hk
  · rw [h _ h1, h i (Nat.le_refl _)]; exact h2
def krl (l : List Nat) : List Nat := (List.range l.length).map (kr l)
theorem krl_len (l : List Nat) : (krl l).length = l.length := by simp [krl]
/-- The list while point k stands at j. -/
def krp (L : List Nat) (n k j : Nat) : List Nat := (List.range n).map fun i => if i < k then kr L i else if i = k then j else 0
theorem krp_len (L : List Nat) (n k j : Nat) : (krp L n k j).length = n := by simp [krp]
theorem krp_start (L : List Nat) (n : Nat) : krp L n 0 0 = List.replicate n 0 := by
  apply List.ext_getElem (by simp [krp])
  intro i h1 h2
  simp [krp]
theorem krp_get (L : List Nat) (n k j : Nat) (h : k < n) : (krp L n k j).getD k 0 = j := by simp [krp, List.getD_eq_getElem?_getD, h]
theorem krp_set (L : List Nat) (n k j x : Nat) : (krp L n k j).set k x = krp L n k x := by
  apply List.ext_getElem (by simp [krp])
  intro i h1 h2
  simp only [krp, List.getElem_set, List.getElem_map, List.getElem_range]
  by_cases e : k = i
  · subst e; simp
  · rw [if_neg e]
    by_cases hi : i < k
    · simp [hi]
    · simp [hi, show i ≠ k by omega]
theorem krp_next (L : List Nat) (n k : Nat) : krp L n k (kr L k) = krp L n (k + 1) 0 := by
  apply List.ext_getElem (by simp [krp])
  intro i h1 h2
  simp only [krp, List.getElem_map, List.getElem_range]
  by_cases hi : i < k
  · simp [hi, show i < k + 1 by omega]
  · by_cases e : i = k
    · subst e; simp
    · simp [hi, e, show ¬ i < k + 1 by omega]
theorem krp_end {L l : List Nat} {n : Nat} (hl : l.length = n) (h : ∀ i, i < n → l.getD i 0 = L.getD i 0) : krp L n n 0 = krl l := by
  apply List.ext_getElem (by simp [krp, krl, hl])
  intro i h1 h2
  have hi : i < n := by rw [krp_len] at h1; exact h1
  simp only [krp, krl, List.getElem_map, List.getElem_range, if_pos hi]
  exact (kr_congr fun k hk => h k (by omega)).symm
/-- A row of the call's own, as a list. -/
theorem own_img {w : World} {g base : Nat} {l : List Nat} {n : Nat} (h : w.heap[g]? = some (.cells (img l) 3 (0, 0))) (hb : base ≤ g) (hl : l.length = n) (hn : n ≤ 1000000) : Own w base (.slice (some ⟨g, 0, none⟩) n n) (zl l) := by
  refine Kd.R_of_own ⟨by simp [encs, zl, hl], .inr ⟨g, n, img l, by simp [zl, hl], hb, h, by simp [zl, hl], by unfold maxLen; omega, by rw [img_size, hl]; omega, ?_⟩⟩ (fun _ _ => trivial)
  rw [zl_len, hl, Nat.mul_one, List.take_of_length_le (by simp [img, hl])]
  simp [img, encs, zl]
set_option maxRecDepth 100000 in
set_option maxHeartbeats 2000000 in
theorem kernel_any (n : Int) (ws : List Nat) (hl : ws.length = 7) (hw : Hid (∀ i, ws.getD i 0 < 18446744073709551616)) (w : World) :
    Calls Try.prog 36 #[.agg (tvv n ws)] w (RlR (krl (lsT (goodT n ws) n.toNat ws)) (chkE (goodT n ws)) w) := by
  have HL := Lib.hid hl; clear hl
  have HZ := Lib.hid (tvv_zero n ws)
  go_enter Try.func36, Try.ntmps36
  go_wp2_with (refine ld_tr w.heap.size HL.out (hp_new rfl) rfl _ rfl rfl ?_)
  refine (open_any n ws HL.out hw _).mono ?_
  rintro e w1 ⟨L, hl, rfl, hi, hb⟩
  have HLL := Lib.hid hl; have HI := Lib.hid hi
  have A1 := Lib.hid (hp_below' hb (hp_new (w := w) (o := .cells (tvv n ws) 26) rfl))
  have HB := Lib.hid (bl_then (bl_alloc (Below.refl _ w) _) hb)
  clear hi hl hb
  have B1 := Lib.hid (hp_old (o := .cells (img L) 98) A1.out)
  have B3 := Lib.hid (hp_new (w := w1) (o := .cells (img L) 98) rfl)
  have D1 : (w1.alloc (.cells (img L) 98)).cell? ⟨w.heap.size, 0, none⟩ = some (.int .i64 n) := by rw [cell_of_row _ _ _ _ _ _ B1.out, HZ.out]
  generalize hgb : goodT n ws = b at *
  have HGB := Lib.hid hgb; clear hgb
  cases b with
  | false =>
    go_wp2_with (refine st_im_new HLL.out rfl rfl _ _ rfl rfl rfl ?_)
    go_ret2
    exact ⟨_, rfl, Kd.R_nil _ _ _ _ _, bl_alloc HB.out _⟩
  | true =>
    obtain ⟨hn1, hn64, _, _⟩ := goodT_spec HGB.out
    obtain ⟨m, rfl⟩ := Int.eq_ofNat_of_zero_le (show 0 ≤ n by omega)
    obtain rfl := HI.out rfl
    rw [Int.toNat_natCast] at *
    have hm : m ≤ 64 := by omega
    clear hn1 hn64 HI
    have HEL := Lib.hid (show ∀ i, i < m → (imk m ws).getD i 0 = (ims m ws).getD i 0 from fun i hi => by rw [imk_getD _ _ _ hi, ims_getD, if_pos ⟨hi, by omega⟩])
    generalize ims m ws = L at *
    go_wp2_with (first | (refine st_im_new HLL.out rfl rfl _ _ rfl rfl rfl ?_) | (refine wpl_make m (by omega) rfl _ _ rfl rfl rfl ?_))
    have hsz : w.heap.size < w1.heap.size := hp_lt A1.out
    have HS : Hid (((w1.alloc (.cells (img L) 98)).alloc (.cells (img (List.replicate m 0)) 3)).heap[w1.heap.size]? = some (.cells (img L) 98 (0, 0)) ∧ ((w1.alloc (.cells (img L) 98)).alloc (.cells (img (List.replicate m 0)) 3)).heap[w1.heap.size + 1]? = some (.cells (img (List.replicate m 0)) 3 (0, 0)) ∧ Below w.heap.size w ((w1.alloc (.cells (img L) 98)).alloc (.cells (img (List.replicate m 0)) 3))) :=
      Lib.hid ⟨hp_old B3.out, hp_new (by simp), bl_alloc (bl_alloc HB.out _) _⟩
    clear D1
    generalize w1.heap.size = D at *
    clear B1 B3 A1
    go_loopw [20] (fun i wr => ∃ k : Nat, k ≤ m ∧ i = .int .i64 k ∧ Hid (wr.heap[D]? = some (.cells (img L) 98 (0, 0)) ∧ wr.heap[D + 1]? = some (.cells (img (krp L m k 0)) 3 (0, 0)) ∧ Below w.heap.size w wr)) (fun i _ => m - (intOf i).toNat)
    case atStart => exact ⟨0, by omega, rfl, by rw [krp_start]; exact HS⟩
    case round =>
      obtain ⟨k, hk, rfl, H⟩ := hrel
      by_cases hkm : k < m
      · go_wp2
        have HSP := Lib.hid (kr_spec L k)
        go_loopw [] (fun wi => ∃ j : Nat, j ≤ k ∧ wi.cell? ⟨D + 1, k, none⟩ = some (.int .i64 j) ∧ Hid ((∀ q, q < j → L.getD q 0 ≠ L.getD k 0) ∧ wi.heap[D]? = some (.cells (img L) 98 (0, 0)) ∧ wi.heap[D + 1]? = some (.cells (img (krp L m k j)) 3 (0, 0)) ∧ Below w.heap.size w wi)) (fun wi => m - (intOf ((wi.cell? ⟨D + 1, k, none⟩).getD undef)).toNat)
        case atStart =>
          exact ⟨0, by omega, by rw [cell_of_row _ _ _ _ _ _ H.out.2.1, img_get _ _ (by rw [krp_len]; exact hkm), krp_get _ _ _ _ hkm], Lib.hid ⟨by omega, H.out⟩⟩
        case round =>
          obtain ⟨j, hj, c1, HJ⟩ := hrel
          have f1 : wr.frozen? ⟨D + 1, k, none⟩ = false := frozen_of_row _ _ _ _ _ HJ.out.2.2.1
          have c2 : wr.cell? ⟨D, j, none⟩ = some (.int .i64 ((L.getD j 0 : Nat) : Int)) := by rw [cell_of_row _ _ _ _ _ _ HJ.out.2.1, img_get _ _ (by rw [HLL.out]; omega)]
          have c3 : wr.cell? ⟨D, k, none⟩ = some (.int .i64 ((L.getD k 0 : Nat) : Int)) := by rw [cell_of_row _ _ _ _ _ _ HJ.out.2.1, img_get _ _ (by rw [HLL.out]; omega)]
          have hj64 : j < 64 := by omega
          have hk64 : k < 64 := by omega
          by_cases he : L.getD j 0 = L.getD k 0
          · have HE : Hid (wr.heap[D + 1]? = some (.cells (img (krp L m (k + 1) 0)) 3 (0, 0))) := Lib.hid (by
              rw [← krp_next, kr_eq hj HJ.out.1 he]; exact HJ.out.2.2.1)
            rw [he] at c2
            clear he
            generalize L.getD k 0 = y at *
            go_wp2
            go_quiet (fail)
            go_wp2
            go_roundw
            case rel => exact ⟨k + 1, by omega, by go_num, Lib.hid ⟨HJ.out.2.1, HE.out, bl_drewN HJ.out.2.2.2 _⟩⟩
            case measure => simp [intOf]; omega
          · have hjk : j < k := by
              apply Classical.byContradiction
              intro h
              exact he (by rw [show j = k by omega])
            have HN : Hid (∀ q, q < j + 1 → L.getD q 0 ≠ L.getD k 0) := Lib.hid (fun q hq => by
              by_cases e : q = j
              · subst e; exact he
              · exact HJ.out.1 q (by omega))
            have hne : (((L.getD j 0 : Nat) : Int) != ((L.getD k 0 : Nat) : Int)) = true := by rw [bne_iff_ne]; omega
            clear he
            generalize L.getD j 0 = x at *
            generalize L.getD k 0 = y at *
            go_wp2
            go_quiet (fail)
            go_wp2
            go_roundw
            case rel =>
              have hq : ((wr.drewN nq).setCell ⟨D + 1, k, none⟩ (.int .i64 ((j : Int) + 1))).heap[D + 1]? = some (.cells (img (krp L m k (j + 1))) 3 (0, 0)) := by
                rw [heap_setCell_same _ _ _ _ _ _ (show (wr.drewN nq).heap[D + 1]? = _ from HJ.out.2.2.1), show (j : Int) + 1 = ((j + 1 : Nat) : Int) by omega, img_set, krp_set]
              exact ⟨j + 1, by omega, by rw [cell_of_row _ _ _ _ _ _ hq, img_get _ _ (by rw [krp_len]; exact hkm), krp_get _ _ _ _ hkm], Lib.hid ⟨HN.out, hp_cell (by simp) HJ.out.2.1, hq, bl_cell (bl_drewN HJ.out.2.2.2 _) (by show w.heap.size ≤ D + 1; omega) _⟩⟩
            case measure =>
              have hq : ((wr.drewN nq).setCell ⟨D + 1, k, none⟩ (.int .i64 ((j : Int) + 1))).heap[D + 1]? = some (.cells (img (krp L m k (j + 1))) 3 (0, 0)) := by
                rw [heap_setCell_same _ _ _ _ _ _ (show (wr.drewN nq).heap[D + 1]? = _ from HJ.out.2.2.1), show (j : Int) + 1 = ((j + 1 : Nat) : Int) by omega, img_set, krp_set]
              have hq2 := cell_of_row _ _ k _ _ _ hq
              rw [img_get _ _ (by rw [krp_len]; exact hkm), krp_get _ _ _ _ hkm] at hq2
              rw [hq2, c1]
              simp [intOf]; omega
      · have : k = m := by omega
        subst this
        go_wp2
        go_ret2
        exact ⟨_, rfl, by rw [lsT_true, ← krp_end (imk_len k ws) HEL.out]; exact own_img H.out.2.1 (by omega) (krp_len _ _ _ _) (by omega), H.out.2.2⟩
end Go.Proofs.Ytpebnldoimoahaa

namespace Go.Proofs.Ytpebnldoimoahaa
open Go.RowKit Go.Proofs.YtpebnldoimoahaaW.PrintWords
/-- One image. -/
def mdN (n : Nat) (x : Int) : Nat := (Int.tmod (Int.tmod x n + n) n).toNat
def mdE (n : Nat) (l : List Int) (i : Nat) : Nat := if i < l.length then mdN n (l.getD i 0) else i
def mdL (n : Nat) (l : List Int) (k : Nat) : List Nat := (List.range k).map (mdE n l)
theorem mdN_eq (n : Nat) (x : Int) (h : 1 ≤ n) : Int.tmod (Int.tmod x n + n) n = (mdN n x : Int) ∧ mdN n x < n ∧ -(n : Int) < Int.tmod x n ∧ Int.tmod x n < n := by
  have hn : (0 : Int) < n := by omega
  have h3 : -(n : Int) < Int.tmod x n ∧ Int.tmod x n < n := by
    have h1 := Int.tmod_lt_of_pos x hn
    have h2 := Int.lt_tmod_of_pos x hn
    exact ⟨by omega, h1⟩
  have h4 : 0 ≤ Int.tmod (Int.tmod x n + n) n := Int.tmod_nonneg _ (by omega)
  have h5 := Int.tmod_lt_of_pos (Int.tmod x n + n) hn
  unfold mdN
  exact ⟨by omega, by omega, h3⟩
theorem mdL_gd {n : Nat} (l : List Int) (h1 : 1 ≤ n) (h : n ≤ 64) : Gd n (mdL n l n) :=
  ⟨h1, h, by simp [mdL], fun i hi => by
    rw [show (mdL n l n).getD i 0 = mdE n l i by simp [mdL, List.getD_eq_getElem?_getD, hi]]
    unfold mdE
    split
    · exact (mdN_eq n _ h1).2.1
    · exact hi⟩
theorem mdL_succ (n : Nat) (l : List Int) (k : Nat) : zl (mdL n l (k + 1)) = zl (mdL n l k) ++ [((mdE n l k : Nat) : Int)] := by
  simp [mdL, List.range_succ, zl]
theorem mdL_len (n : Nat) (l : List Int) (k : Nat) : (mdL n l k).length = k := by simp [mdL]
set_option maxRecDepth 100000 in
set_option maxHeartbeats 800000 in
theorem made_any (n : Nat) (h1 : 1 ≤ n) (hn : n ≤ 64) (A : Option Addr) (c : Nat) (l : List Int) (w : World) (hr : Kd.C (Kd.int .i64) w A l.length l) :
    Calls Try.prog 22 #[.int .i64 n, .slice A l.length c] w fun e w' => ∃ v, e = .returned v ∧ Own w' w.heap.size v (zl (mdL n l n)) ∧ Below w.heap.size w w' := by
  have HR := Aside0.mk hr
  clear hr
  go_enter Try.func22, Try.ntmps22
  go_wp2
  go_loopw [5, 6] (fun v i wr => ∃ k : Nat, k ≤ n ∧ i = .int .i64 k ∧ Hid (Own wr w.heap.size v (zl (mdL n l k)) ∧ Below w.heap.size w wr)) (fun _ i _ => n - (intOf i).toNat)
  case atStart => exact ⟨0, by omega, rfl, Lib.hid ⟨Kd.R_nil _ _ _ _ _, Below.refl _ _⟩⟩
  case round =>
    obtain ⟨k, hk, rfl, H⟩ := hrel
    have HO := Aside0.mk H.out.1
    have HB := Aside0.mk H.out.2
    clear H
    by_cases hkl : k < n
    · have HK := Lib.hid (mdL_succ n l k)
      have HLK := Lib.hid (show (zl (mdL n l k)).length = k by rw [zl_len, mdL_len])
      generalize zl (mdL n l k) = xs at *
      by_cases hin : k < l.length
      · obtain ⟨ad, rfl, hcell⟩ := Kd.at_int (Kd.C_below HR.out HB.out) k (by omega) (by omega)
        rw [Int.toNat_natCast] at hcell
        have HE : Hid (mdE n l k = mdN n (rd l k)) := Lib.hid (by unfold mdE rd; rw [if_pos hin, Int.toNat_natCast])
        generalize rd l k = x at *
        generalize mdE n l k = y at *
        obtain ⟨q1, q2, q3, q4⟩ := mdN_eq n x h1
        rw [← HE.out] at q1 q2
        have q5 : wrap64 (Int.tmod x n + n) = Int.tmod x n + n := IntWalk.wrap64_in _ ⟨by omega, by omega⟩
        have q6 : ((n : Int) == 0) = false := by rw [beq_eq_false_iff_ne]; omega
        have Q := Lib.hid q2
        clear q2 q3 q4 HE
        go_wp2_with (first | (at_builtin; refine Kd.R_append (Kd.int .i64) (w0 := w) w.heap.size rfl (.tmp 28) (.tmp 30) 22 3 (.int .i64 0) 8 rfl Try.underlying22 info_int rfl (by decide) (by omega) u5 xs (y : Int) [.int .i64 y] (fun _ => True) (fun _ => False) rfl rfl ?aP (fun _ hk => hk.elim) ?aF ?aO ?aB ?aS ?aL ?_; (case aP => exact rfl); (case aB => exact HB.out); (case aF => exact (fun _ _ => trivial)); (case aO => exact HO.out); (case aS => exact below_size HB.out); (case aL => have := HLK.out; omega); intro v1 w1 ho hb hg hat; have HO1 := Aside0.mk ho; have HB1 := Aside0.mk hb; clear ho hb hg hat))
        go_roundw
        case rel => exact ⟨k + 1, by omega, by go_num, Lib.hid ⟨by rw [HK.out]; exact HO1.out, HB1.out⟩⟩
        case measure => simp [intOf]; omega
      · have HE : Hid (mdE n l k = k) := Lib.hid (by unfold mdE; rw [if_neg hin])
        rw [HE.out] at HK
        go_wp2_with (first | (at_builtin; refine Kd.R_append (Kd.int .i64) (w0 := w) w.heap.size rfl (.tmp 28) (.tmp 30) 22 3 (.int .i64 0) 8 rfl Try.underlying22 info_int rfl (by decide) (by omega) u5 xs (k : Int) [.int .i64 k] (fun _ => True) (fun _ => False) rfl rfl ?aP (fun _ hk => hk.elim) ?aF ?aO ?aB ?aS ?aL ?_; (case aP => exact rfl); (case aB => exact HB.out); (case aF => exact (fun _ _ => trivial)); (case aO => exact HO.out); (case aS => exact below_size HB.out); (case aL => have := HLK.out; omega); intro v1 w1 ho hb hg hat; have HO1 := Aside0.mk ho; have HB1 := Aside0.mk hb; clear ho hb hg hat))
        go_roundw
        case rel => exact ⟨k + 1, by omega, by go_num, Lib.hid ⟨by rw [HK.out]; exact HO1.out, HB1.out⟩⟩
        case measure => simp [intOf]; omega
    · have : k = n := by omega
      subst this
      go_wp2
      go_ret
      exact ⟨_, rfl, HO.out, HB.out⟩
end Go.Proofs.Ytpebnldoimoahaa

namespace Go.Proofs.Ytpebnldoimoahaa
open Go.RowKit Go.Proofs.YtpebnldoimoahaaW.PrintWords
theorem make_g {n : Nat} {L : List Nat} (h : Gd n L) (A : Option Addr) (c : Nat) (w : World) (hr : Kd.C (Kd.int .i64) w A n (zl L)) :
    Calls Try.prog 15 #[.slice A n c] w fun e w' => e = .returned (.tuple #[.agg (tvv n (pks L n)), .int .i64 0]) ∧ Below w.heap.size w w' := by
  have hk : (zl L).length = n := by rw [zl_len, h.len]
  have hc := make_any A c (zl L) w (by rw [hk]; exact hr)
  rw [makeT_gd h] at hc
  rw [hk] at hc
  exact hc
theorem compose_g {n : Nat} {L M : List Nat} (h : Gd n L) (h' : Gd n M) (w : World) :
    Calls Try.prog 25 #[.agg (tvv n (pks L n)), .agg (tvv n (pks M n))] w fun e w' => e = .returned (.tuple #[.agg (tvv n (pks (thn L M) n)), .int .i64 0]) ∧ Below w.heap.size w w' := by
  have hc := compose_any n (pks L n) n (pks M n) (pks_len _ _) (Lib.hid h.words) (pks_len _ _) (Lib.hid h'.words) w
  rw [cmpT_good h h'] at hc
  exact hc
theorem identity_g {n : Nat} (h1 : 1 ≤ n) (h : n ≤ 64) (w : World) :
    Calls Try.prog 26 #[.int .i64 n] w fun e w' => e = .returned (.tuple #[.agg (tvv n (pks (List.range n) n)), .int .i64 0]) ∧ Below w.heap.size w w' := by
  have hc := identity_any n w
  rw [idT_good h1 h] at hc
  exact hc
theorem power_g {n : Nat} {L : List Nat} (h : Gd n L) (k : Nat) (hk : k < 18446744073709551616) (w : World) :
    Calls Try.prog 24 #[.agg (tvv n (pks L n)), .int .u64 k] w fun e w' => e = .returned (.tuple #[.agg (tvv n (pks (pwr n L k) n)), .int .i64 0]) ∧ Below w.heap.size w w' := by
  have hc := power_any n (pks L n) k (pks_len _ _) (Lib.hid h.words) (Lib.hid hk) w
  rw [powT_good h] at hc
  exact hc
/-- The statements' number of points. -/
def nN (n : Int) : Nat := 1 + mdN 64 n
theorem nN_in (n : Int) : 1 ≤ nN n ∧ nN n ≤ 64 := by
  have := (mdN_eq 64 n (by omega)).2.1
  unfold nN; omega
theorem nN_walk (n : Int) : wrap64 (Int.tmod n 64 + 64) = Int.tmod n 64 + 64 ∧ wrap64 (1 + Int.tmod (Int.tmod n 64 + 64) 64) = (nN n : Int) := by
  obtain ⟨h1, h2, h3, h4⟩ := mdN_eq 64 n (by omega)
  have h1' : Int.tmod (Int.tmod n 64 + 64) 64 = (mdN 64 n : Int) := h1
  have h3' : -(64 : Int) < Int.tmod n 64 ∧ Int.tmod n 64 < 64 := ⟨h3, h4⟩
  refine ⟨IntWalk.wrap64_in _ ⟨by omega, by omega⟩, ?_⟩
  rw [h1', IntWalk.wrap64_in _ ⟨by omega, by omega⟩]
  unfold nN; omega
theorem neT_dec (n : Int) (l : List Nat) : (!decide (n = n ∧ l = l)) = false := by simp
/-- A word list of good ones, by name. -/
theorem pks_name (L : List Nat) (n : Nat) : ∃ P, pks L n = P ∧ P.length = 7 := ⟨_, rfl, pks_len _ _⟩
end Go.Proofs.Ytpebnldoimoahaa

namespace Go.Proofs.Ytpebnldoimoahaa
open Go.RowKit Go.Proofs.YtpebnldoimoahaaW.PrintWords
theorem fold_bit (i : Nat) : ∀ (l : List Nat) (x : Nat), (l.foldl (fun x i => x ||| 2 ^ i) x).testBit i = (x.testBit i || decide (i ∈ l))
  | [], x => by simp
  | j :: l, x => by
    rw [List.foldl_cons, fold_bit i l]
    rw [Nat.testBit_or, Nat.testBit_two_pow, Bool.or_assoc]
    congr 1
    by_cases e : j = i
    · subst e; simp
    · simp [e, show ¬ i = j from fun h => e h.symm]
theorem bo_bit (l : List Nat) (i : Nat) : (bo l).testBit i = decide (i ∈ l) := by
  have := fold_bit i l 0
  simpa [bo] using this
theorem sub_bit {a b : Nat} (ha : a < 18446744073709551616) (hb : b < 18446744073709551616) (h : ∀ i, a.testBit i = true → b.testBit i = true) : bits .andNot .u64 (a : Int) (b : Int) = 0 := by
  rw [u64_andNot_nat a b ha hb]
  have e : a &&& (18446744073709551615 - b) = 0 := by
    apply Nat.eq_of_testBit_eq
    intro i
    rw [Nat.testBit_and, show 18446744073709551615 - b = 2 ^ 64 - (b + 1) by omega, Nat.testBit_two_pow_sub_succ (by omega), Nat.zero_testBit]
    by_cases hi : a.testBit i = true
    · rw [h i hi]; simp
    · simp at hi; rw [hi]; simp
  rw [e]; rfl
theorem mem_thn {n : Nat} {L M : List Nat} (h : Gd n L) (h' : Gd n M) {i : Nat} (hi : i ∈ thn L M) : i ∈ M := by
  obtain ⟨x, hx, rfl⟩ := List.mem_map.1 hi
  obtain ⟨j, hj, rfl⟩ := List.mem_iff_getElem.1 hx
  have h1 := h.lt j (by rw [← h.len]; exact hj)
  rw [List.getD_eq_getElem?_getD, List.getElem?_eq_getElem hj] at h1
  have h2 : L[j] < M.length := by rw [h'.len]; exact h1
  rw [List.getD_eq_getElem?_getD, List.getElem?_eq_getElem h2]
  exact List.getElem_mem _
theorem Gd.mem {n : Nat} {L : List Nat} (h : Gd n L) : ∀ i ∈ L, i < 64 := fun i hi => by
  obtain ⟨j, hj, rfl⟩ := List.mem_iff_getElem.1 hi
  have := h.lt64 j
  rwa [List.getD_eq_getElem?_getD, List.getElem?_eq_getElem hj] at this
theorem bo_thn {n : Nat} {L M : List Nat} (h : Gd n L) (h' : Gd n M) : bits .andNot .u64 ((bo (thn L M) : Nat) : Int) ((bo M : Nat) : Int) = 0 :=
  sub_bit (bo_lt _ (h.thn h').mem) (bo_lt _ h'.mem) fun i hi => by
    rw [bo_bit, decide_eq_true_iff] at hi ⊢
    exact mem_thn h h' hi
theorem kr_same {L : List Nat} {x y : Nat} (h : L.getD x 0 = L.getD y 0) : kr L x = kr L y := by
  obtain ⟨h1, h2, h3⟩ := kr_spec L y
  refine kr_eq ?_ (fun k hk => by rw [h]; exact h3 k hk) (by rw [h]; exact h2)
  apply Classical.byContradiction
  intro hlt
  exact h3 x (by omega) h
theorem krl_getD (l : List Nat) (i : Nat) (h : i < l.length) : (krl l).getD i 0 = kr l i := by simp [krl, List.getD_eq_getElem?_getD, h]
/-- What the first one joins stays joined. -/
theorem krl_thn {n : Nat} {L M : List Nat} (h : Gd n L) (_h' : Gd n M) {x y : Nat} (hx : x < n) (hy : y < n) (he : (krl L).getD x 0 = (krl L).getD y 0) : (krl (thn L M)).getD x 0 = (krl (thn L M)).getD y 0 := by
  rw [krl_getD _ _ (by rw [h.len]; exact hx), krl_getD _ _ (by rw [h.len]; exact hy)] at he
  rw [krl_getD _ _ (by rw [thn_len, h.len]; exact hx), krl_getD _ _ (by rw [thn_len, h.len]; exact hy)]
  apply kr_same
  rw [thn_getD _ _ _ (by rw [h.len]; exact hx), thn_getD _ _ _ (by rw [h.len]; exact hy), ← (kr_spec L x).2.1, he, (kr_spec L y).2.1]
theorem lsT_gd {n : Nat} {L : List Nat} (h : Gd n L) : lsT (goodT n (pks L n)) (n : Int).toNat (pks L n) = L := by
  rw [h.good, Int.toNat_natCast]; exact h.imk
theorem image_g {n : Nat} {L : List Nat} (h : Gd n L) (w : World) :
    Calls Try.prog 35 #[.agg (tvv n (pks L n))] w fun e w' => e = .returned (.tuple #[.agg (sv (bo L)), .int .i64 0]) ∧ Below w.heap.size w w' := by
  have hc := image_any n (pks L n) (pks_len _ _) (Lib.hid h.words) w
  rw [lsT_gd h, h.good] at hc
  exact hc
theorem kernel_g {n : Nat} {L : List Nat} (h : Gd n L) (w : World) :
    Calls Try.prog 36 #[.agg (tvv n (pks L n))] w (RlR (krl L) 0 w) := by
  have hc := kernel_any n (pks L n) (pks_len _ _) (Lib.hid h.words) w
  rw [lsT_gd h, h.good] at hc
  exact hc
end Go.Proofs.Ytpebnldoimoahaa

namespace Go.Proofs.Ytpebnldoimoahaa
open Go.RowKit
set_option linter.unusedSimpArgs false
set_option linter.unusedVariables false
/-- Is each byte one of the first k letters? -/
def letB (k : Int) (s : ByteArray) : Bool := s.data.toList.all fun c => decide (97 ≤ c.toNat) && decide ((c.toNat : Int) < 97 + k)
theorem letB_at {k : Int} {s : ByteArray} (h : letB k s = true) (i : Nat) (hi : i < s.size) : 97 ≤ (s[i]'hi).toNat ∧ ((s[i]'hi).toNat : Int) < 97 + k := by
  unfold letB at h
  rw [List.all_eq_true] at h
  have := h (s[i]'hi) (by
    have : s.data.toList[i]? = some (s[i]'hi) := by
      rw [Array.getElem?_toList, Array.getElem?_eq_getElem hi]; rfl
    exact List.mem_of_getElem? this)
  simpa using this
theorem letB_of {k : Int} {s : ByteArray} (h : ∀ i (hi : i < s.size), 97 ≤ (s[i]'hi).toNat ∧ ((s[i]'hi).toNat : Int) < 97 + k) : letB k s = true := by
  unfold letB
  rw [List.all_eq_true]
  intro c hc
  obtain ⟨i, hi, rfl⟩ := List.mem_iff_getElem.1 hc
  have hi' : i < s.size := by simpa using hi
  have := h i hi'
  have e : s.data.toList[i] = s[i]'hi' := by rw [Array.getElem_toList]; rfl
  rw [e]
  simpa using this
theorem letB_no {k : Int} {s : ByteArray} {i : Nat} (hi : i < s.size) (h : ¬ (97 ≤ (s[i]'hi).toNat ∧ ((s[i]'hi).toNat : Int) < 97 + k)) : letB k s = false := by
  cases hb : letB k s
  · rfl
  · exact absurd (letB_at hb i hi) h
/-- The error of a word over k letters. -/
def wrdE (k : Int) (s : ByteArray) : Int := if k < 1 ∨ 8 < k then 20 else if letB k s then 0 else 21
set_option maxRecDepth 1000000 in
set_option maxHeartbeats 2000000 in
theorem word_any (k : Int) (s : ByteArray) (w : World) :
    Calls Try.prog 85 #[.int .i64 k, .string s] w fun e w' => e = .returned (.int .i64 (wrdE k s)) ∧ Below w.heap.size w w' := by
  by_cases hk : k < 1 ∨ 8 < k
  · have HE : Hid (wrdE k s = 20) := Lib.hid (by unfold wrdE; rw [if_pos hk])
    rcases hk with hk | hk
    · go_enter Try.func85, Try.ntmps85
      go_wp2
      go_ret
      exact ⟨by rw [HE.out]; rfl, Below.refl _ _⟩
    · have hk1 : ¬ k < 1 := by omega
      go_enter Try.func85, Try.ntmps85
      go_wp2
      go_ret
      exact ⟨by rw [HE.out]; rfl, Below.refl _ _⟩
  · have h1 : ¬ k < 1 := by omega
    have h2 : ¬ 8 < k := by omega
    have HY : Hid (letB k s = true → wrdE k s = 0) := Lib.hid (fun h => by unfold wrdE; rw [if_neg hk, h]; rfl)
    have HN : Hid (letB k s = false → wrdE k s = 21) := Lib.hid (fun h => by unfold wrdE; rw [if_neg hk, h]; rfl)
    clear hk
    go_enter Try.func85, Try.ntmps85
    go_wp2
    go_loopw [6] (fun _ w' => ∃ pos : Nat, pos ≤ s.size ∧ w' = w.iter s pos ∧ Hid (∀ i (hi : i < s.size), i < pos → 97 ≤ (s[i]'hi).toNat ∧ ((s[i]'hi).toNat : Int) < 97 + k)) (fun _ w' => s.size - w'.iterPos w.heap.size)
    case atStart => exact ⟨0, by omega, rfl, Lib.hid (fun i hi h => absurd h (by omega))⟩
    case round =>
      obtain ⟨pos, hpos, rfl, HO⟩ := hrel
      have HB : Hid (∀ p, Below w.heap.size w (w.iter s p)) := Lib.hid (fun p => bl_alloc (Below.refl w.heap.size w) (.stringIter s p))
      by_cases hp : pos < s.size
      · by_cases ha : (s[pos]'hp).toNat < 128
        · have hnx : ∀ ty, (Instr.next (.pointer (some ⟨w.heap.size, 0, none⟩)) true ty).run Try.prog (w.iter s pos) = _ := fun ty => run_next_ascii w s pos ty hp ha
          by_cases hc : 97 ≤ (s[pos]'hp).toNat ∧ ((s[pos]'hp).toNat : Int) < 97 + k
          · have HO2 : Hid (∀ i (hi : i < s.size), i < pos + 1 → 97 ≤ (s[i]'hi).toNat ∧ ((s[i]'hi).toNat : Int) < 97 + k) := Lib.hid (fun i hi h => by
              by_cases e : i = pos
              · subst e; exact hc
              · exact HO.out i hi (by omega))
            obtain ⟨hc1, hc2⟩ := hc
            generalize (s[pos]'hp).toNat = c at *
            have hd1 : decide ((c : Int) < 97) = false := by simp; omega
            have hd2 : decide (97 + k ≤ (c : Int)) = false := by simpa using hc2
            have hd3 : decide (c < 97) = false := by simpa using hc1
            go_wp2
            go_roundw
            case rel => exact ⟨pos + 1, by omega, rfl, HO2⟩
            case measure => simp; omega
          · have HE := Lib.hid (HN.out (letB_no hp hc))
            generalize (s[pos]'hp).toNat = c at *
            by_cases hc1 : c < 97
            · have hd1 : decide ((c : Int) < 97) = true := by simp; omega
              have hd3 : decide (c < 97) = true := by simpa using hc1
              go_wp2
              go_ret
              exact ⟨by rw [HE.out]; rfl, HB.out _⟩
            · have hd1 : decide ((c : Int) < 97) = false := by simp; omega
              have hd3 : decide (c < 97) = false := by simpa using hc1
              have hd2 : decide (97 + k ≤ (c : Int)) = true := by simp; omega
              go_wp2
              go_ret
              exact ⟨by rw [HE.out]; rfl, HB.out _⟩
        · have hnx : ∀ ty, (Instr.next (.pointer (some ⟨w.heap.size, 0, none⟩)) true ty).run Try.prog (w.iter s pos) = _ := fun ty => run_next_any w s pos ty hp
          have HE := Lib.hid (HN.out (letB_no hp (fun h => by omega)))
          obtain ⟨hh, _⟩ := decode_high s pos hp (by omega)
          generalize (Utf8.decode s pos).1 = c at *
          generalize (Utf8.decode s pos).2 = wd at *
          have hd1 : decide ((c : Int) < 97) = false := by simp; omega
          have hd2 : decide (97 + k ≤ (c : Int)) = true := by simp; omega
          go_wp2

          go_ret
          exact ⟨by rw [HE.out]; rfl, HB.out _⟩
      · have hnx : ∀ ty, (Instr.next (.pointer (some ⟨w.heap.size, 0, none⟩)) true ty).run Try.prog (w.iter s pos) = _ := fun ty => run_next_end w s pos ty hp
        have HE := Lib.hid (HY.out (letB_of (fun i hi => HO.out i hi (by omega))))
        go_wp2
        go_ret
        exact ⟨by rw [HE.out]; rfl, HB.out _⟩
end Go.Proofs.Ytpebnldoimoahaa

namespace Go.Proofs.Ytpebnldoimoahaa
open Go.RowKit Go.Proofs.YtpebnldoimoahaaW.PrintWords
set_option linter.unusedSimpArgs false
set_option linter.unusedVariables false
/-- An automaton: its letters, where they lead, which states are accepted. -/
structure AutV where
  k : Int
  next : List Int
  acc : List Bool
abbrev ac (x : AutV) (A : Option Addr) (c : Nat) (B : Option Addr) (d : Nat) : Array Value := #[.int .i64 x.k, .slice A x.next.length c, .slice B x.acc.length d]
/-- It reads so. -/
structure ARd (w : World) (x : AutV) (A B : Option Addr) : Prop where
  next : Kd.C (Kd.int .i64) w A x.next.length x.next
  acc : Kd.C Kd.bool w B x.acc.length x.acc
theorem ARd.below {w w' : World} {x : AutV} {A B : Option Addr} (h : ARd w x A B) (hb : Below w.heap.size w w') : ARd w' x A B := ⟨Kd.C_below h.next hb, Kd.C_below h.acc hb⟩
def AutOk (x : AutV) : Prop := 1 ≤ x.k ∧ x.k ≤ 8 ∧ 1 ≤ x.acc.length ∧ x.acc.length ≤ 4096 ∧ (x.next.length : Int) = (x.acc.length : Int) * x.k ∧ ∀ i : Nat, i < x.next.length → 0 ≤ rd x.next i ∧ rd x.next i < x.acc.length
open Classical in
noncomputable def autE (x : AutV) : Int := if AutOk x then 0 else 80
theorem autE_ok {x : AutV} (h : AutOk x) : autE x = 0 := by unfold autE; rw [if_pos h]
theorem autE_no {x : AutV} (h : ¬ AutOk x) : autE x = 80 := by unfold autE; rw [if_neg h]
theorem aut_mul {m : Nat} {k : Int} (h1 : 1 ≤ k) (h2 : k ≤ 8) (h3 : m ≤ 4096) : 0 ≤ (m : Int) * k ∧ (m : Int) * k ≤ 32768 := by
  have hk : k = 1 ∨ k = 2 ∨ k = 3 ∨ k = 4 ∨ k = 5 ∨ k = 6 ∨ k = 7 ∨ k = 8 := by omega
  rcases hk with rfl | rfl | rfl | rfl | rfl | rfl | rfl | rfl <;> omega
set_option maxRecDepth 100000 in
set_option maxHeartbeats 4000000 in
theorem acheck_any (x : AutV) (A : Option Addr) (c : Nat) (B : Option Addr) (d : Nat) (w : World) (hr : ARd w x A B) :
    Calls Try.prog 69 #[.agg (ac x A c B d)] w fun e w' => e = .returned (.int .i64 (autE x)) ∧ Below w.heap.size w w' := by
  have HR := Aside0.mk hr
  have hmx := Kd.C_max hr.next
  have hmy := Kd.C_max hr.acc
  have HBL : Hid (Below w.heap.size w (w.alloc (.cells (ac x A c B d) 77))) := Lib.hid (bl_alloc (Below.refl _ _) _)
  clear hr
  obtain ⟨E, HE⟩ : ∃ E, Hid (autE x = E) := ⟨_, Lib.hid rfl⟩
  rw [HE.out]
  by_cases h1 : x.k < 1
  · have HN : Hid (E = 80) := Lib.hid (by rw [← HE.out, autE_no (fun h => by have := h.1; omega)])
    go_enter Try.func69, Try.ntmps69
    go_wp2
    go_ret
    exact ⟨by rw [HN.out]; rfl, HBL.out⟩
  by_cases h2 : 8 < x.k
  · have HN : Hid (E = 80) := Lib.hid (by rw [← HE.out, autE_no (fun h => by have := h.2.1; omega)])
    go_enter Try.func69, Try.ntmps69
    go_wp2
    go_ret
    exact ⟨by rw [HN.out]; rfl, HBL.out⟩
  by_cases h3 : x.acc.length < 1
  · have HN : Hid (E = 80) := Lib.hid (by rw [← HE.out, autE_no (fun h => by have := h.2.2.1; omega)])
    go_enter Try.func69, Try.ntmps69
    go_wp2
    go_ret
    exact ⟨by rw [HN.out]; rfl, HBL.out⟩
  by_cases h4 : 4096 < x.acc.length
  · have HN : Hid (E = 80) := Lib.hid (by rw [← HE.out, autE_no (fun h => by have := h.2.2.2.1; omega)])
    go_enter Try.func69, Try.ntmps69
    go_wp2
    go_ret
    exact ⟨by rw [HN.out]; rfl, HBL.out⟩
  obtain ⟨hp0, hp1⟩ := aut_mul (m := x.acc.length) (k := x.k) (by omega) (by omega) (by omega)
  by_cases h5 : (x.next.length : Int) = (x.acc.length : Int) * x.k
  · have hne : ((x.next.length : Int) != (x.acc.length : Int) * x.k) = false := by rw [bne_eq_false_iff_eq]; exact h5
    have HY : Hid ((∀ i : Nat, i < x.next.length → 0 ≤ rd x.next i ∧ rd x.next i < x.acc.length) → E = 0) := Lib.hid (fun h => by rw [← HE.out, autE_ok ⟨by omega, by omega, by omega, by omega, h5, h⟩])
    have HN : Hid (∀ i : Nat, i < x.next.length → ¬ (0 ≤ rd x.next i ∧ rd x.next i < x.acc.length) → E = 80) := Lib.hid (fun i hi h => by rw [← HE.out, autE_no (fun hh => h (hh.2.2.2.2.2 i hi))])
    clear h5
    go_enter Try.func69, Try.ntmps69
    go_wp2
    go_loopw [38] (fun i wr => ∃ k : Nat, k ≤ x.next.length ∧ i = .int .i64 k ∧ Hid (∀ i : Nat, i < k → 0 ≤ rd x.next i ∧ rd x.next i < x.acc.length) ∧ Hid (wr.heap[w.heap.size]? = some (.cells (ac x A c B d) 77 (0, 0)) ∧ Below w.heap.size w wr)) (fun i _ => x.next.length - (intOf i).toNat)
    case atStart => exact ⟨0, by omega, rfl, Lib.hid (fun i hi => absurd hi (by omega)), Lib.hid ⟨hp_new rfl, HBL.out⟩⟩
    case round =>
      obtain ⟨k, hk, rfl, HF, H⟩ := hrel
      by_cases hkn : k < x.next.length
      · obtain ⟨ad, hA, hcell⟩ := Kd.at_int (Kd.C_below HR.out.next H.out.2) k (by omega) (by omega)
        rw [Int.toNat_natCast] at hcell
        by_cases hok : 0 ≤ rd x.next k ∧ rd x.next k < x.acc.length
        · have HF2 : Hid (∀ i : Nat, i < k + 1 → 0 ≤ rd x.next i ∧ rd x.next i < x.acc.length) := Lib.hid (fun i hi => by
            by_cases e : i = k
            · subst e; exact hok
            · exact HF.out i (by omega))
          obtain ⟨ho1, ho2⟩ := hok
          subst hA
          generalize rd x.next k = y at *
          have hd1 : decide (y < 0) = false := by simp; omega
          have hd2 : decide ((x.acc.length : Int) ≤ y) = false := by simp; omega
          go_wp2
          go_roundw
          case rel => exact ⟨k + 1, by omega, by go_num, HF2, H⟩
          case measure => simp [intOf]; omega
        · have HE2 := Lib.hid (HN.out k hkn hok)
          subst hA
          generalize rd x.next k = y at *
          by_cases hy : y < 0
          · have hd1 : decide (y < 0) = true := by simp; omega
            go_wp2
            go_ret
            exact ⟨by rw [HE2.out]; rfl, H.out.2⟩
          · have hd1 : decide (y < 0) = false := by simp; omega
            have hd2 : decide ((x.acc.length : Int) ≤ y) = true := by simp; omega
            go_wp2
            go_ret
            exact ⟨by rw [HE2.out]; rfl, H.out.2⟩
      · have e8 : k = x.next.length := by omega
        have HE2 := Lib.hid (HY.out (fun i hi => HF.out i (by omega)))
        go_wp2
        go_ret
        exact ⟨by rw [HE2.out]; rfl, H.out.2⟩
  · have HN : Hid (E = 80) := Lib.hid (by rw [← HE.out, autE_no (fun h => h5 h.2.2.2.2.1)])
    have hne : ((x.next.length : Int) != (x.acc.length : Int) * x.k) = true := by rw [bne_iff_ne]; exact h5
    clear h5
    go_enter Try.func69, Try.ntmps69
    go_wp2
    go_ret
    exact ⟨by rw [HN.out]; rfl, HBL.out⟩
set_option maxRecDepth 100000 in
set_option maxHeartbeats 4000000 in
theorem racheck_any (x : AutV) (A : Option Addr) (c : Nat) (B : Option Addr) (d : Nat) (w : World) (hr : ARd w x A B) :
    Calls Try.prog 41 #[.agg (ac x A c B d)] w fun e w' => e = .returned (.int .i64 (autE x)) ∧ Below w.heap.size w w' := by
  have HR := Aside0.mk hr
  have hmx := Kd.C_max hr.next
  have hmy := Kd.C_max hr.acc
  have HBL : Hid (Below w.heap.size w (w.alloc (.cells (ac x A c B d) 77))) := Lib.hid (bl_alloc (Below.refl _ _) _)
  clear hr
  obtain ⟨E, HE⟩ : ∃ E, Hid (autE x = E) := ⟨_, Lib.hid rfl⟩
  rw [HE.out]
  by_cases h1 : x.k < 1
  · have HN : Hid (E = 80) := Lib.hid (by rw [← HE.out, autE_no (fun h => by have := h.1; omega)])
    go_enter Try.func41, Try.ntmps41
    go_wp2
    go_ret
    exact ⟨by rw [HN.out]; rfl, HBL.out⟩
  by_cases h2 : 8 < x.k
  · have HN : Hid (E = 80) := Lib.hid (by rw [← HE.out, autE_no (fun h => by have := h.2.1; omega)])
    go_enter Try.func41, Try.ntmps41
    go_wp2
    go_ret
    exact ⟨by rw [HN.out]; rfl, HBL.out⟩
  by_cases h3 : x.acc.length < 1
  · have HN : Hid (E = 80) := Lib.hid (by rw [← HE.out, autE_no (fun h => by have := h.2.2.1; omega)])
    go_enter Try.func41, Try.ntmps41
    go_wp2
    go_ret
    exact ⟨by rw [HN.out]; rfl, HBL.out⟩
  by_cases h4 : 4096 < x.acc.length
  · have HN : Hid (E = 80) := Lib.hid (by rw [← HE.out, autE_no (fun h => by have := h.2.2.2.1; omega)])
    go_enter Try.func41, Try.ntmps41
    go_wp2
    go_ret
    exact ⟨by rw [HN.out]; rfl, HBL.out⟩
  obtain ⟨hp0, hp1⟩ := aut_mul (m := x.acc.length) (k := x.k) (by omega) (by omega) (by omega)
  by_cases h5 : (x.next.length : Int) = (x.acc.length : Int) * x.k
  · have hne : ((x.next.length : Int) != (x.acc.length : Int) * x.k) = false := by rw [bne_eq_false_iff_eq]; exact h5
    have HY : Hid ((∀ i : Nat, i < x.next.length → 0 ≤ rd x.next i ∧ rd x.next i < x.acc.length) → E = 0) := Lib.hid (fun h => by rw [← HE.out, autE_ok ⟨by omega, by omega, by omega, by omega, h5, h⟩])
    have HN : Hid (∀ i : Nat, i < x.next.length → ¬ (0 ≤ rd x.next i ∧ rd x.next i < x.acc.length) → E = 80) := Lib.hid (fun i hi h => by rw [← HE.out, autE_no (fun hh => h (hh.2.2.2.2.2 i hi))])
    clear h5
    go_enter Try.func41, Try.ntmps41
    go_wp2
    go_loopw [4] (fun i wr => ∃ k : Nat, k ≤ x.next.length ∧ i = .int .i64 k ∧ Hid (∀ i : Nat, i < k → 0 ≤ rd x.next i ∧ rd x.next i < x.acc.length) ∧ Hid (wr.heap[w.heap.size]? = some (.cells (ac x A c B d) 77 (0, 0)) ∧ Below w.heap.size w wr)) (fun i _ => x.next.length - (intOf i).toNat)
    case atStart => exact ⟨0, by omega, rfl, Lib.hid (fun i hi => absurd hi (by omega)), Lib.hid ⟨hp_new rfl, HBL.out⟩⟩
    case round =>
      obtain ⟨k, hk, rfl, HF, H⟩ := hrel
      have d1 : wr.cell? ⟨w.heap.size, 1, none⟩ = some (.slice A x.next.length c) := by rw [cell_of_row _ _ _ _ _ _ H.out.1]; rfl
      by_cases hkn : k < x.next.length
      · obtain ⟨ad, hA, hcell⟩ := Kd.at_int (Kd.C_below HR.out.next H.out.2) k (by omega) (by omega)
        rw [Int.toNat_natCast] at hcell
        by_cases hok : 0 ≤ rd x.next k ∧ rd x.next k < x.acc.length
        · have HF2 : Hid (∀ i : Nat, i < k + 1 → 0 ≤ rd x.next i ∧ rd x.next i < x.acc.length) := Lib.hid (fun i hi => by
            by_cases e : i = k
            · subst e; exact hok
            · exact HF.out i (by omega))
          obtain ⟨ho1, ho2⟩ := hok
          subst hA
          generalize rd x.next k = y at *
          have hd1 : decide (y < 0) = false := by simp; omega
          have hd2 : decide ((x.acc.length : Int) ≤ y) = false := by simp; omega
          go_wp2
          go_roundw
          case rel => exact ⟨k + 1, by omega, by go_num, HF2, H⟩
          case measure => simp [intOf]; omega
        · have HE2 := Lib.hid (HN.out k hkn hok)
          subst hA
          generalize rd x.next k = y at *
          by_cases hy : y < 0
          · have hd1 : decide (y < 0) = true := by simp; omega
            go_wp2
            go_ret
            exact ⟨by rw [HE2.out]; rfl, H.out.2⟩
          · have hd1 : decide (y < 0) = false := by simp; omega
            have hd2 : decide ((x.acc.length : Int) ≤ y) = true := by simp; omega
            go_wp2
            go_ret
            exact ⟨by rw [HE2.out]; rfl, H.out.2⟩
      · have e8 : k = x.next.length := by omega
        have HE2 := Lib.hid (HY.out (fun i hi => HF.out i (by omega)))
        go_wp2
        go_ret
        exact ⟨by rw [HE2.out]; rfl, H.out.2⟩
  · have HN : Hid (E = 80) := Lib.hid (by rw [← HE.out, autE_no (fun h => h5 h.2.2.2.2.1)])
    have hne : ((x.next.length : Int) != (x.acc.length : Int) * x.k) = true := by rw [bne_iff_ne]; exact h5
    clear h5
    go_enter Try.func41, Try.ntmps41
    go_wp2
    go_ret
    exact ⟨by rw [HN.out]; rfl, HBL.out⟩
end Go.Proofs.Ytpebnldoimoahaa

namespace Go.Proofs.Ytpebnldoimoahaa
open Go.RowKit Go.Proofs.YtpebnldoimoahaaW.PrintWords
set_option linter.unusedSimpArgs false
set_option linter.unusedVariables false
/-- Where a letter leads. -/
def stp (x : AutV) (s c : Nat) : Nat := (rd x.next ((s * x.k.toNat + c : Nat) : Int)).toNat
/-- Where a word leads. -/
def fol (x : AutV) (s : Nat) (l : List UInt8) : Nat := l.foldl (fun s c => stp x s (c.toNat - 97)) s
theorem aut_idx {x : AutV} (h : AutOk x) {s c : Nat} (hs : s < x.acc.length) (hc : (c : Int) < x.k) : s * x.k.toNat + c < x.next.length := by
  obtain ⟨h1, h2, h3, h4, h5, _⟩ := h
  obtain ⟨k, hk⟩ := Int.eq_ofNat_of_zero_le (show 0 ≤ x.k by omega)
  rw [hk] at h1 h2 h5 hc ⊢
  simp only [Int.toNat_natCast]
  have e : x.next.length = x.acc.length * k := by exact_mod_cast h5
  rw [e]
  have : (s + 1) * k ≤ x.acc.length * k := Nat.mul_le_mul_right _ hs
  rw [Nat.succ_mul] at this
  omega
theorem stp_lt {x : AutV} (h : AutOk x) {s c : Nat} (hs : s < x.acc.length) (hc : (c : Int) < x.k) : stp x s c < x.acc.length ∧ rd x.next ((s * x.k.toNat + c : Nat) : Int) = (stp x s c : Nat) := by
  have hi := aut_idx h hs hc
  obtain ⟨h1, h2⟩ := h.2.2.2.2.2 _ hi
  unfold stp
  omega
theorem fol_snoc (x : AutV) (s : Nat) (l : List UInt8) (c : UInt8) : fol x s (l ++ [c]) = stp x (fol x s l) (c.toNat - 97) := by simp [fol]
theorem byte_take (s : ByteArray) (k : Nat) (h : k < s.size) : s.data.toList.take (k + 1) = s.data.toList.take k ++ [s[k]] := by
  rw [List.take_succ_eq_append_getElem (by simpa using h)]; rfl
theorem fol_lt {x : AutV} (h : AutOk x) {s : Nat} (hs : s < x.acc.length) {w : ByteArray} (hw : letB x.k w = true) : ∀ k, k ≤ w.size → fol x s (w.data.toList.take k) < x.acc.length
  | 0, _ => by simpa [fol] using hs
  | k + 1, hk => by
    rw [byte_take w k (by omega), fol_snoc]
    have := letB_at hw k (by omega)
    exact (stp_lt h (fol_lt h hs hw k (by omega)) (by omega)).1
set_option maxRecDepth 100000 in
set_option maxHeartbeats 4000000 in
theorem follow_any (x : AutV) (A : Option Addr) (c : Nat) (B : Option Addr) (d : Nat) (s : Nat) (v : ByteArray) (w : World) (hr : ARd w x A B) (hx : AutOk x) (hs : s < x.acc.length) (hv : letB x.k v = true) (hsz : v.size ≤ 4611686018427387904) :
    Calls Try.prog 80 #[.agg (ac x A c B d), .int .i64 s, .string v] w fun e w' => e = .returned (.int .i64 ((fol x s v.data.toList : Nat) : Int)) ∧ Below w.heap.size w w' := by
  have HR := Aside0.mk hr
  have HX := Lib.hid hx
  have HV := Lib.hid hv
  have HS := Lib.hid hs
  have HFL := Lib.hid (fun k hk => fol_lt hx hs hv k hk)
  obtain ⟨R, HRR⟩ : ∃ R, Hid (fol x s v.data.toList = R) := ⟨_, Lib.hid rfl⟩
  rw [HRR.out]
  have h4 := hx.2.2.2.1
  clear hr hx hv hs
  go_enter Try.func80, Try.ntmps80
  go_wp2
  go_loopw [10, 1] (fun i q wr => ∃ k : Nat, k ≤ v.size ∧ i = .int .i64 k ∧ q = .int .i64 ((fol x s (v.data.toList.take k) : Nat) : Int) ∧ Hid (wr.heap[w.heap.size]? = some (.cells (ac x A c B d) 77 (0, 0)) ∧ Below w.heap.size w wr)) (fun i _ _ => v.size - (intOf i).toNat)
  case atStart => exact ⟨0, by omega, rfl, rfl, Lib.hid ⟨hp_new rfl, bl_alloc (Below.refl _ _) _⟩⟩
  case round =>
    obtain ⟨k, hk, rfl, rfl, H⟩ := hrel
    by_cases hkv : k < v.size
    · have hq := HFL.out k hk
      have hb := letB_at HV.out k hkv
      have HST : Hid (fol x s (v.data.toList.take (k + 1)) = stp x (fol x s (v.data.toList.take k)) ((v[k]'hkv).toNat - 97)) := Lib.hid (by rw [byte_take v k hkv, fol_snoc])
      generalize hqq : fol x s (v.data.toList.take k) = q at *
      clear hqq
      obtain ⟨hb1, hb2⟩ := hb
      obtain ⟨l, hl⟩ : ∃ l : Nat, l = (v[k]'hkv).toNat - 97 := ⟨_, rfl⟩
      have hlk : (l : Int) < x.k := by omega
      have hcl : ((v[k]'hkv).toNat : Int) = (l : Int) + 97 := by omega
      have hix := aut_idx HX.out hq hlk
      obtain ⟨hz1, hz2⟩ := stp_lt HX.out hq hlk
      rw [← hl] at HST
      have hk8 := HX.out.2.1
      have hk1 := HX.out.1
      have hmul : (q : Int) * x.k = ((q * x.k.toNat : Nat) : Int) := by
        obtain ⟨kk, hkk⟩ := Int.eq_ofNat_of_zero_le (show 0 ≤ x.k by omega)
        rw [hkk, Int.toNat_natCast]; push_cast; rfl
      have hqk : q * x.k.toNat ≤ 40960 := by
        have : q * x.k.toNat ≤ 4096 * 10 := Nat.mul_le_mul (by omega) (by omega)
        omega
      obtain ⟨ad, hA, hcell⟩ := Kd.at_int (Kd.C_below HR.out.next H.out.2) ((q * x.k.toNat + l : Nat) : Int) (by omega) (by omega)
      rw [Int.toNat_natCast, hz2] at hcell
      have HCELL := Lib.hid hcell
      have HMUL := Lib.hid hmul
      have HCL := Lib.hid hcl
      have HSTP : Hid (stp x q l < x.acc.length) := Lib.hid hz1
      rw [hA] at H
      generalize hPP : q * x.k.toNat = P at *
      generalize stp x q l = z at *
      clear hcell hmul hz2 hl hPP hcl hz1
      go_wp2
      refine wp_region_held_drew (S := fun w' => w' = wr.drew) (by kernel_rfl) rfl (fun hS => ?_)
      have hw5 : IntKind.i64.wrap ((q : Int) * x.k) = (P : Int) := by rw [HMUL.out]; exact IntWalk.i64_in _ ⟨by omega, by omega⟩
      have hw10 : IntKind.i64.wrap (l : Int) = (l : Int) := IntWalk.i64_in _ ⟨by omega, by omega⟩
      have hw9 : IntKind.u8.wrap (((v[k]'hkv).toNat : Int) - 97) = (l : Int) := by rw [HCL.out, show (l : Int) + 97 - 97 = l by omega]; exact IntWalk.u8_in _ ⟨by omega, by omega⟩
      have hw11 : IntKind.i64.wrap ((P : Int) + (l : Int)) = (P : Int) + (l : Int) := IntWalk.i64_in _ ⟨by omega, by omega⟩
      have hw12 : 0 ≤ (P : Int) + (l : Int) ∧ (P : Int) + (l : Int) < (x.next.length : Int) := ⟨by omega, by omega⟩
      have hw13 : ((P : Int) + (l : Int)).toNat = P + l := by omega
      refine any_take (i := 0) (v := ?v2) rfl (by kernel_rfl) (by kernel_rfl) (by kernel_rfl) (fun _ _ _ h => h) hS (.inl ⟨by rfl, ?y2⟩) ?_
      case y2 => (intro w' h'; go_simp; with_reducible rfl)
      (try simp only [Act.put, List.setIfInBounds_toArray, List.set_cons_zero, List.set_cons_succ])
      refine any_take (i := 1) (v := .slice (some ad) x.next.length c) rfl (by kernel_rfl) (by kernel_rfl) (by kernel_rfl) (fun _ _ _ h => h) hS (yi_cell _ _ rfl (by rfl) ⟨w.heap.size, 1, none⟩ rfl _ Try.underlying22 rfl (fun w' h' => (by rw [h', cell_of_row _ _ _ _ _ _ (show wr.drew.heap[w.heap.size]? = _ from H.out.1)]; rfl))) ?_
      (try simp only [Act.put, List.setIfInBounds_toArray, List.set_cons_zero, List.set_cons_succ])
      refine any_take (i := 2) (v := ?v5) rfl (by kernel_rfl) (by kernel_rfl) (by kernel_rfl) (fun _ _ _ h => h) hS (.inl ⟨by rfl, ?y5⟩) ?_
      case y5 => (intro w' h'; go_simp; with_reducible rfl)
      (try simp only [Act.put, List.setIfInBounds_toArray, List.set_cons_zero, List.set_cons_succ])
      refine any_take (i := 3) (v := ?v6) rfl (by kernel_rfl) (by kernel_rfl) (by kernel_rfl) (fun _ _ _ h => h) hS (.inl ⟨by rfl, ?y6⟩) ?_
      case y6 => (intro w' h'; go_simp; with_reducible rfl)
      (try simp only [Act.put, List.setIfInBounds_toArray, List.set_cons_zero, List.set_cons_succ])
      refine any_take (i := 4) (v := .int .i64 x.k) rfl (by kernel_rfl) (by kernel_rfl) (by kernel_rfl) (fun _ _ _ h => h) hS (yi_cell _ _ rfl (by rfl) ⟨w.heap.size, 0, none⟩ rfl _ Try.underlying3 rfl (fun w' h' => (by rw [h', cell_of_row _ _ _ _ _ _ (show wr.drew.heap[w.heap.size]? = _ from H.out.1)]; rfl))) ?_
      (try simp only [Act.put, List.setIfInBounds_toArray, List.set_cons_zero, List.set_cons_succ])
      refine any_take (i := 5) (v := .int .i64 (P : Int)) rfl (by kernel_rfl) (by kernel_rfl) (by kernel_rfl) (fun _ _ _ h => h) hS (yi_val (by rfl) (fun w' h' => ?y8)) ?_
      case y8 => first | rfl | (go_simp; done) | (go_simp; omega)
      (try simp only [Act.put, List.setIfInBounds_toArray, List.set_cons_zero, List.set_cons_succ])
      refine any_take (i := 6) (v := ?v10) rfl (by kernel_rfl) (by kernel_rfl) (by kernel_rfl) (fun _ _ _ h => h) hS (.inl ⟨by rfl, ?y10⟩) ?_
      case y10 => (intro w' h'; go_simp; with_reducible rfl)
      (try simp only [Act.put, List.setIfInBounds_toArray, List.set_cons_zero, List.set_cons_succ])
      refine any_take (i := 7) (v := ?v11) rfl (by kernel_rfl) (by kernel_rfl) (by kernel_rfl) (fun _ _ _ h => h) hS (.inl ⟨by rfl, ?y11⟩) ?_
      case y11 => (intro w' h'; go_simp; with_reducible rfl)
      (try simp only [Act.put, List.setIfInBounds_toArray, List.set_cons_zero, List.set_cons_succ])
      refine any_take (i := 8) (v := .int .u8 ((v[k]'hkv).toNat : Int)) rfl (by kernel_rfl) (by kernel_rfl) (by kernel_rfl) (fun _ _ _ h => h) hS (yi_val (by rfl) (fun w' h' => ?y12)) ?_
      case y12 => first | rfl | (go_simp; done) | (go_simp; omega)
      (try simp only [Act.put, List.setIfInBounds_toArray, List.set_cons_zero, List.set_cons_succ])
      refine any_take (i := 9) (v := .int .u8 (l : Int)) rfl (by kernel_rfl) (by kernel_rfl) (by kernel_rfl) (fun _ _ _ h => h) hS (yi_val (by rfl) (fun w' h' => ?y13)) ?_
      case y13 => first | rfl | (go_simp; done) | (go_simp; omega)
      (try simp only [Act.put, List.setIfInBounds_toArray, List.set_cons_zero, List.set_cons_succ])
      refine any_take (i := 10) (v := .int .i64 (l : Int)) rfl (by kernel_rfl) (by kernel_rfl) (by kernel_rfl) (fun _ _ _ h => h) hS (yi_val (by rfl) (fun w' h' => ?y14)) ?_
      case y14 => first | rfl | (go_simp; done) | (go_simp; omega)
      (try simp only [Act.put, List.setIfInBounds_toArray, List.set_cons_zero, List.set_cons_succ])
      refine any_take (i := 11) (v := .int .i64 ((P : Int) + (l : Int))) rfl (by kernel_rfl) (by kernel_rfl) (by kernel_rfl) (fun _ _ _ h => h) hS (yi_val (by rfl) (fun w' h' => ?y15)) ?_
      case y15 => first | rfl | (go_simp; done) | (go_simp; omega)
      (try simp only [Act.put, List.setIfInBounds_toArray, List.set_cons_zero, List.set_cons_succ])
      refine any_take (i := 12) (v := .pointer (some (ad.add (P + l)))) rfl (by kernel_rfl) (by kernel_rfl) (by kernel_rfl) (fun _ _ _ h => h) hS (yi_val (by rfl) (fun w' h' => ?y16)) ?_
      case y16 => first | rfl | (go_simp; done) | (go_simp; omega)
      (try simp only [Act.put, List.setIfInBounds_toArray, List.set_cons_zero, List.set_cons_succ])
      refine any_take (i := 13) (v := .int .i64 (z : Int)) rfl (by kernel_rfl) (by kernel_rfl) (by kernel_rfl) (fun _ _ _ h => h) hS (yi_cell _ _ rfl (by rfl) (ad.add (P + l)) rfl _ Try.underlying3 rfl (fun w' h' => (by rw [h']; exact HCELL.out))) ?_
      (try simp only [Act.put, List.setIfInBounds_toArray, List.set_cons_zero, List.set_cons_succ])
      refine any_take (i := 14) (v := ?v19) rfl (by kernel_rfl) (by kernel_rfl) (by kernel_rfl) (fun _ _ _ h => h) hS (.inl ⟨by rfl, ?y19⟩) ?_
      case y19 => (intro w' h'; go_simp; with_reducible rfl)
      (try simp only [Act.put, List.setIfInBounds_toArray, List.set_cons_zero, List.set_cons_succ])
      refine wpAnyH_done (by kernel_rfl) ?_ _
      clear hS hw5 hw9 hw10 hw11 hw12 hw13
      go_wp2
      go_roundw
      case rel => exact ⟨k + 1, by omega, by go_num, by rw [HST.out], Lib.hid ⟨by rw [hA]; exact H.out.1, H.out.2.drew⟩⟩
      case measure => simp [intOf]; omega
    · have e8 : k = v.size := by omega
      subst e8
      have e9 : v.data.toList.take v.size = v.data.toList := List.take_of_length_le (by simp)
      rw [e9, HRR.out]
      go_wp2
      go_ret
      exact ⟨rfl, H.out.2⟩
/-- An automaton's block. -/
abbrev AB (x : AutV) (A : Option Addr) (c : Nat) (B : Option Addr) (d : Nat) : Obj := .cells (ac x A c B d) 77 (0, 0)
section
variable {ops : Array Oper} {rest : List Oper} {o : Oper} {a : Act} {w : World} {Q : Exit → Act → World → Prop}
/-- An automaton is loaded, guarded or not. -/
theorem ld_au (x : Operand) (ho : o.op = .load 77 x) (g : Nat) (hx : a.eval x = .pointer (some ⟨g, 0, none⟩)) {y : AutV} {A : Option Addr} {c : Nat} {B : Option Addr} {d : Nat} (hg : w.heap[g]? = some (AB y A c B d)) (hw : Region.wanted o (yielded ops a.tmps) = true)
    (h : wpList Try.prog ops Q rest (a.put o.dst (.agg (ac y A c B d))) w) : wpList Try.prog ops Q (o :: rest) a w :=
  wpList_step fun K hK => by
    rw [if_pos hw]
    exact wp_load_row 77 x ho g hx _ _ _ _ hg Try.underlying77 rfl (by kernel_rfl) (hK _ _ h)
end
set_option maxRecDepth 100000 in
theorem letters_any (x : AutV) (A : Option Addr) (c : Nat) (B : Option Addr) (d : Nat) (v : ByteArray) (w : World) :
    Calls Try.prog 79 #[.agg (ac x A c B d), .string v] w fun e w' => e = .returned (.int .i64 (wrdE x.k v)) ∧ Below w.heap.size w w' := by
  go_enter Try.func79, Try.ntmps79
  go_wp2_with fail
  refine (word_any x.k v _).mono ?_
  rintro e w1 ⟨rfl, hb⟩
  go_wp2
  go_ret
  exact ⟨rfl, bl_then (bl_alloc (Below.refl _ _) _) hb⟩
/-- What Run answers. -/
noncomputable def runV (x : AutV) (s : Int) (v : ByteArray) : Nat := if autE x = 0 ∧ 0 ≤ s ∧ s < x.acc.length ∧ wrdE x.k v = 0 then fol x s.toNat v.data.toList else 0
noncomputable def runE (x : AutV) (s : Int) (v : ByteArray) : Int := if autE x = 0 then (if 0 ≤ s ∧ s < x.acc.length then wrdE x.k v else 11) else 80
theorem wrdE_ok {k : Int} {v : ByteArray} (h : wrdE k v = 0) : letB k v = true := by
  unfold wrdE at h
  split at h
  · cases h
  · split at h
    · assumption
    · cases h
theorem autE_is {x : AutV} (h : autE x = 0) : AutOk x := Classical.byContradiction fun hn => by rw [autE_no hn] at h; cases h
set_option maxRecDepth 100000 in
set_option maxHeartbeats 4000000 in
theorem run_any (x : AutV) (A : Option Addr) (c : Nat) (B : Option Addr) (d : Nat) (s : Int) (v : ByteArray) (hv : v.size ≤ 4611686018427387904) (w : World) (hr : ARd w x A B) :
    Calls Try.prog 70 #[.agg (ac x A c B d), .int .i64 s, .string v] w fun e w' => e = .returned (.tuple #[.int .i64 ((runV x s v : Nat) : Int), .int .i64 (runE x s v)]) ∧ Below w.heap.size w w' := by
  have HR := Aside0.mk hr
  have HV := Lib.hid hv
  have H0 := Lib.hid (hp_new (w := w) (o := AB x A c B d) rfl)
  have HB0 := Lib.hid (bl_alloc (Below.refl w.heap.size w) (AB x A c B d))
  have CK := Aside0.mk (acheck_any x A c B d (w.alloc (AB x A c B d)) (hr.below (bl_alloc (Below.refl _ _) _)))
  clear hr hv
  by_cases h0 : autE x = 0
  · have HX := Lib.hid (autE_is h0)
    rw [h0] at CK
    by_cases h1 : 0 ≤ s ∧ s < x.acc.length
    · obtain ⟨h10, h11⟩ := h1
      have hd1 : decide (s < 0) = false := by simp; omega
      have hd2 : decide ((x.acc.length : Int) ≤ s) = false := by simp; omega
      by_cases h2 : wrdE x.k v = 0
      · have e1 : runV x s v = fol x s.toNat v.data.toList := by unfold runV; rw [if_pos ⟨h0, h10, h11, h2⟩]
        have e2 : runE x s v = 0 := by unfold runE; rw [if_pos h0, if_pos ⟨h10, h11⟩, h2]
        rw [e1, e2]
        obtain ⟨q, rfl⟩ := Int.eq_ofNat_of_zero_le h10
        rw [Int.toNat_natCast]
        have LT := Aside0.mk (letters_any x A c B d v)
        rw [h2] at LT
        have FO := Aside0.mk (fun (W : World) (hR : ARd W x A B) => follow_any x A c B d q v W hR HX.out (by omega) (wrdE_ok h2) HV.out)
        generalize fol x q v.data.toList = f at *
        clear h0 h2 e1 e2
        go_enter Try.func70, Try.ntmps70
        go_wp2_with (refine ld_au _ rfl w.heap.size rfl H0.out rfl ?_)
        refine CK.out.mono ?_
        rintro e w1 ⟨rfl, hb⟩
        have H1 := Lib.hid (hp_below' hb H0.out); have HB1 := Lib.hid (bl_then HB0.out hb)
        have c1 : w1.cell? ⟨w.heap.size, 2, none⟩ = some (.slice B x.acc.length d) := by rw [cell_of_row _ _ _ _ _ _ H1.out]; rfl
        clear hb CK
        go_wp2_with (refine ld_au _ rfl w.heap.size rfl H1.out rfl ?_)
        refine (LT.out _).mono ?_
        rintro e w2 ⟨rfl, hb⟩
        have H2 := Lib.hid (hp_below' hb H1.out); have HB2 := Lib.hid (bl_then HB1.out hb)
        clear hb LT c1
        go_wp2_with (refine ld_au _ rfl w.heap.size rfl H2.out rfl ?_)
        refine (FO.out _ (HR.out.below HB2.out)).mono ?_
        rintro e w3 ⟨rfl, hb⟩
        have HB3 := Lib.hid (bl_then HB2.out hb)
        clear hb FO
        go_wp2
        go_ret2
        exact ⟨rfl, HB3.out⟩
      · have e1 : runV x s v = 0 := by unfold runV; rw [if_neg (fun h => h2 h.2.2.2)]
        have e2 : runE x s v = wrdE x.k v := by unfold runE; rw [if_pos h0, if_pos ⟨h10, h11⟩]
        rw [e1, e2]
        have LT := Aside0.mk (letters_any x A c B d v)
        have hne : (wrdE x.k v != 0) = true := by rw [bne_iff_ne]; exact h2
        generalize wrdE x.k v = we at *
        clear h0 h2 e1 e2
        go_enter Try.func70, Try.ntmps70
        go_wp2_with (refine ld_au _ rfl w.heap.size rfl H0.out rfl ?_)
        refine CK.out.mono ?_
        rintro e w1 ⟨rfl, hb⟩
        have H1 := Lib.hid (hp_below' hb H0.out); have HB1 := Lib.hid (bl_then HB0.out hb)
        have c1 : w1.cell? ⟨w.heap.size, 2, none⟩ = some (.slice B x.acc.length d) := by rw [cell_of_row _ _ _ _ _ _ H1.out]; rfl
        clear hb CK
        go_wp2_with (refine ld_au _ rfl w.heap.size rfl H1.out rfl ?_)
        refine (LT.out _).mono ?_
        rintro e w2 ⟨rfl, hb⟩
        have HB2 := Lib.hid (bl_then HB1.out hb)
        clear hb LT c1
        go_wp2
        go_ret2
        exact ⟨rfl, HB2.out⟩
    · have e1 : runV x s v = 0 := by unfold runV; rw [if_neg (fun h => h1 ⟨h.2.1, h.2.2.1⟩)]
      have e2 : runE x s v = 11 := by unfold runE; rw [if_pos h0, if_neg h1]
      rw [e1, e2]
      clear h0 e1 e2
      have hd : (decide (s < 0) = true) ∨ (decide (s < 0) = false ∧ decide ((x.acc.length : Int) ≤ s) = true) := by
        by_cases h : s < 0
        · exact .inl (by simpa using h)
        · exact .inr ⟨by simpa using h, by simp; omega⟩
      rcases hd with hd | ⟨hd, hd2⟩
      all_goals
        go_enter Try.func70, Try.ntmps70
        go_wp2_with (refine ld_au _ rfl w.heap.size rfl H0.out rfl ?_)
        refine CK.out.mono ?_
        rintro e w1 ⟨rfl, hb⟩
        have H1 := Lib.hid (hp_below' hb H0.out); have HB1 := Lib.hid (bl_then HB0.out hb)
        have c1 : w1.cell? ⟨w.heap.size, 2, none⟩ = some (.slice B x.acc.length d) := by rw [cell_of_row _ _ _ _ _ _ H1.out]; rfl
        clear hb
        go_wp2
        go_ret2
        exact ⟨rfl, HB1.out⟩
  · have h80 : autE x = 80 := autE_no (fun h => h0 (autE_ok h))
    have e1 : runV x s v = 0 := by unfold runV; rw [if_neg (fun h => h0 h.1)]
    have e2 : runE x s v = 80 := by unfold runE; rw [if_neg h0]
    rw [h80] at CK
    rw [e1, e2]
    clear h0 h80 e1 e2
    go_enter Try.func70, Try.ntmps70
    go_wp2_with (refine ld_au _ rfl w.heap.size rfl H0.out rfl ?_)
    refine CK.out.mono ?_
    rintro e w1 ⟨rfl, hb⟩
    have HB1 := Lib.hid (bl_then HB0.out hb)
    clear hb CK
    go_wp2
    go_ret2
    exact ⟨rfl, HB1.out⟩
end Go.Proofs.Ytpebnldoimoahaa

namespace Go.Proofs.Ytpebnldoimoahaa
open Go.ChangeShapes Go.WideShapes Go.ChangeAt Go.RowKit Go.Deep Go.Proofs.YtpebnldoimoahaaW.PrintWords
section
variable {H : Type} {enc : TypeId × Value → H} {W : World}
theorem row_ints {P : Program} {t e : TypeId} {fuel : Nat} {cs : List Value} {y : DataW H × List MemPlace} (ht : P.underlying t = some (.slice e)) (he : P.underlying e = some (.int .i64)) (hc : P.cellsOf e = 1)
    (hf : DataW.trod enc P W 0 (fun _ => true) true fuel t cs = some y) : ∃ A c l, cs = [.slice A (List.length l) c] ∧ Kd.C (Kd.int .i64) W A l.length l ∧ (∀ x ∈ l, -9223372036854775808 ≤ x ∧ x ≤ 9223372036854775807) := by
  rcases open_ints ht he hc hf with ⟨hcs, _⟩ | ⟨x, n, c, zs, hcs, _, hl, hm, hz, _, hcell, hwz⟩
  · exact ⟨none, 0, [], hcs, Kd.C_nil _ _, by simp⟩
  · have hz : zs.length = c := by simpa using hz
    have hlen : (zs.take n).length = n := by rw [List.length_take]; omega
    refine ⟨some x, c, zs.take n, by rw [hlen]; exact hcs, ?_, ?_⟩
    · rw [hlen]
      refine Kd.C_of_reads (enc := Value.int .i64) (d := (0 : Int)) (h1 := fun _ => rfl) ⟨hlen, by unfold maxLen at hm; omega, fun _ => ⟨x, rfl, fun j hj => ?_⟩⟩
      rw [hcell j (by omega)]
      congr 1
      simp [List.getD_eq_getElem?_getD, hj]
    · intro y hy
      exact bounds_i64 (hwz y (List.mem_of_mem_take hy))
theorem row_bools {P : Program} {t e : TypeId} {fuel : Nat} {cs : List Value} {y : DataW H × List MemPlace} (ht : P.underlying t = some (.slice e)) (he : P.underlying e = some .bool) (hc : P.cellsOf e = 1)
    (hf : DataW.trod enc P W 0 (fun _ => true) true fuel t cs = some y) : ∃ A c l, cs = [.slice A (List.length l) c] ∧ Kd.C Kd.bool W A l.length l := by
  rcases open_bools ht he hc hf with ⟨hcs, _⟩ | ⟨x, n, c, z, hcs, _, hl, hm, _, hcell⟩
  · exact ⟨none, 0, [], hcs, Kd.C_nil _ _⟩
  · have hlen : ((List.range n).map z).length = n := by simp
    refine ⟨some x, c, (List.range n).map z, by rw [hlen]; exact hcs, ?_⟩
    rw [hlen]
    refine Kd.C_of_reads (enc := Value.bool) (d := false) (h1 := fun _ => rfl) ⟨hlen, by unfold maxLen at hm; omega, fun _ => ⟨x, rfl, fun j hj => ?_⟩⟩
    rw [hcell j (by omega)]
    congr 1
    simp [List.getD_eq_getElem?_getD, hj]
set_option maxRecDepth 100000 in
theorem open_auto {base : Nat} {v : Value} {d : DataW H} {p : List MemPlace}
    (hval : Value.okWide Try.prog W .any base 77 v) (h : DataW.Trod enc Try.prog W 0 (fun _ => true) true 77 v d p) :
    ∃ x A c B e, v = .agg (ac x A c B e) ∧ ARd W x A B ∧ (-9223372036854775808 ≤ x.k ∧ x.k ≤ 9223372036854775807) ∧ (∀ y ∈ x.next, -9223372036854775808 ≤ y ∧ y ≤ 9223372036854775807) := by
  have hv : ∃ cs : Array Value, v = .agg cs := by
    unfold Value.okWide at hval
    rw [Try.underlying77] at hval
    obtain ⟨cs, hcs, _⟩ := hval
    exact ⟨cs, hcs⟩
  obtain ⟨cs, rfl⟩ := hv
  obtain ⟨fuel, hf⟩ := h
  obtain ⟨xs, m, rfl, hx, hlen, hxl, hfs⟩ := DataW.trod_struct Try.underlying77 hf
  have hlen : cs.toList.length = 3 := by
    have h8 : Try.prog.cellsOf 77 = 3 := by kernel_rfl
    rw [← h8]; exact hlen
  have h0 := hfs 0 _ rfl
  have h1 := hfs 1 _ rfl
  have h2 := hfs 2 _ rfl
  change DataW.trod enc Try.prog W 0 (fun _ => true) true m 3 ((cs.toList.drop 0).take (Try.prog.cellsOf 3)) = _ at h0
  change DataW.trod enc Try.prog W 0 (fun _ => true) true m 22 ((cs.toList.drop 1).take (Try.prog.cellsOf 22)) = _ at h1
  change DataW.trod enc Try.prog W 0 (fun _ => true) true m 75 ((cs.toList.drop 2).take (Try.prog.cellsOf 75)) = _ at h2
  rw [show Try.prog.cellsOf 3 = 1 from by kernel_rfl] at h0
  rw [show Try.prog.cellsOf 22 = 1 from by kernel_rfl] at h1
  rw [show Try.prog.cellsOf 75 = 1 from by kernel_rfl] at h2
  have ex : ∀ i, i < 3 → ∃ y, xs[i]? = some y := fun i hi => ⟨_, List.getElem?_eq_getElem (by rw [hxl]; exact hi)⟩
  obtain ⟨y0, e0⟩ := ex 0 (by decide)
  obtain ⟨y1, e1⟩ := ex 1 (by decide)
  obtain ⟨y2, e2⟩ := ex 2 (by decide)
  obtain ⟨n, hn, _, wn⟩ := DataW.trod_int Try.underlying3 (h0.trans e0)
  obtain ⟨A, c, l, hl, hA, bA⟩ := row_ints Try.underlying22 Try.underlying3 (by kernel_rfl) (h1.trans e1)
  obtain ⟨B, e, b, hb, hB⟩ := row_bools Try.underlying75 Try.underlying4 (by kernel_rfl) (h2.trans e2)
  refine ⟨⟨n, l, b⟩, A, c, B, e, ?_, ⟨hA, hB⟩, bounds_i64 wn, bA⟩
  congr 1
  apply Array.toList_inj.1
  match h : cs.toList, hlen with
  | [u0, u1, u2], _ =>
    rw [h] at hn hl hb
    simp only [List.drop_zero, List.drop_succ_cons, List.take_succ_cons, List.take_zero, List.cons.injEq, and_true] at hn hl hb
    rw [hn, hl, hb]
end
end Go.Proofs.Ytpebnldoimoahaa

namespace Go.Proofs.Ytpebnldoimoahaa
open Go.RowKit Go.Proofs.YtpebnldoimoahaaW.PrintWords
set_option linter.unusedSimpArgs false
set_option linter.unusedVariables false
/-- The words of no transformation. -/
def zo : List Nat := List.replicate 7 0
theorem zo_len : zo.length = 7 := rfl
/-- What a word does. -/
def wL (x : AutV) (v : ByteArray) : List Nat := (List.range x.acc.length).map fun s => fol x s v.data.toList
noncomputable def owE (x : AutV) (v : ByteArray) : Int := if autE x = 0 then (if 64 < x.acc.length then 81 else wrdE x.k v) else 80
noncomputable def owN (x : AutV) (v : ByteArray) : Int := if owE x v = 0 then x.acc.length else 0
noncomputable def owW (x : AutV) (v : ByteArray) : List Nat := if owE x v = 0 then pks (wL x v) x.acc.length else zo
theorem owW_len (x : AutV) (v : ByteArray) : (owW x v).length = 7 := by unfold owW; split; exact pks_len _ _; rfl
theorem wrdE_in {x : AutV} (h : AutOk x) (v : ByteArray) : wrdE x.k v = if letB x.k v then 0 else 21 := by
  unfold wrdE
  rw [if_neg (by have := h.1; have := h.2.1; omega)]
/-- Its images so far. -/
def wim (x : AutV) (v : ByteArray) (k : Nat) : List Nat := (List.range 64).map fun i => if i < k then fol x i v.data.toList else 0
theorem wim_len (x : AutV) (v : ByteArray) (k : Nat) : (wim x v k).length = 64 := by simp [wim]
theorem wim_zero (x : AutV) (v : ByteArray) : wim x v 0 = List.replicate 64 0 := by
  apply List.ext_getElem (by simp [wim])
  intro i h1 h2
  rw [List.getElem_replicate]
  simp [wim]
theorem wim_set (x : AutV) (v : ByteArray) (k : Nat) : (wim x v k).set k (fol x k v.data.toList) = wim x v (k + 1) := by
  apply List.ext_getElem (by simp [wim])
  intro i h1 h2
  simp only [wim, List.getElem_set, List.getElem_map, List.getElem_range]
  by_cases e : k = i
  · subst e; simp
  · rw [if_neg e]
    by_cases h : i < k
    · rw [if_pos h, if_pos (by omega)]
    · rw [if_neg h, if_neg (by omega)]
theorem wim_getD (x : AutV) (v : ByteArray) (k i : Nat) (h : i < 64) : (wim x v k).getD i 0 = if i < k then fol x i v.data.toList else 0 := by simp [wim, h]
theorem wim_lt {x : AutV} {v : ByteArray} (hx : AutOk x) (hv : letB x.k v = true) (hm : x.acc.length ≤ 64) (k : Nat) (hk : k ≤ x.acc.length) (i : Nat) : (wim x v k).getD i 0 < 64 := by
  by_cases hi : i < 64
  · rw [wim_getD _ _ _ _ hi]
    split
    · have h := fol_lt hx (show i < x.acc.length by omega) hv v.size (Nat.le_refl _)
      rw [List.take_of_length_le (by simp)] at h
      omega
    · omega
  · rw [List.getD_eq_getElem?_getD, List.getElem?_eq_none (by rw [wim_len]; omega)]; decide
theorem wim_end {x : AutV} {v : ByteArray} (hm : x.acc.length ≤ 64) : pks (wim x v x.acc.length) x.acc.length = pks (wL x v) x.acc.length := pks_ext _ _ _ fun j hj => by
  rw [wim_getD _ _ _ _ (by omega), if_pos hj]
  simp [wL, hj]
set_option maxRecDepth 100000 in
set_option maxHeartbeats 4000000 in
theorem ofword_any (x : AutV) (A : Option Addr) (c : Nat) (B : Option Addr) (d : Nat) (v : ByteArray) (hv : v.size ≤ 4611686018427387904) (w : World) (hr : ARd w x A B) :
    Calls Try.prog 38 #[.agg (ac x A c B d), .string v] w fun e w' => e = .returned (.tuple #[.agg (tvv (owN x v) (owW x v)), .int .i64 (owE x v)]) ∧ Below w.heap.size w w' := by
  have HR := Aside0.mk hr
  have HV := Lib.hid hv
  have H0 := Lib.hid (hp_old (o := .cells (tvv 0 zo) 26) (hp_new (w := w) (o := AB x A c B d) rfl))
  have HB0 := Lib.hid (bl_alloc (bl_alloc (Below.refl w.heap.size w) (AB x A c B d)) (.cells (tvv 0 zo) 26))
  have CK := Aside0.mk (acheck_any x A c B d ((w.alloc (AB x A c B d)).alloc (.cells (tvv 0 zo) 26)) (hr.below HB0.out))
  have A0 : Hid (((w.alloc (AB x A c B d)).alloc (.cells (tvv 0 zo) 26)).heap[w.heap.size + 1]? = some (.cells (tvv 0 zo) 26 (0, 0))) := Lib.hid (hp_new (by simp))
  have HZ : Hid (tvv 0 zo = #[.int .i64 0, .int .u64 0, .int .u64 0, .int .u64 0, .int .u64 0, .int .u64 0, .int .u64 0, .int .u64 0]) := Lib.hid (tvv_zeros 0)
  rw [HZ.out] at H0 HB0 CK A0
  clear hr hv
  by_cases h0 : autE x = 0
  · have hx := autE_is h0
    have HX := Lib.hid hx
    rw [h0] at CK
    have hm1 : 1 ≤ x.acc.length := hx.2.2.1
    by_cases h64 : 64 < x.acc.length
    · have e3 : owE x v = 81 := by unfold owE; rw [if_pos h0, if_pos h64]
      have e1 : owN x v = 0 := by unfold owN; rw [e3]; rfl
      have e2 : owW x v = zo := by unfold owW; rw [e3]; rfl
      rw [e1, e2, e3]
      clear h0 e1 e2 e3 hx
      go_enter Try.func38, Try.ntmps38
      go_wp2_with (refine ld_au _ rfl w.heap.size rfl H0.out rfl ?_)
      refine CK.out.mono ?_
      rintro e w1 ⟨rfl, hb⟩
      have A1 := Lib.hid (hp_below' hb A0.out); have HB1 := Lib.hid (bl_then HB0.out hb); have G1 := Lib.hid (hp_below' hb H0.out)
      have c1 : w1.cell? ⟨w.heap.size, 2, none⟩ = some (.slice B x.acc.length d) := by rw [cell_of_row _ _ _ _ _ _ G1.out]; rfl
      clear hb CK
      go_wp2_with (refine st_tr (w.heap.size + 1) zo_len A1.out rfl rfl _ _ rfl rfl rfl ?_)
      refine bodyPost_ret (v := .tuple #[.agg (tvv 0 zo), .int .i64 81]) ?_ rfl ⟨rfl, bl_row HB1.out (by omega) _⟩
      refine (results_cell_tmp (p := 4) (t := 5) (by rfl) _ _ (w.heap.size + 1) 26 _ _ _ ?_ (setRow_heap _ _ _ _ _ _ A1.out) Try.underlying26 rfl (tr_z _ _ zo_len)).trans ?_ <;> rfl
    · have hm : x.acc.length ≤ 64 := by omega
      have e3 : owE x v = wrdE x.k v := by unfold owE; rw [if_pos h0, if_neg h64]
      cases hl : letB x.k v
      · have e4 : wrdE x.k v = 21 := by rw [wrdE_in hx, hl]; rfl
        rw [e4] at e3
        have e1 : owN x v = 0 := by unfold owN; rw [e3]; rfl
        have e2 : owW x v = zo := by unfold owW; rw [e3]; rfl
        rw [e1, e2, e3]
        have RU := Aside0.mk (fun (W : World) (hR : ARd W x A B) => run_any x A c B d 0 v HV.out W hR)
        have r1 : runV x 0 v = 0 := by unfold runV; rw [if_neg (fun h => by rw [e4] at h; exact absurd h.2.2.2 (by decide))]
        have r2 : runE x 0 v = 21 := by unfold runE; rw [if_pos h0, if_pos ⟨by omega, by omega⟩, e4]
        rw [r1, r2] at RU
        clear h0 e1 e2 e3 e4 hx hl r1 r2
        go_enter Try.func38, Try.ntmps38
        go_wp2_with (refine ld_au _ rfl w.heap.size rfl H0.out rfl ?_)
        refine CK.out.mono ?_
        rintro e w1 ⟨rfl, hb⟩
        have A1 := Lib.hid (hp_below' hb A0.out); have HB1 := Lib.hid (bl_then HB0.out hb); have G1 := Lib.hid (hp_below' hb H0.out)
        have c1 : w1.cell? ⟨w.heap.size, 2, none⟩ = some (.slice B x.acc.length d) := by rw [cell_of_row _ _ _ _ _ _ G1.out]; rfl
        clear hb CK
        have hlt := hp_lt G1.out
        go_wp2
        go_loopw [25] (fun i wr => i = .int .i64 0 ∧ Hid (Below w1.heap.size w1 wr)) (fun _ _ => 0)
        case atStart => exact ⟨rfl, Lib.hid (bl_alloc (Below.refl _ _) _)⟩
        case round =>
          obtain ⟨rfl, H⟩ := hrel
          have G2 := Lib.hid (hp_below' H.out G1.out)
          clear c1
          go_wp2_with (refine ld_au _ rfl w.heap.size rfl G2.out rfl ?_)
          refine (RU.out _ (HR.out.below (bl_then HB1.out H.out))).mono ?_
          rintro e w2 ⟨rfl, hb⟩
          have A2 := Lib.hid (hp_below' hb (hp_below' H.out A1.out)); have HB2 := Lib.hid (bl_then (bl_then HB1.out H.out) hb)
          clear hb RU
          go_wp2_with (refine st_tr (w.heap.size + 1) zo_len A2.out rfl rfl _ _ rfl rfl rfl ?_)
          refine bodyPost_ret (v := .tuple #[.agg (tvv 0 zo), .int .i64 21]) ?_ rfl ⟨rfl, bl_row HB2.out (by omega) _⟩
          refine (results_cell_tmp (p := 4) (t := 5) (by rfl) _ _ (w.heap.size + 1) 26 _ _ _ ?_ (setRow_heap _ _ _ _ _ _ A2.out) Try.underlying26 rfl (tr_z _ _ zo_len)).trans ?_ <;> rfl
      · have e4 : wrdE x.k v = 0 := by rw [wrdE_in hx, hl]; rfl
        rw [e4] at e3
        have e1 : owN x v = x.acc.length := by unfold owN; rw [e3]; rfl
        have e2 : owW x v = pks (wL x v) x.acc.length := by unfold owW; rw [e3]; rfl
        rw [e1, e2, e3]
        have RU := Aside0.mk (fun (s : Nat) (hs : s < x.acc.length) (W : World) (hR : ARd W x A B) => by
          have h := run_any x A c B d s v HV.out W hR
          rw [show runV x s v = fol x s v.data.toList by unfold runV; rw [if_pos ⟨h0, by omega, by omega, e4⟩, Int.toNat_natCast], show runE x s v = 0 by unfold runE; rw [if_pos h0, if_pos ⟨by omega, by omega⟩, e4]] at h
          exact h)
        have HWL := Lib.hid (fun k hk => wim_lt hx hl hm k hk)
        have HWE := Lib.hid (wim_end (x := x) (v := v) hm)
        have HPL := Lib.hid (pks_len (wL x v) x.acc.length)
        generalize pks (wL x v) x.acc.length = W7 at *
        clear h0 e1 e2 e3 e4 hx hl h64
        go_enter Try.func38, Try.ntmps38
        go_wp2_with (refine ld_au _ rfl w.heap.size rfl H0.out rfl ?_)
        refine CK.out.mono ?_
        rintro e w1 ⟨rfl, hb⟩
        have A1 := Lib.hid (hp_below' hb A0.out); have HB1 := Lib.hid (bl_then HB0.out hb); have G1 := Lib.hid (hp_below' hb H0.out)
        have c1 : w1.cell? ⟨w.heap.size, 2, none⟩ = some (.slice B x.acc.length d) := by rw [cell_of_row _ _ _ _ _ _ G1.out]; rfl
        clear hb CK
        have hlt := hp_lt G1.out
        go_wp2
        clear c1
        have HW1 := hp_lt A1.out
        go_loopw [25] (fun i wr => ∃ k : Nat, k ≤ x.acc.length ∧ i = .int .i64 k ∧ Hid (wr.heap[w1.heap.size]? = some (.cells (img (wim x v k)) 98 (0, 0)) ∧ Below w1.heap.size w1 wr)) (fun i _ => x.acc.length - (intOf i).toNat)
        case atStart =>
          refine ⟨0, by omega, rfl, Lib.hid ⟨?_, bl_alloc (Below.refl _ _) _⟩⟩
          rw [wim_zero, ← zeros_img]; exact hp_new rfl
        case round =>
          obtain ⟨k, hk, rfl, H⟩ := hrel
          have G2 := Lib.hid (hp_below' H.out.2 G1.out)
          by_cases hkm : k < x.acc.length
          · go_wp2_with (refine ld_au _ rfl w.heap.size rfl G2.out rfl ?_)
            refine (RU.out k hkm _ (HR.out.below (bl_then HB1.out H.out.2))).mono ?_
            rintro e w2 ⟨rfl, hb⟩
            have h1 := hp_below' hb H.out.1
            have h2 := bl_then H.out.2 hb
            have HS : Hid ((w2.setCell ⟨w1.heap.size, k, none⟩ (.int .i64 ((fol x k v.data.toList : Nat) : Int))).heap[w1.heap.size]? = some (.cells (img (wim x v (k + 1))) 98 (0, 0)) ∧ Below w1.heap.size w1 (w2.setCell ⟨w1.heap.size, k, none⟩ (.int .i64 ((fol x k v.data.toList : Nat) : Int)))) := by
              refine Lib.hid ⟨?_, bl_cell h2 (by show w1.heap.size ≤ w1.heap.size; omega) _⟩
              rw [heap_setCell_same _ _ _ _ _ _ h1, img_set, wim_set]
            have d1 : w2.cell? ⟨w1.heap.size, k, none⟩ = some (.int .i64 (((wim x v k).getD k 0 : Nat) : Int)) := by rw [cell_of_row _ _ _ _ _ _ h1, img_get _ _ (by rw [wim_len]; omega)]
            have f1 : w2.frozen? ⟨w1.heap.size, k, none⟩ = false := frozen_of_row _ _ _ _ _ h1
            clear hb H h1 h2
            generalize (wim x v k).getD k 0 = z at *
            generalize fol x k v.data.toList = y at *
            go_wp2
            go_roundw
            case rel => exact ⟨k + 1, by omega, by go_num, HS⟩
            case measure => simp [intOf]; omega
          · have e8 : k = x.acc.length := by omega
            have hw := HWL.out k (by omega)
            have PK := Aside0.mk (pack_any k (wim x v k) (by omega) (wim_len _ _ _) hw)
            rw [e8] at PK
            rw [HWE.out] at PK
            have c2 : wr.cell? ⟨w.heap.size, 2, none⟩ = some (.slice B x.acc.length d) := by rw [cell_of_row _ _ _ _ _ _ G2.out]; rfl
            have A2 := Lib.hid (hp_below' H.out.2 A1.out)
            rw [e8] at H
            subst e8
            go_wp2_with (refine ld_im w1.heap.size (wim_len _ _ _) H.out.1 rfl _ rfl rfl ?_)
            refine (PK.out _).mono ?_
            rintro e w3 ⟨rfl, hb⟩
            have A3 := Lib.hid (hp_below' hb A2.out); have HB3 := Lib.hid (bl_then (bl_then HB1.out H.out.2) hb)
            clear hb PK
            go_wp2_with (refine st_tr (w.heap.size + 1) HPL.out A3.out rfl rfl _ _ rfl rfl rfl ?_)
            refine bodyPost_ret (v := .tuple #[.agg (tvv x.acc.length W7), .int .i64 0]) ?_ rfl ⟨rfl, bl_row HB3.out (by omega) _⟩
            refine (results_cell_tmp (p := 4) (t := 5) (by rfl) _ _ (w.heap.size + 1) 26 _ _ _ ?_ (setRow_heap _ _ _ _ _ _ A3.out) Try.underlying26 rfl (tr_z _ _ HPL.out)).trans ?_ <;> rfl
  · have h80 : autE x = 80 := autE_no (fun h => h0 (autE_ok h))
    have e3 : owE x v = 80 := by unfold owE; rw [if_neg h0]
    have e1 : owN x v = 0 := by unfold owN; rw [e3]; rfl
    have e2 : owW x v = zo := by unfold owW; rw [e3]; rfl
    rw [h80] at CK
    rw [e1, e2, e3]
    clear h0 h80 e1 e2 e3
    go_enter Try.func38, Try.ntmps38
    go_wp2_with (refine ld_au _ rfl w.heap.size rfl H0.out rfl ?_)
    refine CK.out.mono ?_
    rintro e w1 ⟨rfl, hb⟩
    have A1 := Lib.hid (hp_below' hb A0.out); have HB1 := Lib.hid (bl_then HB0.out hb)
    clear hb CK
    go_wp2_with (refine st_tr (w.heap.size + 1) zo_len A1.out rfl rfl _ _ rfl rfl rfl ?_)
    refine bodyPost_ret (v := .tuple #[.agg (tvv 0 zo), .int .i64 80]) ?_ rfl ⟨rfl, bl_row HB1.out (by omega) _⟩
    refine (results_cell_tmp (p := 4) (t := 5) (by rfl) _ _ (w.heap.size + 1) 26 _ _ _ ?_ (setRow_heap _ _ _ _ _ _ A1.out) Try.underlying26 rfl (tr_z _ _ zo_len)).trans ?_ <;> rfl
end Go.Proofs.Ytpebnldoimoahaa


namespace Go.Proofs.Ytpebnldoimoahaa
open Go.ChangeShapes Go.WideShapes Go.ChangeAt Go.RowKit Go.Deep Go.Proofs.YtpebnldoimoahaaW.PrintWords
section
variable {H : Type} {enc : TypeId × Value → H} {W : World}
theorem row_ints2 {P : Program} {t e : TypeId} {fuel : Nat} {cs : List Value} {y : DataW H × List MemPlace} (ht : P.underlying t = some (.slice e)) (he : P.underlying e = some (.int .i64)) (hc : P.cellsOf e = 1) (hb : P.bytesOf e = 8)
    (hf : DataW.trod enc P W 0 (fun _ => true) true fuel t cs = some y) (hs : (y.1.weights P t).all (· ≤ reachBytes) = true) : ∃ A c l, cs = [.slice A (List.length l) c] ∧ Kd.C (Kd.int .i64) W A l.length l ∧ l.length ≤ c ∧ l.length * 8 ≤ 140737488351232 := by
  rcases open_ints ht he hc hf with ⟨hcs, _⟩ | ⟨x, n, c, zs, hcs, _, hl, hm, hz, hy, hcell, hwz⟩
  · exact ⟨none, 0, [], hcs, Kd.C_nil _ _, by simp, by simp⟩
  · have hz : zs.length = c := by simpa using hz
    have hlen : (zs.take n).length = n := by rw [List.length_take]; omega
    have hw : n * 8 ≤ 140737488351232 := by
      subst hy
      have h1 := List.all_eq_true.1 hs ((lits (H := H) .i64 (zs.take n)).length * 8 + (lits (H := H) .i64 (zs.drop n)).length * 8) (by
        simp only [DataW.weights, ht, hb]
        rw [Nat.add_mul]
        exact List.mem_cons_self)
      have h2 : (lits (H := H) .i64 (zs.take n)).length = n := by simp [lits]; omega
      rw [h2] at h1
      have h3 := of_decide_eq_true h1
      have h4 : reachBytes = 140737488351232 := by decide
      omega
    refine ⟨some x, c, zs.take n, by rw [hlen]; exact hcs, ?_, by rw [hlen]; exact hl, by rw [hlen]; exact hw⟩
    rw [hlen]
    refine Kd.C_of_reads (enc := Value.int .i64) (d := (0 : Int)) (h1 := fun _ => rfl) ⟨hlen, by unfold maxLen at hm; omega, fun _ => ⟨x, rfl, fun j hj => ?_⟩⟩
    rw [hcell j (by omega)]
    congr 1
    simp [List.getD_eq_getElem?_getD, hj]
theorem row_bools2 {P : Program} {t e : TypeId} {fuel : Nat} {cs : List Value} {y : DataW H × List MemPlace} (ht : P.underlying t = some (.slice e)) (he : P.underlying e = some .bool) (hc : P.cellsOf e = 1) (hb : P.bytesOf e = 1)
    (hf : DataW.trod enc P W 0 (fun _ => true) true fuel t cs = some y) (hs : (y.1.weights P t).all (· ≤ reachBytes) = true) : ∃ A c l, cs = [.slice A (List.length l) c] ∧ Kd.C Kd.bool W A l.length l ∧ l.length ≤ c ∧ l.length ≤ 140737488351232 := by
  rcases open_bools ht he hc hf with ⟨hcs, _⟩ | ⟨x, n, c, z, hcs, _, hl, hm, hy, hcell⟩
  · exact ⟨none, 0, [], hcs, Kd.C_nil _ _, by simp, by simp⟩
  · have hlen : ((List.range n).map z).length = n := by simp
    have hw : n ≤ 140737488351232 := by
      subst hy
      have h3 : n + (c - n) ≤ reachBytes := by
        simp only [boolRow, DataW.weights, ht, hb, List.all_cons, Bool.and_eq_true, decide_eq_true_eq] at hs
        have := hs.1
        simp at this
        omega
      have h4 : reachBytes = 140737488351232 := by decide
      omega
    refine ⟨some x, c, (List.range n).map z, by rw [hlen]; exact hcs, ?_, by rw [hlen]; exact hl, by rw [hlen]; exact hw⟩
    rw [hlen]
    refine Kd.C_of_reads (enc := Value.bool) (d := false) (h1 := fun _ => rfl) ⟨hlen, by unfold maxLen at hm; omega, fun _ => ⟨x, rfl, fun j hj => ?_⟩⟩
    rw [hcell j (by omega)]
    congr 1
    simp [List.getD_eq_getElem?_getD, hj]
/-- What an automaton's lists may hold. -/
def AutSz (x : AutV) (c e : Nat) : Prop := x.next.length ≤ c ∧ x.acc.length ≤ e ∧ x.next.length * 8 ≤ 140737488351232 ∧ x.acc.length ≤ 140737488351232
set_option maxRecDepth 100000 in
theorem open_autoS {base : Nat} {v : Value} {d : DataW H} {p : List MemPlace} {ts : List TypeId} {ds : List (DataW H)} {j : Nat}
    (hsz : (DataW.weightsEach Try.prog ts ds).all (· ≤ reachBytes) = true) (htj : ts[j]? = some 77) (hdj : ds[j]? = some d)
    (hval : Value.okWide Try.prog W .any base 77 v) (h : DataW.Trod enc Try.prog W 0 (fun _ => true) true 77 v d p) :
    ∃ x A c B e, v = .agg (ac x A c B e) ∧ ARd W x A B ∧ AutSz x c e := by
  have hv : ∃ cs : Array Value, v = .agg cs := by
    unfold Value.okWide at hval
    rw [Try.underlying77] at hval
    obtain ⟨cs, hcs, _⟩ := hval
    exact ⟨cs, hcs⟩
  obtain ⟨cs, rfl⟩ := hv
  obtain ⟨fuel, hf⟩ := h
  obtain ⟨xs, m, rfl, hx, hlen, hxl, hfs⟩ := DataW.trod_struct Try.underlying77 hf
  have hlen : cs.toList.length = 3 := by
    have h8 : Try.prog.cellsOf 77 = 3 := by kernel_rfl
    rw [← h8]; exact hlen
  have hW : ∀ n ∈ d.weights Try.prog 77, decide (n ≤ reachBytes) = true := fun n hn => List.all_eq_true.1 hsz n (DataW.weights_mem_each htj hdj n hn)
  obtain ⟨rfl, -⟩ := Prod.mk.inj hx
  have hwt : ∀ (i : Nat) (t : TypeId) (y : DataW H × List MemPlace), [3, 22, 75][i]? = some t → xs[i]? = some y → (y.1.weights Try.prog t).all (· ≤ reachBytes) = true := fun i t y ht hy =>
    List.all_eq_true.2 fun n hn => hW n (by
      simp only [DataW.weights, Try.underlying77]
      exact DataW.weights_mem_each (j := i) (t := t) (d := y.1) ht (by rw [List.getElem?_map, hy]; rfl) n hn)
  have h0 := hfs 0 _ rfl
  have h1 := hfs 1 _ rfl
  have h2 := hfs 2 _ rfl
  change DataW.trod enc Try.prog W 0 (fun _ => true) true m 3 ((cs.toList.drop 0).take (Try.prog.cellsOf 3)) = _ at h0
  change DataW.trod enc Try.prog W 0 (fun _ => true) true m 22 ((cs.toList.drop 1).take (Try.prog.cellsOf 22)) = _ at h1
  change DataW.trod enc Try.prog W 0 (fun _ => true) true m 75 ((cs.toList.drop 2).take (Try.prog.cellsOf 75)) = _ at h2
  rw [show Try.prog.cellsOf 3 = 1 from by kernel_rfl] at h0
  rw [show Try.prog.cellsOf 22 = 1 from by kernel_rfl] at h1
  rw [show Try.prog.cellsOf 75 = 1 from by kernel_rfl] at h2
  have ex : ∀ i, i < 3 → ∃ y, xs[i]? = some y := fun i hi => ⟨_, List.getElem?_eq_getElem (by rw [hxl]; exact hi)⟩
  obtain ⟨y0, e0⟩ := ex 0 (by decide)
  obtain ⟨y1, e1⟩ := ex 1 (by decide)
  obtain ⟨y2, e2⟩ := ex 2 (by decide)
  obtain ⟨n, hn, _, wn⟩ := DataW.trod_int Try.underlying3 (h0.trans e0)
  obtain ⟨A, c, l, hl, hA, s1, s2⟩ := row_ints2 Try.underlying22 Try.underlying3 (by kernel_rfl) (by kernel_rfl) (h1.trans e1) (hwt 1 _ _ rfl e1)
  obtain ⟨B, e, b, hb, hB, s3, s4⟩ := row_bools2 Try.underlying75 Try.underlying4 (by kernel_rfl) (by kernel_rfl) (h2.trans e2) (hwt 2 _ _ rfl e2)
  refine ⟨⟨n, l, b⟩, A, c, B, e, ?_, ⟨hA, hB⟩, s1, s3, s2, s4⟩
  congr 1
  apply Array.toList_inj.1
  match h : cs.toList, hlen with
  | [u0, u1, u2], _ =>
    rw [h] at hn hl hb
    simp only [List.drop_zero, List.drop_succ_cons, List.take_succ_cons, List.take_zero, List.cons.injEq, and_true] at hn hl hb
    rw [hn, hl, hb]
end
end Go.Proofs.Ytpebnldoimoahaa

namespace Go.Proofs.Ytpebnldoimoahaa.PTransWords
open Go.RowKit Go.Proofs.YtpebnldoimoahaaW.PrintWords Go.Proofs.YtpebnldoimoahaaW.PrintLast Go.Proofs.YtpebnldoimoahaaW.PrintMore
attribute [local go_sem] max2_int min2_int max_two min_two max_three min_three max_four min_four   -- for this text's walks alone
set_option linter.unusedVariables false
set_option linter.unusedSimpArgs false

/-! ### eggboxref13_Does: function 71 -/
mutual
def eggboxref13_Does.l0 : Nat → ByteArray → List Int → Int → Int → List Int → List Bool → Option (List Int)
  | 0, _, _, _, _, _, _ => none
  | k + 1, x1, x5, x6, x144000, x144001, x144002 => if x6 < (x1.size : Int) then (eggboxref13_Does.l1 k x1 x5 x6 0 x144000 x144001 x144002) else (some x5)
def eggboxref13_Does.l1 : Nat → ByteArray → List Int → Int → Int → Int → List Int → List Bool → Option (List Int)
  | 0, _, _, _, _, _, _, _ => none
  | k + 1, x1, x5, x6, x7, x144000, x144001, x144002 => if x7 < (x5.length : Int) then (if 0 ≤ x7 then (if 0 ≤ x6 then (if x6 < (x1.size : Int) then (if 0 ≤ (wrap64 ((wrap64 ((rd x5 x7) * x144000)) + (((bt x1 x6) - 97) % 256))) then (if (wrap64 ((wrap64 ((rd x5 x7) * x144000)) + (((bt x1 x6) - 97) % 256))) < (x144001.length : Int) then (eggboxref13_Does.l1 k x1 (x5.set (x7 : Int).toNat (rd x144001 (wrap64 ((wrap64 ((rd x5 x7) * x144000)) + (((bt x1 x6) - 97) % 256))))) x6 (wrap64 (x7 + 1)) x144000 x144001 x144002) else (none)) else (none)) else (none)) else (none)) else (none)) else (eggboxref13_Does.l0 k x1 x5 (wrap64 (x6 + 1)) x144000 x144001 x144002)
end
def eggboxref13_Does.f (k : Nat) (a0_0 : Int) (l0_1 : List Int) (l0_2 : List Bool) (a1 : ByteArray) : Option (List Int) := (eggboxref13_rest.f k (l0_2.length : Int)).bind fun t144 => (eggboxref13_Does.l0 k a1 t144 0 a0_0 l0_1 l0_2)
theorem eggboxref13_Does.mono_l : ∀ k, (∀ y0 y1 y2 y3 y4 y5, LeO (eggboxref13_Does.l0 k y0 y1 y2 y3 y4 y5) (eggboxref13_Does.l0 (k + 1) y0 y1 y2 y3 y4 y5)) ∧ (∀ y0 y1 y2 y3 y4 y5 y6, LeO (eggboxref13_Does.l1 k y0 y1 y2 y3 y4 y5 y6) (eggboxref13_Does.l1 (k + 1) y0 y1 y2 y3 y4 y5 y6))
  | 0 => ⟨fun _ _ _ _ _ _ r h => by simp [eggboxref13_Does.l0] at h, fun _ _ _ _ _ _ _ r h => by simp [eggboxref13_Does.l1] at h⟩
  | k + 1 => by
    obtain ⟨ih0, ih1⟩ := eggboxref13_Does.mono_l k
    refine ⟨?_, ?_⟩
    · intro y0 y1 y2 y3 y4 y5
      unfold eggboxref13_Does.l0
      repeat' first
      | (with_reducible exact ih0 _ _ _ _ _ _)
      | (with_reducible exact ih1 _ _ _ _ _ _ _)
      | (with_reducible exact eggboxref13_rest.mono _ _)
      | (with_reducible exact LeO.refl _)
      | (with_reducible exact LeO.none _)
      | (with_reducible refine LeO.ite ?_ ?_)
      | (with_reducible refine LeO.bind ?_ (fun _ => ?_))
      | exact ih0 _ _ _ _ _ _
      | exact ih1 _ _ _ _ _ _ _
      | exact eggboxref13_rest.mono _ _
      | exact LeO.none _
      | refine LeO.ite ?_ ?_
      | refine LeO.bind ?_ (fun _ => ?_)
    · intro y0 y1 y2 y3 y4 y5 y6
      unfold eggboxref13_Does.l1
      repeat' first
      | (with_reducible exact ih0 _ _ _ _ _ _)
      | (with_reducible exact ih1 _ _ _ _ _ _ _)
      | (with_reducible exact eggboxref13_rest.mono _ _)
      | (with_reducible exact LeO.refl _)
      | (with_reducible exact LeO.none _)
      | (with_reducible refine LeO.ite ?_ ?_)
      | (with_reducible refine LeO.bind ?_ (fun _ => ?_))
      | exact ih0 _ _ _ _ _ _
      | exact ih1 _ _ _ _ _ _ _
      | exact eggboxref13_rest.mono _ _
      | exact LeO.none _
      | refine LeO.ite ?_ ?_
      | refine LeO.bind ?_ (fun _ => ?_)
theorem eggboxref13_Does.mono : ∀ a0 a1 a2 a3 k, LeO (eggboxref13_Does.f k a0 a1 a2 a3) (eggboxref13_Does.f (k + 1) a0 a1 a2 a3) := by
  intro a0 a1 a2 a3 k
  obtain ⟨ih0, ih1⟩ := eggboxref13_Does.mono_l k
  unfold eggboxref13_Does.f
  repeat' first
      | (with_reducible exact ih0 _ _ _ _ _ _)
      | (with_reducible exact ih1 _ _ _ _ _ _ _)
      | (with_reducible exact eggboxref13_rest.mono _ _)
      | (with_reducible exact LeO.refl _)
      | (with_reducible exact LeO.none _)
      | (with_reducible refine LeO.ite ?_ ?_)
      | (with_reducible refine LeO.bind ?_ (fun _ => ?_))
      | exact ih0 _ _ _ _ _ _
      | exact ih1 _ _ _ _ _ _ _
      | exact eggboxref13_rest.mono _ _
      | exact LeO.none _
      | refine LeO.ite ?_ ?_
      | refine LeO.bind ?_ (fun _ => ?_)
def eggboxref13_Does.T8 : Bool × List (List Nat × List Nat) := (true, [([], []), ([], []), ([], []), ([2], [2]), ([], []), ([], []), ([4, 5], [4, 5]), ([6], [6]), ([], []), ([8], [8]), ([7, 9], [7, 9]), ([], []), ([], []), ([11, 12], [11, 12]), ([13], [13]), ([14], [14]), ([10, 15], [10, 15]), ([3, 16], [3, 16]), ([17], [17]), ([0, 1, 0, 1, 2, 3, 4, 5, 6, 7, 8, 9, 10, 11, 12, 13, 14, 15, 16, 17, 18], [0, 1]), ([19, 18, 0, 1, 2, 3, 4, 5, 6, 7, 8, 9, 10, 11, 12, 13, 14, 15, 16, 17, 18], [18, 19])])
def eggboxref13_Does.B8 : List Nat := [0, 0, 0, 4, 0, 0, 48, 112, 0, 256, 1008, 0, 0, 6144, 14336, 30720, 65520, 131068, 262140, 524287, 1048575]
theorem eggboxref13_Does.tab8 : rtab .any (opsOf Try.f71 8) = eggboxref13_Does.T8 := by kernel_rfl
theorem eggboxref13_Does.bits8 : waitsOk eggboxref13_Does.T8.2 eggboxref13_Does.B8 = true := by kernel_rfl
set_option maxHeartbeats 8000000 in
set_option maxRecDepth 100000 in
theorem eggboxref13_Does.calls (k : Nat) (a0_0 : Int) (A0_1 : Option Addr) (c0_1 : Nat) (l0_1 : List Int) (A0_2 : Option Addr) (c0_2 : Nat) (l0_2 : List Bool) (a1 : ByteArray) (r : List Int) (w : World) (hr0_1 : Kd.C (Kd.int .i64) w A0_1 l0_1.length l0_1) (hc0_1 : l0_1.length ≤ c0_1) (hr0_2 : Kd.C Kd.bool w A0_2 l0_2.length l0_2) (hc0_2 : l0_2.length ≤ c0_2) (h : eggboxref13_Does.f k a0_0 l0_1 l0_2 a1 = some r) :
    Calls Try.prog 71 #[.agg #[.int .i64 a0_0, .slice A0_1 l0_1.length c0_1, .slice A0_2 l0_2.length c0_2], .string a1] w fun e w' => ∃ v0_ : Value, e = .returned (v0_) ∧ Kd.R (Kd.int .i64) 3 w' w.heap.size (fun _ => True) v0_ r ∧ Below w.heap.size w w' := by
  have hu77 := Try.underlying77
  have HR0_1 := Aside0.mk hr0_1
  have HC0_1 := Aside0.mk hc0_1
  clear hr0_1 hc0_1
  have HR0_2 := Aside0.mk hr0_2
  have HC0_2 := Aside0.mk hc0_2
  clear hr0_2 hc0_2
  have HB := Aside0.mk (Below.refl w.heap.size w)
  have H : ((eggboxref13_rest.f k (l0_2.length : Int)).bind fun t144 => (eggboxref13_Does.l0 k a1 t144 0 a0_0 l0_1 l0_2)) = some r := h
  clear h
  replace H := Option.bind_eq_some_iff.mp H
  obtain ⟨t144, A30, H⟩ := H
  replace H : (eggboxref13_Does.l0 k a1 t144 0 a0_0 l0_1 l0_2) = some r := H
  have A3 := Aside0.mk A30
  clear A30
  have H' := Aside0.mk H
  clear H
  go_enter Try.func71, Try.ntmps71
  go_wp2_with (first | ((with_reducible refine gate_dst (N := 2) rfl ?_); refine box_event ?hg (N := 2) ?hd (cs := #[.int .i64 a0_0, .slice A0_1 l0_1.length c0_1, .slice A0_2 l0_2.length c0_2]) (t := 77) ?hr ?_; (case hd => rfl); (case hg => rfl); (case hr => first | (go_simp; done) | (go_simp; rfl)); intro gb143 hg w4 hbox hb; have n0_ := Aside0.mk (below_step (by repeat (first | (with_reducible first | exact HB.out | apply below_alloc | apply pw_below_drewN | apply below_drew1) | exact HB.out)) hb); have n1_ := Aside0.mk (hbox); have n2_ := Aside0.mk ((by rw [hg]; exact (below_size (by repeat (first | (with_reducible first | exact HB.out | apply below_alloc | apply pw_below_drewN | apply below_drew1) | exact HB.out))) : w.heap.size ≤ gb143)); have n3_ := Aside0.mk ((by rw [hg]; exact (below_size (by repeat (first | (with_reducible first | exact HB.out | apply below_alloc | apply pw_below_drewN | apply below_drew1) | exact HB.out))) : w.heap.size ≤ gb143)); clear HB; have HB := n0_; have BK143 := n1_; have GW143 := n2_; have GE143 := n3_; clear n0_ n1_ n2_ n3_; clear hb hbox hg; have hcz5_0 : w4.cell? ⟨gb143, 0, none⟩ = some (.int .i64 a0_0) := (blk_cell BK143.out 0).trans rfl; have hcz5_1 : w4.cell? ⟨gb143, 1, none⟩ = some (.slice A0_1 l0_1.length c0_1) := (blk_cell BK143.out 1).trans rfl; have hcz5_2 : w4.cell? ⟨gb143, 2, none⟩ = some (.slice A0_2 l0_2.length c0_2) := (blk_cell BK143.out 2).trans rfl; have hfz5_0 := blk_frozen BK143.out 0; have hfz5_1 := blk_frozen BK143.out 1; have hfz5_2 := blk_frozen BK143.out 2) | ((with_reducible refine gate_callee (f := 59) rfl ?_); refine goesL_ (some 11) rfl rfl Try.func59 (by kernel_rfl) rfl #[.int .i64 (l0_2.length : Int)] rfl (by (try simp only [List.map_toArray, List.map_cons, List.map_nil]); first | done | rfl | (simp only [List.length_drop, List.length_take]; rfl)) ?_; (with_reducible refine (eggboxref13_rest.calls k (l0_2.length : Int) t144 _ A3.out).mono ?_); rintro e w6 ⟨v145, rfl, ho0, hb⟩; refine ⟨_, rfl, ?_⟩; have n0_ := Aside0.mk (Kd.R_lower ho0 (below_size (by repeat (first | (with_reducible first | exact HB.out | apply below_alloc | apply pw_below_drewN | apply below_drew1 | refine below_set ?_ GE143.out) | exact HB.out)))); have n1_ := Aside0.mk (blk_below (g := gb143) (o := .cells #[.int .i64 a0_0, .slice A0_1 l0_1.length c0_1, .slice A0_2 l0_2.length c0_2] 77 (0, 0)) (by (with_reducible repeat (first | refine blk_drewN ?_ _ | refine blk_drew ?_ | refine blk_alloc ?_ _)); exact BK143.out) hb); have n2_ := Aside0.mk (below_step (by repeat (first | (with_reducible first | exact HB.out | apply below_alloc | apply pw_below_drewN | apply below_drew1 | refine below_set ?_ GE143.out) | exact HB.out)) hb); clear BK143; clear HB; have HO146 := n0_; have BK143 := n1_; have HB := n2_; clear n0_ n1_ n2_; (try clear hb); (try clear hb2); (try clear hk); (try clear hi); (try clear ho0)))
  go_loopg [6] k (fun kq v6 w' => ∃ (x5_1 : List Int) (x6_1 : Int), v6 = .int .i64 x6_1 ∧ Aside0 (eggboxref13_Does.l0 kq a1 x5_1 x6_1 a0_0 l0_1 l0_2 = some r) ∧ Aside0 (kq ≤ k) ∧ Aside0 (Kd.R (Kd.int .i64) 3 w' w.heap.size (fun _ => True) v145 x5_1) ∧ Aside0 (w'.heap[gb143]? = some (.cells #[.int .i64 a0_0, (.slice A0_1 l0_1.length c0_1), (.slice A0_2 l0_2.length c0_2)] 77 (0, 0))) ∧ Aside0 (Below w.heap.size w w'))
  case atStart => exact ⟨(t144), (0), (by first | rfl | (simp; done) | (simp [*]; done)), H', ⟨Nat.le_refl _⟩, ⟨by (with_reducible repeat (first | apply Kd.R_alloc | apply Kd.R_drewN | apply Kd.R_drew)); exact HO146.out⟩, ⟨by (with_reducible repeat (first | refine blk_drewN ?_ _ | refine blk_drew ?_ | refine blk_alloc ?_ _)); exact BK143.out⟩, ⟨by repeat (first | (with_reducible first | exact HB.out | apply below_alloc | apply pw_below_drewN | apply below_drew1 | refine below_set ?_ GE143.out) | exact HB.out)⟩⟩
  case round =>
    clear H'
    try clear p2
    try clear c5
    try clear hcz5_0
    try clear hcz5_1
    try clear hcz5_2
    try clear hfz5_0
    try clear hfz5_1
    try clear hfz5_2
    obtain ⟨x5_1, x6_1, rfl, HA, HK1, HO_5, BK143, HB⟩ := hrel
    cases gk with
    | zero => exact absurd HA.out (by simp [eggboxref13_Does.l0])
    | succ k1 =>
      have H := HA.out
      clear HA
      simp only [eggboxref13_Does.l0] at H
      by_cases c7 : x6_1 < (a1.size : Int)
      · rw [if_pos c7] at H
        have c7b0 : decide (x6_1 < (a1.size : Int)) = true := decide_eq_true c7
        clear c7
        have H' := Aside0.mk H
        clear H
        go_wp2
        go_loopg [7] k1 (fun kq v7 w' => ∃ (x5_2 : List Int) (x7_2 : Int), v7 = .int .i64 x7_2 ∧ Aside0 (eggboxref13_Does.l1 kq a1 x5_2 x6_1 x7_2 a0_0 l0_1 l0_2 = some r) ∧ Aside0 (kq ≤ k1) ∧ Aside0 (Kd.R (Kd.int .i64) 3 w' w.heap.size (fun _ => True) v145 x5_2) ∧ Aside0 (w'.heap[gb143]? = some (.cells #[.int .i64 a0_0, (.slice A0_1 l0_1.length c0_1), (.slice A0_2 l0_2.length c0_2)] 77 (0, 0))) ∧ Aside0 (Below w.heap.size w w'))
        case atStart => exact ⟨(x5_1), (0), (by first | rfl | (simp; done) | (simp [*]; done)), H', ⟨Nat.le_refl _⟩, ⟨by (with_reducible repeat (first | apply Kd.R_alloc | apply Kd.R_drewN | apply Kd.R_drew)); exact HO_5.out⟩, ⟨by (with_reducible repeat (first | refine blk_drewN ?_ _ | refine blk_drew ?_ | refine blk_alloc ?_ _)); exact BK143.out⟩, ⟨by repeat (first | (with_reducible first | exact HB.out | apply below_alloc | apply pw_below_drewN | apply below_drew1 | refine below_set ?_ GE143.out) | exact HB.out)⟩⟩
        case round =>
          clear H'
          try clear p2
          try clear c5
          try clear c7
          try clear c7b0
          try clear hcz5_0
          try clear hcz5_1
          try clear hcz5_2
          try clear hfz5_0
          try clear hfz5_1
          try clear hfz5_2
          try clear p2
          obtain ⟨x5_2, x7_2, rfl, HA, HK2, HO_5, BK143, HB⟩ := hrel
          cases gk with
          | zero => exact absurd HA.out (by simp [eggboxref13_Does.l1])
          | succ k2 =>
            have H := HA.out
            clear HA
            simp only [eggboxref13_Does.l1] at H
            by_cases c8 : x7_2 < (x5_2.length : Int)
            · rw [if_pos c8] at H
              have c8b0 : decide (x7_2 < (x5_2.length : Int)) = true := decide_eq_true c8
              clear c8
              by_cases c9 : 0 ≤ x7_2
              · rw [if_pos c9] at H
                have c9b0 : decide (0 ≤ x7_2) = true := decide_eq_true c9
                clear c9
                by_cases c10 : 0 ≤ x6_1
                · rw [if_pos c10] at H
                  have c10b0 : decide (0 ≤ x6_1) = true := decide_eq_true c10
                  clear c10
                  by_cases c11 : x6_1 < (a1.size : Int)
                  · rw [if_pos c11] at H
                    have c11b0 : decide (x6_1 < (a1.size : Int)) = true := decide_eq_true c11
                    clear c11
                    obtain ⟨ji13, hji13⟩ : ∃ j_ : Int, (wrap64 ((wrap64 ((rd x5_2 x7_2) * a0_0)) + (((bt a1 x6_1) - 97) % 256))) = j_ := ⟨_, rfl⟩
                    replace H : (if 0 ≤ (ji13) then (if (ji13) < (l0_1.length : Int) then (eggboxref13_Does.l1 k2 a1 (x5_2.set (x7_2 : Int).toNat (rd l0_1 (ji13))) x6_1 (wrap64 (x7_2 + 1)) a0_0 l0_1 l0_2) else (none)) else (none)) = some r := by first | (rw [hji13] at H; exact H) | (simp only [hji13] at H ⊢; exact H)
                    have hji13w : (IntKind.i64.wrap ((wrap64 ((rd x5_2 x7_2) * a0_0)) + (((bt a1 x6_1) - 97) % 256))) = ji13 := (i64_w _).trans hji13
                    by_cases c14 : 0 ≤ (ji13)
                    · rw [if_pos c14] at H
                      have c14b0 : decide (0 ≤ (ji13)) = true := decide_eq_true c14
                      clear c14
                      by_cases c15 : (ji13) < (l0_1.length : Int)
                      · rw [if_pos c15] at H
                        have c15b0 : decide ((ji13) < (l0_1.length : Int)) = true := decide_eq_true c15
                        clear c15
                        obtain ⟨y149, hy149⟩ : ∃ y_ : List Int, y_ = (x5_2.set (x7_2 : Int).toNat (rd l0_1 (ji13))) := ⟨_, rfl⟩
                        replace H : (eggboxref13_Does.l1 k2 a1 y149 x6_1 (wrap64 (x7_2 + 1)) a0_0 l0_1 l0_2) = some r := by first | (rw [hy149]; with_reducible exact H) | (have H2_ := (Option.bind_some _ _).symm.trans H; rw [hy149]; with_reducible exact H2_) | (have H2_ := (Option.bind_some _ _).symm.trans H; with_reducible exact H2_) | with_reducible exact H | (rw [hy149]; exact H) | exact H
                        have Ny149 := Aside0.mk hy149
                        clear hy149
                        have H' := Aside0.mk H
                        clear H
                        obtain ⟨Ao17, co17, eo17⟩ := Kd.R_slice HO_5.out
                        subst eo17
                        try go_wp2
                        have n0_ := Aside0.mk (Kd.R_drew HO_5.out)
                        have n1_ := Aside0.mk (blk_drew BK143.out)
                        have n2_ := Aside0.mk (below_drew1 HB.out)
                        clear HO_5
                        clear BK143
                        clear HB
                        have HO_5 := n0_
                        have BK143 := n1_
                        have HB := n2_
                        clear n0_ n1_ n2_
                        have p147 : 0 ≤ (x7_2 : Int) := of_decide_eq_true (by first | (with_reducible assumption) | assumption)
                        have q147 : x7_2 < (x5_2.length : Int) := of_decide_eq_true (by first | (with_reducible assumption) | assumption)
                        obtain ⟨ad147, e147, hx147_0⟩ := Kd.at_int (Kd.R_reads' HO_5.out).2.2 x7_2 p147 q147
                        cases e147
                        replace p147 := eq_true p147
                        replace q147 := eq_true q147
                        have p12 : 0 ≤ (x6_1 : Int) := of_decide_eq_true (by first | (with_reducible assumption) | assumption)
                        have q12 : x6_1 < (a1.size : Int) := of_decide_eq_true (by first | (with_reducible assumption) | assumption)
                        have hx12 := bt_at a1 x6_1
                        replace p12 := eq_true p12
                        replace q12 := eq_true q12
                        have p148 : 0 ≤ ((ji13) : Int) := of_decide_eq_true (by first | (with_reducible assumption) | assumption)
                        have q148 : (ji13) < (l0_1.length : Int) := of_decide_eq_true (by first | (with_reducible assumption) | assumption)
                        obtain ⟨ad148, e148, hx148_0⟩ := Kd.at_int HR0_1.out (ji13) p148 q148
                        have hw148_0 := hx148_0
                        cases e148
                        replace hx148_0 := (HB.out.cell (World.block_lt_of_cell? w _ hx148_0)).trans hx148_0
                        replace p148 := eq_true p148
                        replace q148 := eq_true q148
                        have p16 : 0 ≤ (x7_2 : Int) := of_decide_eq_true (by first | (with_reducible assumption) | assumption)
                        have q16 : (x7_2 : Int) < ((x5_2.length : Int) : Int) := of_decide_eq_true (by first | (with_reducible assumption) | assumption)
                        obtain ⟨go16, co16, eo16, gb16, gl16, cl16, HG16⟩ := Kd.R_form HO_5.out (by omega)
                        (first | cases eo16 | (injection eo16 with ea_ en_ ec_; (first | subst ea_ | (injection ea_ with ea_; subst ea_)); subst ec_; clear en_))
                        have GB16 := Aside0.mk gb16
                        have GG16 := Aside0.mk HG16
                        clear gb16 gl16 HG16
                        (first | simp only [add_plain] at hx147_0 | skip)
                        obtain ⟨hx16_0, hf16_0⟩ := Kd.R_celln 0 HO_5.out (x7_2 : Int) p16 q16
                        replace p16 := eq_true p16
                        replace q16 := eq_true q16
                        have HP19 := Kd.R_putn HO_5.out (x7_2 : Int) (rd l0_1 (ji13))
                        rw [← Ny149.out] at HP19
                        have HQ19 := Aside0.mk HP19
                        clear HP19
                        have hu8_ : wrap64 (IntKind.u8.wrap (bt a1 x6_1 - 97)) = (bt a1 x6_1 - 97) % 256 := by
                          have e_ : IntKind.u8.wrap (bt a1 x6_1 - 97) = (bt a1 x6_1 - 97) % 256 := by first | rfl | simp [IntKind.wrap]
                          rw [e_]
                          have l_ := Int.emod_nonneg (bt a1 x6_1 - 97) (show (256 : Int) ≠ 0 by decide)
                          have g_ := Int.emod_lt_of_pos (bt a1 x6_1 - 97) (show (0 : Int) < 256 by decide)
                          unfold wrap64; omega
                        have hji13x : wrap64 (wrap64 (rd x5_2 x7_2 * a0_0) + wrap64 (IntKind.u8.wrap (bt a1 x6_1 - 97))) = ji13 := by rw [hu8_]; exact hji13
                        clear hu8_
                        refine start_ (n := 21) (S := fun w' => w'.cell? ⟨gb143, 0, none⟩ = some (.int .i64 a0_0) ∧ w'.cell? ⟨gb143, 1, none⟩ = some (.slice (some ad148) l0_1.length c0_1) ∧ w'.cell? ⟨gb143, 2, none⟩ = some (.slice A0_2 l0_2.length c0_2) ∧ w'.cell? ⟨go16, (x7_2).toNat, none⟩ = some (.int .i64 (rd x5_2 x7_2)) ∧ w'.cell? (ad148.add ((ji13)).toNat) = some (.int .i64 (rd l0_1 (ji13)))) (ds := [20]) #[false, false, false, false, false, false, false, false, false, false, false, false, false, false, false, false, false, false, false, false, false] (by kernel_rfl) rfl rfl ⟨(blk_cell BK143.out 0).trans rfl, (blk_cell BK143.out 1).trans rfl, (blk_cell BK143.out 2).trans rfl, hx147_0, ((HB.out.cell (World.block_lt_of_cell? w _ hw148_0)).trans hw148_0)⟩ (fun hHeld => ?_); refine with_tabW eggboxref13_Does.tab8 eggboxref13_Does.bits8 (fun HT_ HW_ => ?_)
                        generalize wr.drew = w18 at HO_5 BK143 HB GG16 HQ19 hf16_0 hx147_0 hx148_0 hx16_0 hHeld ⊢
                        refine pure_ (i := 0) (N := some 24) (v := ?_) (a' := ?_) #[true, false, false, false, false, false, false, false, false, false, false, false, false, false, false, false, false, false, false, false, false] rfl rfl (any_of HT_.out (by kernel_rfl)) (fun _ _ _ h => h) (Or.inl ⟨by rfl, ?_⟩) ?_ ?_
                        rotate_left
                        · intro w'
                          go_simp
                          with_reducible rfl
                        rotate_left
                        · simp only [Act.put, List.setIfInBounds_toArray, List.set_cons_zero, List.set_cons_succ, i64_w, i32_w]
                          rfl
                        refine pure_ (i := 1) (N := some 25) (v := ?_) (a' := ?_) #[true, true, false, false, false, false, false, false, false, false, false, false, false, false, false, false, false, false, false, false, false] rfl rfl (any_of HT_.out (by kernel_rfl)) (fun _ _ _ h => h) (Or.inl ⟨by rfl, ?_⟩) ?_ ?_
                        rotate_left
                        · intro w'
                          go_simp
                          with_reducible rfl
                        rotate_left
                        · simp only [Act.put, List.setIfInBounds_toArray, List.set_cons_zero, List.set_cons_succ, i64_w, i32_w]
                          rfl
                        refine pure_ (i := 2) (N := some 26) (v := ?_) (a' := ?_) #[true, true, true, false, false, false, false, false, false, false, false, false, false, false, false, false, false, false, false, false, false] rfl rfl (any_of HT_.out (by kernel_rfl)) (fun _ _ _ h => h) (Or.inl ⟨by rfl, ?_⟩) ?_ ?_
                        rotate_left
                        · intro w'
                          go_simp
                          with_reducible rfl
                        rotate_left
                        · simp only [Act.put, List.setIfInBounds_toArray, List.set_cons_zero, List.set_cons_succ, i64_w, i32_w]
                          rfl
                        refine pure_ (i := 4) (N := some 28) (v := ?_) (a' := ?_) #[true, true, true, false, true, false, false, false, false, false, false, false, false, false, false, false, false, false, false, false, false] rfl rfl (any_of HT_.out (by kernel_rfl)) (fun _ _ _ h => h) (Or.inl ⟨by rfl, ?_⟩) ?_ ?_
                        rotate_left
                        · intro w'
                          go_simp
                          with_reducible rfl
                        rotate_left
                        · simp only [Act.put, List.setIfInBounds_toArray, List.set_cons_zero, List.set_cons_succ, i64_w, i32_w]
                          rfl
                        refine pure_ (i := 5) (N := some 29) (v := ?_) (a' := ?_) #[true, true, true, false, true, true, false, false, false, false, false, false, false, false, false, false, false, false, false, false, false] rfl rfl (any_of HT_.out (by kernel_rfl)) (fun _ _ _ h => h) (Or.inl ⟨by rfl, ?_⟩) ?_ ?_
                        rotate_left
                        · intro w'
                          go_simp
                          with_reducible rfl
                        rotate_left
                        · simp only [Act.put, List.setIfInBounds_toArray, List.set_cons_zero, List.set_cons_succ, i64_w, i32_w]
                          rfl
                        refine pure_ (i := 6) (N := some 30) (v := ?_) (a' := ?_) #[true, true, true, false, true, true, true, false, false, false, false, false, false, false, false, false, false, false, false, false, false] rfl rfl (any_of HT_.out (by kernel_rfl)) (fun _ _ _ h => h) (Or.inl ⟨by rfl, ?_⟩) ?_ ?_
                        rotate_left
                        · intro w'
                          go_simp
                          with_reducible rfl
                        rotate_left
                        · simp only [Act.put, List.setIfInBounds_toArray, List.set_cons_zero, List.set_cons_succ, i64_w, i32_w]
                          rfl
                        refine pure_ (i := 8) (N := some 32) (v := ?_) (a' := ?_) #[true, true, true, false, true, true, true, false, true, false, false, false, false, false, false, false, false, false, false, false, false] rfl rfl (any_of HT_.out (by kernel_rfl)) (fun _ _ _ h => h) (Or.inl ⟨by rfl, ?_⟩) ?_ ?_
                        rotate_left
                        · intro w'
                          go_simp
                          with_reducible rfl
                        rotate_left
                        · simp only [Act.put, List.setIfInBounds_toArray, List.set_cons_zero, List.set_cons_succ, i64_w, i32_w]
                          rfl
                        refine pure_ (i := 11) (N := some 35) (v := ?_) (a' := ?_) #[true, true, true, false, true, true, true, false, true, false, false, true, false, false, false, false, false, false, false, false, false] rfl rfl (any_of HT_.out (by kernel_rfl)) (fun _ _ _ h => h) (Or.inl ⟨by rfl, ?_⟩) ?_ ?_
                        rotate_left
                        · intro w'
                          go_simp
                          with_reducible rfl
                        rotate_left
                        · simp only [Act.put, List.setIfInBounds_toArray, List.set_cons_zero, List.set_cons_succ, i64_w, i32_w]
                          rfl
                        refine pure_ (i := 12) (N := some 36) (v := ?_) (a' := ?_) #[true, true, true, false, true, true, true, false, true, false, false, true, true, false, false, false, false, false, false, false, false] rfl rfl (any_of HT_.out (by kernel_rfl)) (fun _ _ _ h => h) (Or.inl ⟨by rfl, ?_⟩) ?_ ?_
                        rotate_left
                        · intro w'
                          go_simp
                          with_reducible rfl
                        rotate_left
                        · simp only [Act.put, List.setIfInBounds_toArray, List.set_cons_zero, List.set_cons_succ, i64_w, i32_w]
                          rfl
                        refine take_ (i := 3) (N := some 27) (v := ?_) (a' := ?_) #[true, true, true, true, true, true, true, false, true, false, false, true, true, false, false, false, false, false, false, false, false] rfl rfl (take_ofW HT_.out HW_.out (by kernel_rfl)) (fun _ _ _ h => h) (Or.inl ⟨by rfl, ?_⟩) hHeld ?_ ?_
                        rotate_left
                        · rintro w' ⟨s0, s1, s2, s3, s4⟩
                          go_simp
                          with_reducible rfl
                        rotate_left
                        · simp only [Act.put, List.setIfInBounds_toArray, List.set_cons_zero, List.set_cons_succ, i64_w, i32_w]
                          rfl
                        refine take_ (i := 7) (N := some 31) (v := ?_) (a' := ?_) #[true, true, true, true, true, true, true, true, true, false, false, true, true, false, false, false, false, false, false, false, false] rfl rfl (take_ofW HT_.out HW_.out (by kernel_rfl)) (fun _ _ _ h => h) (Or.inl ⟨by rfl, ?_⟩) hHeld ?_ ?_
                        rotate_left
                        · rintro w' ⟨s0, s1, s2, s3, s4⟩
                          go_simp
                          with_reducible rfl
                        rotate_left
                        · simp only [Act.put, List.setIfInBounds_toArray, List.set_cons_zero, List.set_cons_succ, i64_w, i32_w]
                          rfl
                        refine take_ (i := 9) (N := some 33) (v := ?_) (a' := ?_) #[true, true, true, true, true, true, true, true, true, true, false, true, true, false, false, false, false, false, false, false, false] rfl rfl (take_ofW HT_.out HW_.out (by kernel_rfl)) (fun _ _ _ h => h) (Or.inl ⟨by rfl, ?_⟩) hHeld ?_ ?_
                        rotate_left
                        · rintro w' ⟨s0, s1, s2, s3, s4⟩
                          go_simp
                          with_reducible rfl
                        rotate_left
                        · simp only [Act.put, List.setIfInBounds_toArray, List.set_cons_zero, List.set_cons_succ, i64_w, i32_w]
                          rfl
                        refine pure_ (i := 10) (N := some 34) (v := ?_) (a' := ?_) #[true, true, true, true, true, true, true, true, true, true, true, true, true, false, false, false, false, false, false, false, false] rfl rfl (any_of HT_.out (by kernel_rfl)) (fun _ _ _ h => h) (Or.inl ⟨by rfl, ?_⟩) ?_ ?_
                        rotate_left
                        · intro w'
                          go_simp
                          with_reducible rfl
                        rotate_left
                        · simp only [Act.put, List.setIfInBounds_toArray, List.set_cons_zero, List.set_cons_succ, i64_w, i32_w]
                          rfl
                        refine take_ (i := 13) (N := some 37) (v := ?_) (a' := ?_) #[true, true, true, true, true, true, true, true, true, true, true, true, true, true, false, false, false, false, false, false, false] rfl rfl (take_ofW HT_.out HW_.out (by kernel_rfl)) (fun _ _ _ h => h) (Or.inl ⟨by rfl, ?_⟩) hHeld ?_ ?_
                        rotate_left
                        · rintro w' ⟨s0, s1, s2, s3, s4⟩
                          go_simp
                          with_reducible rfl
                        rotate_left
                        · simp only [Act.put, List.setIfInBounds_toArray, List.set_cons_zero, List.set_cons_succ, i64_w, i32_w]
                          rfl
                        refine pure_ (i := 14) (N := some 38) (v := ?_) (a' := ?_) #[true, true, true, true, true, true, true, true, true, true, true, true, true, true, true, false, false, false, false, false, false] rfl rfl (any_of HT_.out (by kernel_rfl)) (fun _ _ _ h => h) (Or.inl ⟨by rfl, ?_⟩) ?_ ?_
                        rotate_left
                        · intro w'
                          go_simp
                          with_reducible rfl
                        rotate_left
                        · simp only [Act.put, List.setIfInBounds_toArray, List.set_cons_zero, List.set_cons_succ, i64_w, i32_w]
                          rfl
                        refine pure_ (i := 15) (N := some 39) (v := ?_) (a' := ?_) #[true, true, true, true, true, true, true, true, true, true, true, true, true, true, true, true, false, false, false, false, false] rfl rfl (any_of HT_.out (by kernel_rfl)) (fun _ _ _ h => h) (Or.inl ⟨by rfl, ?_⟩) ?_ ?_
                        rotate_left
                        · intro w'
                          go_simp
                          with_reducible rfl
                        rotate_left
                        · simp only [Act.put, List.setIfInBounds_toArray, List.set_cons_zero, List.set_cons_succ, i64_w, i32_w]
                          rfl
                        refine pure_ (i := 16) (N := some 40) (v := ?_) (a' := ?_) #[true, true, true, true, true, true, true, true, true, true, true, true, true, true, true, true, true, false, false, false, false] rfl rfl (any_of HT_.out (by kernel_rfl)) (fun _ _ _ h => h) (Or.inl ⟨by rfl, ?_⟩) ?_ ?_
                        rotate_left
                        · intro w'
                          go_simp
                          with_reducible rfl
                        rotate_left
                        · simp only [Act.put, List.setIfInBounds_toArray, List.set_cons_zero, List.set_cons_succ, i64_w, i32_w]
                          rfl
                        refine pure_ (i := 17) (N := some 41) (v := ?_) (a' := ?_) #[true, true, true, true, true, true, true, true, true, true, true, true, true, true, true, true, true, true, false, false, false] rfl rfl (any_of HT_.out (by kernel_rfl)) (fun _ _ _ h => h) (Or.inl ⟨by rfl, ?_⟩) ?_ ?_
                        rotate_left
                        · intro w'
                          go_simp
                          with_reducible rfl
                        rotate_left
                        · simp only [Act.put, List.setIfInBounds_toArray, List.set_cons_zero, List.set_cons_succ, i64_w, i32_w]
                          rfl
                        refine take_ (i := 18) (N := some 42) (v := ?_) (a' := ?_) #[true, true, true, true, true, true, true, true, true, true, true, true, true, true, true, true, true, true, true, false, false] rfl rfl (take_ofW HT_.out HW_.out (by kernel_rfl)) (fun _ _ _ h => h) (Or.inl ⟨by rfl, ?_⟩) hHeld ?_ ?_
                        rotate_left
                        · rintro w' ⟨s0, s1, s2, s3, s4⟩
                          go_simp
                          with_reducible rfl
                        rotate_left
                        · simp only [Act.put, List.setIfInBounds_toArray, List.set_cons_zero, List.set_cons_succ, i64_w, i32_w]
                          rfl
                        refine pure_ (i := 19) (N := some 43) (v := ?_) (a' := ?_) #[true, true, true, true, true, true, true, true, true, true, true, true, true, true, true, true, true, true, true, true, false] rfl rfl (any_of HT_.out (by kernel_rfl)) (fun _ _ _ h => h) (Or.inl ⟨by rfl, ?_⟩) ?_ ?_
                        rotate_left
                        · intro w'
                          go_simp
                          with_reducible rfl
                        rotate_left
                        · simp only [Act.put, List.setIfInBounds_toArray, List.set_cons_zero, List.set_cons_succ, i64_w, i32_w]
                          rfl
                        refine last_ (i := 20) (N := none) #[true, true, true, true, true, true, true, true, true, true, true, true, true, true, true, true, true, true, true, true, true] rfl rfl (one_of HT_.out (by kernel_rfl)) (by decide) (fun K hK => ?_)
                        refine skip_ (w1 := ?_) (by rfl) rfl ?_ ?_
                        rotate_left
                        · go_simp
                          rfl
                        refine hK.out _ _ ?_
                        clear hK K
                        refine done_ (done_of HT_.out (by kernel_rfl)) ?_
                        try go_wp2
                        go_roundg k2
                        case measure => have := HK1.out; have := HK2.out; omega
                        case rel => exact ⟨(y149), (wrap64 (x7_2 + 1)), (by first | rfl | (simp; done) | (simp [*]; done)), H', ⟨by have := HK1.out; have := HK2.out; omega⟩, ⟨by (with_reducible repeat (first | apply Kd.R_alloc | apply Kd.R_drewN | apply Kd.R_drew)); exact HQ19.out⟩, ⟨by (with_reducible repeat (first | refine blk_drewN ?_ _ | refine blk_drew ?_ | refine blk_alloc ?_ _)); refine blk_far ?_ (by have h_ := Kd.R_ne HO_5.out BK143.out (by decide); intro e_; exact h_ (by rw [e_]; rfl)) _; (with_reducible repeat (first | refine blk_drewN ?_ _ | refine blk_drew ?_ | refine blk_alloc ?_ _)); exact BK143.out⟩, ⟨by repeat (first | (with_reducible first | exact HB.out | apply below_alloc | apply pw_below_drewN | apply below_drew1 | refine below_set ?_ GB16.out | refine below_set ?_ GE143.out) | exact HB.out)⟩⟩
                      · rw [if_neg c15] at H
                        exact absurd H (by simp)
                    · rw [if_neg c14] at H
                      exact absurd H (by simp)
                  · rw [if_neg c11] at H
                    exact absurd H (by simp)
                · rw [if_neg c10] at H
                  exact absurd H (by simp)
              · rw [if_neg c9] at H
                exact absurd H (by simp)
            · rw [if_neg c8] at H
              have c8b0 : decide (x7_2 < (x5_2.length : Int)) = false := decide_eq_false c8
              clear c8
              have H' := Aside0.mk H
              clear H
              obtain ⟨Ao20, co20, eo20⟩ := Kd.R_slice HO_5.out
              subst eo20
              go_wp2
              go_roundg k2
              case measure => have := HK1.out; have := HK2.out; omega
              case rel => exact ⟨(x5_2), (wrap64 (x6_1 + 1)), (by first | rfl | (simp; done) | (simp [*]; done)), H', ⟨by have := HK1.out; have := HK2.out; omega⟩, ⟨by (with_reducible repeat (first | apply Kd.R_alloc | apply Kd.R_drewN | apply Kd.R_drew)); exact HO_5.out⟩, ⟨by (with_reducible repeat (first | refine blk_drewN ?_ _ | refine blk_drew ?_ | refine blk_alloc ?_ _)); exact BK143.out⟩, ⟨by repeat (first | (with_reducible first | exact HB.out | apply below_alloc | apply pw_below_drewN | apply below_drew1 | refine below_set ?_ GE143.out) | exact HB.out)⟩⟩
      · rw [if_neg c7] at H
        have c7b0 : decide (x6_1 < (a1.size : Int)) = false := decide_eq_false c7
        clear c7
        obtain rfl := Option.some.inj H
        go_wp2
        go_ret
        exact ⟨_, by first | rfl | (simp [errW_none, errW_some] <;> rfl) | (simp [*, errW_none, errW_some] <;> rfl), by (with_reducible repeat (first | apply Kd.R_alloc | apply Kd.R_drewN | apply Kd.R_drew)); exact HO_5.out, by repeat (first | (with_reducible first | exact HB.out | apply below_alloc | apply pw_below_drewN | apply below_drew1 | refine below_set ?_ GE143.out) | exact HB.out)⟩

-- NOT PRINTED: function 39 (eggboxref13_OfWord)

/-! ### eggboxlaw01_SameInts: function 50 -/
def eggboxlaw01_SameInts.l0 : Nat → List Int → List Int → Int → Option (Bool)
  | 0, _, _, _ => none
  | k + 1, x0, x1, x5 => if x5 < (x0.length : Int) then (if 0 ≤ x5 then (if x5 < (x1.length : Int) then (if (rd x0 x5) = (rd x1 x5) then (eggboxlaw01_SameInts.l0 k x0 x1 (wrap64 (x5 + 1))) else (some false)) else (none)) else (none)) else (some true)
def eggboxlaw01_SameInts.f (k : Nat) (l0 : List Int) (l1 : List Int) : Option (Bool) := if (l0.length : Int) = (l1.length : Int) then (eggboxlaw01_SameInts.l0 k l0 l1 0) else (some false)
theorem eggboxlaw01_SameInts.mono_l : ∀ k, (∀ y0 y1 y2, LeO (eggboxlaw01_SameInts.l0 k y0 y1 y2) (eggboxlaw01_SameInts.l0 (k + 1) y0 y1 y2))
  | 0 => fun _ _ _ r h => by simp [eggboxlaw01_SameInts.l0] at h
  | k + 1 => by
    have ih0 := eggboxlaw01_SameInts.mono_l k
    · intro y0 y1 y2
      unfold eggboxlaw01_SameInts.l0
      repeat' first
      | (with_reducible exact ih0 _ _ _)
      | (with_reducible exact LeO.refl _)
      | (with_reducible exact LeO.none _)
      | (with_reducible refine LeO.ite ?_ ?_)
      | (with_reducible refine LeO.bind ?_ (fun _ => ?_))
      | exact ih0 _ _ _
      | exact LeO.none _
      | refine LeO.ite ?_ ?_
      | refine LeO.bind ?_ (fun _ => ?_)
theorem eggboxlaw01_SameInts.mono : ∀ a0 a1 k, LeO (eggboxlaw01_SameInts.f k a0 a1) (eggboxlaw01_SameInts.f (k + 1) a0 a1) := by
  intro a0 a1 k
  have ih0 := eggboxlaw01_SameInts.mono_l k
  unfold eggboxlaw01_SameInts.f
  repeat' first
      | (with_reducible exact ih0 _ _ _)
      | (with_reducible exact LeO.refl _)
      | (with_reducible exact LeO.none _)
      | (with_reducible refine LeO.ite ?_ ?_)
      | (with_reducible refine LeO.bind ?_ (fun _ => ?_))
      | exact ih0 _ _ _
      | exact LeO.none _
      | refine LeO.ite ?_ ?_
      | refine LeO.bind ?_ (fun _ => ?_)
set_option maxHeartbeats 8000000 in
set_option maxRecDepth 100000 in
theorem eggboxlaw01_SameInts.calls (k : Nat) (A0 : Option Addr) (c0 : Nat) (l0 : List Int) (A1 : Option Addr) (c1 : Nat) (l1 : List Int) (r : Bool) (w : World) (hr0 : Kd.C (Kd.int .i64) w A0 l0.length l0) (hc0 : l0.length ≤ c0) (hr1 : Kd.C (Kd.int .i64) w A1 l1.length l1) (hc1 : l1.length ≤ c1) (h : eggboxlaw01_SameInts.f k l0 l1 = some r) :
    Calls Try.prog 50 #[.slice A0 l0.length c0, .slice A1 l1.length c1] w fun e w' => e = .returned (.bool r) ∧ Drawn0 w w' := by
  have HR0 := Aside0.mk hr0
  have HC0 := Aside0.mk hc0
  clear hr0 hc0
  have HR1 := Aside0.mk hr1
  have HC1 := Aside0.mk hc1
  clear hr1 hc1
  have H : (if (l0.length : Int) = (l1.length : Int) then (eggboxlaw01_SameInts.l0 k l0 l1 0) else (some false)) = some r := h
  clear h
  by_cases c3 : (l0.length : Int) = (l1.length : Int)
  · rw [if_pos c3] at H
    have c3b0 : ((l0.length : Int) == (l1.length : Int)) = true := beq_iff_eq.mpr c3
    have c3b1 : ((l0.length : Int) != (l1.length : Int)) = false := bne_eq_false_iff_eq.mpr c3
    have c3b2 : (l0.length == l1.length) = true := by first | simpa using c3 | (simp at c3 ⊢; omega)
    clear c3
    have H' := Aside0.mk H
    clear H
    go_enter Try.func50, Try.ntmps50
    go_wp2
    repeat (go_quiet (fail); try go_wp2)
    go_loopg [5] k (fun kq v5 w' => ∃ (x5_1 : Int), v5 = .int .i64 x5_1 ∧ Aside0 (eggboxlaw01_SameInts.l0 kq l0 l1 x5_1 = some r) ∧ Aside0 (kq ≤ k) ∧ Drawn0 w w')
    case atStart => exact ⟨(0), (by first | rfl | (simp; done) | (simp [*]; done)), H', ⟨Nat.le_refl _⟩, by repeat (first | exact Drawn0.refl _ | apply Drawn0.step)⟩
    case round =>
      clear H'
      try clear c1
      try clear p2
      try clear c3
      try clear c3b0
      try clear c3b1
      try clear c3b2
      obtain ⟨x5_1, rfl, HA, HK1, ⟨m1, rfl⟩⟩ := hrel
      cases gk with
      | zero => exact absurd HA.out (by simp [eggboxlaw01_SameInts.l0])
      | succ k1 =>
        have H := HA.out
        clear HA
        simp only [eggboxlaw01_SameInts.l0] at H
        by_cases c4 : x5_1 < (l0.length : Int)
        · rw [if_pos c4] at H
          have c4b0 : decide (x5_1 < (l0.length : Int)) = true := decide_eq_true c4
          clear c4
          by_cases c5 : 0 ≤ x5_1
          · rw [if_pos c5] at H
            have c5b0 : decide (0 ≤ x5_1) = true := decide_eq_true c5
            clear c5
            by_cases c6 : x5_1 < (l1.length : Int)
            · rw [if_pos c6] at H
              have c6b0 : decide (x5_1 < (l1.length : Int)) = true := decide_eq_true c6
              clear c6
              by_cases c7 : (rd l0 x5_1) = (rd l1 x5_1)
              · rw [if_pos c7] at H
                have c7b0 : ((rd l0 x5_1) == (rd l1 x5_1)) = true := beq_iff_eq.mpr c7
                have c7b1 : ((rd l0 x5_1) != (rd l1 x5_1)) = false := bne_eq_false_iff_eq.mpr c7
                clear c7
                have H' := Aside0.mk H
                clear H
                have p150 : 0 ≤ (x5_1 : Int) := of_decide_eq_true (by first | (with_reducible assumption) | assumption)
                have q150 : x5_1 < (l0.length : Int) := of_decide_eq_true (by first | (with_reducible assumption) | assumption)
                obtain ⟨ad150, e150, hx150_0⟩ := Kd.at_int HR0.out x5_1 p150 q150
                cases e150
                replace p150 := eq_true p150
                replace q150 := eq_true q150
                have p151 : 0 ≤ (x5_1 : Int) := of_decide_eq_true (by first | (with_reducible assumption) | assumption)
                have q151 : x5_1 < (l1.length : Int) := of_decide_eq_true (by first | (with_reducible assumption) | assumption)
                obtain ⟨ad151, e151, hx151_0⟩ := Kd.at_int HR1.out x5_1 p151 q151
                cases e151
                replace p151 := eq_true p151
                replace q151 := eq_true q151
                go_wp2
                repeat (go_quiet (fail); try go_wp2)
                go_roundg k1
                case measure => have := HK1.out; omega
                case rel => exact ⟨(wrap64 (x5_1 + 1)), (by first | rfl | (simp; done) | (simp [*]; done)), H', ⟨by have := HK1.out; omega⟩, by repeat (first | exact Drawn0.refl _ | apply Drawn0.step)⟩
              · rw [if_neg c7] at H
                have c7b0 : ((rd l0 x5_1) == (rd l1 x5_1)) = false := beq_eq_false_iff_ne.mpr c7
                have c7b1 : ((rd l0 x5_1) != (rd l1 x5_1)) = true := bne_iff_ne.mpr c7
                obtain rfl := Option.some.inj H
                have p150 : 0 ≤ (x5_1 : Int) := of_decide_eq_true (by first | (with_reducible assumption) | assumption)
                have q150 : x5_1 < (l0.length : Int) := of_decide_eq_true (by first | (with_reducible assumption) | assumption)
                obtain ⟨ad150, e150, hx150_0⟩ := Kd.at_int HR0.out x5_1 p150 q150
                cases e150
                replace p150 := eq_true p150
                replace q150 := eq_true q150
                have p151 : 0 ≤ (x5_1 : Int) := of_decide_eq_true (by first | (with_reducible assumption) | assumption)
                have q151 : x5_1 < (l1.length : Int) := of_decide_eq_true (by first | (with_reducible assumption) | assumption)
                obtain ⟨ad151, e151, hx151_0⟩ := Kd.at_int HR1.out x5_1 p151 q151
                cases e151
                replace p151 := eq_true p151
                replace q151 := eq_true q151
                go_wp2
                repeat (go_quiet (fail); try go_wp2)
                go_ret
                exact ⟨by first | rfl | (simp; done) | (simp [*]; done), by repeat (first | exact Drawn0.refl _ | apply Drawn0.step)⟩
            · rw [if_neg c6] at H
              exact absurd H (by simp)
          · rw [if_neg c5] at H
            exact absurd H (by simp)
        · rw [if_neg c4] at H
          have c4b0 : decide (x5_1 < (l0.length : Int)) = false := decide_eq_false c4
          clear c4
          obtain rfl := Option.some.inj H
          go_wp2
          repeat (go_quiet (fail); try go_wp2)
          go_ret
          exact ⟨by first | rfl | (simp; done) | (simp [*]; done), by repeat (first | exact Drawn0.refl _ | apply Drawn0.step)⟩
  · rw [if_neg c3] at H
    have c3b0 : ((l0.length : Int) == (l1.length : Int)) = false := beq_eq_false_iff_ne.mpr c3
    have c3b1 : ((l0.length : Int) != (l1.length : Int)) = true := bne_iff_ne.mpr c3
    have c3b2 : (l0.length == l1.length) = false := by first | simpa using c3 | (simp at c3 ⊢; omega)
    obtain rfl := Option.some.inj H
    go_enter Try.func50, Try.ntmps50
    go_wp2
    repeat (go_quiet (fail); try go_wp2)
    go_ret
    exact ⟨by first | rfl | (simp; done) | (simp [*]; done), by repeat (first | exact Drawn0.refl _ | apply Drawn0.step)⟩

/-! ### eggboxlaw01_SameAuto: function 40 -/
mutual
def eggboxlaw01_SameAuto.j0 : Nat → Bool → Int → List Int → List Bool → Int → List Int → List Bool → Option (Bool)
  | 0, _, _, _, _, _, _, _ => none
  | k + 1, x27, x153000, x153001, x153002, x154000, x154001, x154002 => if x27 = true then (some false) else (eggboxlaw01_SameAuto.l0 k 0 x153000 x153001 x153002 x154000 x154001 x154002)
def eggboxlaw01_SameAuto.l0 : Nat → Int → Int → List Int → List Bool → Int → List Int → List Bool → Option (Bool)
  | 0, _, _, _, _, _, _, _ => none
  | k + 1, x5, x153000, x153001, x153002, x154000, x154001, x154002 => if x5 < (x153002.length : Int) then (if 0 ≤ x5 then (if x5 < (x154002.length : Int) then (if ((rdOf false x153002 x5) != (rdOf false x154002 x5)) = true then (some false) else (eggboxlaw01_SameAuto.l0 k (wrap64 (x5 + 1)) x153000 x153001 x153002 x154000 x154001 x154002)) else (none)) else (none)) else (some true)
end
def eggboxlaw01_SameAuto.f (k : Nat) (a0_0 : Int) (l0_1 : List Int) (l0_2 : List Bool) (a1_0 : Int) (l1_1 : List Int) (l1_2 : List Bool) : Option (Bool) := if a0_0 = a1_0 then ((eggboxlaw01_SameInts.f k l0_1 l1_1).bind fun t154 => (if t154 = true then (eggboxlaw01_SameAuto.j0 k ((l0_2.length : Int) != (l1_2.length : Int)) a0_0 l0_1 l0_2 a1_0 l1_1 l1_2) else (eggboxlaw01_SameAuto.j0 k true a0_0 l0_1 l0_2 a1_0 l1_1 l1_2))) else (eggboxlaw01_SameAuto.j0 k true a0_0 l0_1 l0_2 a1_0 l1_1 l1_2)
theorem eggboxlaw01_SameAuto.mono_l : ∀ k, (∀ y0 y1 y2 y3 y4 y5 y6, LeO (eggboxlaw01_SameAuto.j0 k y0 y1 y2 y3 y4 y5 y6) (eggboxlaw01_SameAuto.j0 (k + 1) y0 y1 y2 y3 y4 y5 y6)) ∧ (∀ y0 y1 y2 y3 y4 y5 y6, LeO (eggboxlaw01_SameAuto.l0 k y0 y1 y2 y3 y4 y5 y6) (eggboxlaw01_SameAuto.l0 (k + 1) y0 y1 y2 y3 y4 y5 y6))
  | 0 => ⟨fun _ _ _ _ _ _ _ r h => by simp [eggboxlaw01_SameAuto.j0] at h, fun _ _ _ _ _ _ _ r h => by simp [eggboxlaw01_SameAuto.l0] at h⟩
  | k + 1 => by
    obtain ⟨ih0, ih1⟩ := eggboxlaw01_SameAuto.mono_l k
    refine ⟨?_, ?_⟩
    · intro y0 y1 y2 y3 y4 y5 y6
      unfold eggboxlaw01_SameAuto.j0
      repeat' first
      | (with_reducible exact ih0 _ _ _ _ _ _ _)
      | (with_reducible exact ih1 _ _ _ _ _ _ _)
      | (with_reducible exact eggboxlaw01_SameInts.mono _ _ _)
      | (with_reducible exact LeO.refl _)
      | (with_reducible exact LeO.none _)
      | (with_reducible refine LeO.ite ?_ ?_)
      | (with_reducible refine LeO.bind ?_ (fun _ => ?_))
      | exact ih0 _ _ _ _ _ _ _
      | exact ih1 _ _ _ _ _ _ _
      | exact eggboxlaw01_SameInts.mono _ _ _
      | exact LeO.none _
      | refine LeO.ite ?_ ?_
      | refine LeO.bind ?_ (fun _ => ?_)
    · intro y0 y1 y2 y3 y4 y5 y6
      unfold eggboxlaw01_SameAuto.l0
      repeat' first
      | (with_reducible exact ih0 _ _ _ _ _ _ _)
      | (with_reducible exact ih1 _ _ _ _ _ _ _)
      | (with_reducible exact eggboxlaw01_SameInts.mono _ _ _)
      | (with_reducible exact LeO.refl _)
      | (with_reducible exact LeO.none _)
      | (with_reducible refine LeO.ite ?_ ?_)
      | (with_reducible refine LeO.bind ?_ (fun _ => ?_))
      | exact ih0 _ _ _ _ _ _ _
      | exact ih1 _ _ _ _ _ _ _
      | exact eggboxlaw01_SameInts.mono _ _ _
      | exact LeO.none _
      | refine LeO.ite ?_ ?_
      | refine LeO.bind ?_ (fun _ => ?_)
theorem eggboxlaw01_SameAuto.mono : ∀ a0 a1 a2 a3 a4 a5 k, LeO (eggboxlaw01_SameAuto.f k a0 a1 a2 a3 a4 a5) (eggboxlaw01_SameAuto.f (k + 1) a0 a1 a2 a3 a4 a5) := by
  intro a0 a1 a2 a3 a4 a5 k
  obtain ⟨ih0, ih1⟩ := eggboxlaw01_SameAuto.mono_l k
  unfold eggboxlaw01_SameAuto.f
  repeat' first
      | (with_reducible exact ih0 _ _ _ _ _ _ _)
      | (with_reducible exact ih1 _ _ _ _ _ _ _)
      | (with_reducible exact eggboxlaw01_SameInts.mono _ _ _)
      | (with_reducible exact LeO.refl _)
      | (with_reducible exact LeO.none _)
      | (with_reducible refine LeO.ite ?_ ?_)
      | (with_reducible refine LeO.bind ?_ (fun _ => ?_))
      | exact ih0 _ _ _ _ _ _ _
      | exact ih1 _ _ _ _ _ _ _
      | exact eggboxlaw01_SameInts.mono _ _ _
      | exact LeO.none _
      | refine LeO.ite ?_ ?_
      | refine LeO.bind ?_ (fun _ => ?_)
set_option maxHeartbeats 8000000 in
set_option maxRecDepth 100000 in
theorem eggboxlaw01_SameAuto.calls (k : Nat) (a0_0 : Int) (A0_1 : Option Addr) (c0_1 : Nat) (l0_1 : List Int) (A0_2 : Option Addr) (c0_2 : Nat) (l0_2 : List Bool) (a1_0 : Int) (A1_1 : Option Addr) (c1_1 : Nat) (l1_1 : List Int) (A1_2 : Option Addr) (c1_2 : Nat) (l1_2 : List Bool) (r : Bool) (w : World) (hr0_1 : Kd.C (Kd.int .i64) w A0_1 l0_1.length l0_1) (hc0_1 : l0_1.length ≤ c0_1) (hr0_2 : Kd.C Kd.bool w A0_2 l0_2.length l0_2) (hc0_2 : l0_2.length ≤ c0_2) (hr1_1 : Kd.C (Kd.int .i64) w A1_1 l1_1.length l1_1) (hc1_1 : l1_1.length ≤ c1_1) (hr1_2 : Kd.C Kd.bool w A1_2 l1_2.length l1_2) (hc1_2 : l1_2.length ≤ c1_2) (h : eggboxlaw01_SameAuto.f k a0_0 l0_1 l0_2 a1_0 l1_1 l1_2 = some r) :
    Calls Try.prog 40 #[.agg #[.int .i64 a0_0, .slice A0_1 l0_1.length c0_1, .slice A0_2 l0_2.length c0_2], .agg #[.int .i64 a1_0, .slice A1_1 l1_1.length c1_1, .slice A1_2 l1_2.length c1_2]] w fun e w' => e = .returned (.bool r) ∧ Below w.heap.size w w' := by
  have hu77 := Try.underlying77
  have HR0_1 := Aside0.mk hr0_1
  have HC0_1 := Aside0.mk hc0_1
  clear hr0_1 hc0_1
  have HR0_2 := Aside0.mk hr0_2
  have HC0_2 := Aside0.mk hc0_2
  clear hr0_2 hc0_2
  have HR1_1 := Aside0.mk hr1_1
  have HC1_1 := Aside0.mk hc1_1
  clear hr1_1 hc1_1
  have HR1_2 := Aside0.mk hr1_2
  have HC1_2 := Aside0.mk hc1_2
  clear hr1_2 hc1_2
  have HB := Aside0.mk (Below.refl w.heap.size w)
  have H : (if a0_0 = a1_0 then ((eggboxlaw01_SameInts.f k l0_1 l1_1).bind fun t154 => (if t154 = true then (eggboxlaw01_SameAuto.j0 k ((l0_2.length : Int) != (l1_2.length : Int)) a0_0 l0_1 l0_2 a1_0 l1_1 l1_2) else (eggboxlaw01_SameAuto.j0 k true a0_0 l0_1 l0_2 a1_0 l1_1 l1_2))) else (eggboxlaw01_SameAuto.j0 k true a0_0 l0_1 l0_2 a1_0 l1_1 l1_2)) = some r := h
  clear h
  have HC3 := Aside0.mk H
  clear H
  go_enter Try.func40, Try.ntmps40
  go_upto_region 1 with (first | ((with_reducible refine gate_dst (N := 2) rfl ?_); (try (refine gate_guard (by rfl) ?_; dsimp only)); refine box_event ?hg (N := 2) ?hd (cs := #[.int .i64 a0_0, .slice A0_1 l0_1.length c0_1, .slice A0_2 l0_2.length c0_2]) (t := 77) ?hr ?_; (case hd => rfl); (case hg => rfl); (case hr => first | (go_simp; done) | (go_simp; rfl)); intro gb152 hg w4 hbox hb; have n0_ := Aside0.mk (below_step (by repeat (first | (with_reducible first | exact HB.out | apply below_alloc | apply pw_below_drewN | apply below_drew1) | exact HB.out)) hb); have n1_ := Aside0.mk (hbox); have n2_ := Aside0.mk ((by rw [hg]; exact (below_size (by repeat (first | (with_reducible first | exact HB.out | apply below_alloc | apply pw_below_drewN | apply below_drew1) | exact HB.out))) : w.heap.size ≤ gb152)); have n3_ := Aside0.mk ((by rw [hg]; exact (below_size (by repeat (first | (with_reducible first | exact HB.out | apply below_alloc | apply pw_below_drewN | apply below_drew1) | exact HB.out))) : w.heap.size ≤ gb152)); clear HB; have HB := n0_; have BK152 := n1_; have GW152 := n2_; have GE152 := n3_; clear n0_ n1_ n2_ n3_; clear hb hbox hg) | ((with_reducible refine gate_dst (N := 3) rfl ?_); (try (refine gate_guard (by rfl) ?_; dsimp only)); refine box_event ?hg (N := 3) ?hd (cs := #[.int .i64 a1_0, .slice A1_1 l1_1.length c1_1, .slice A1_2 l1_2.length c1_2]) (t := 77) ?hr ?_; (case hd => rfl); (case hg => rfl); (case hr => first | (go_simp; done) | (go_simp; rfl)); intro gb153 hg w5 hbox hb; have n0_ := Aside0.mk (blk_below (g := gb152) (o := .cells #[.int .i64 a0_0, .slice A0_1 l0_1.length c0_1, .slice A0_2 l0_2.length c0_2] 77 (0, 0)) (by (with_reducible repeat (first | refine blk_drewN ?_ _ | refine blk_drew ?_ | refine blk_alloc ?_ _)); exact BK152.out) hb); have n1_ := Aside0.mk (below_step (by repeat (first | (with_reducible first | exact HB.out | apply below_alloc | apply pw_below_drewN | apply below_drew1 | refine below_set ?_ GE152.out) | exact HB.out)) hb); have n2_ := Aside0.mk (hbox); have n3_ := Aside0.mk ((by rw [hg]; exact (below_size (by repeat (first | (with_reducible first | exact HB.out | apply below_alloc | apply pw_below_drewN | apply below_drew1 | refine below_set ?_ GE152.out) | exact HB.out))) : w.heap.size ≤ gb153)); have n4_ := Aside0.mk ((by rw [hg]; exact (below_size (by repeat (first | (with_reducible first | exact HB.out | apply below_alloc | apply pw_below_drewN | apply below_drew1 | refine below_set ?_ GE152.out) | exact HB.out))) : w.heap.size ≤ gb153)); have n5_ := Aside0.mk ((by rw [hg]; exact Nat.ne_of_lt (blk_lt (g := gb152) (o := .cells #[.int .i64 a0_0, .slice A0_1 l0_1.length c0_1, .slice A0_2 l0_2.length c0_2] 77 (0, 0)) (by (with_reducible repeat (first | refine blk_drewN ?_ _ | refine blk_drew ?_ | refine blk_alloc ?_ _)); exact BK152.out)) : gb152 ≠ gb153)); have n6_ := Aside0.mk ((by rw [hg]; exact Nat.ne_of_gt (blk_lt (g := gb152) (o := .cells #[.int .i64 a0_0, .slice A0_1 l0_1.length c0_1, .slice A0_2 l0_2.length c0_2] 77 (0, 0)) (by (with_reducible repeat (first | refine blk_drewN ?_ _ | refine blk_drew ?_ | refine blk_alloc ?_ _)); exact BK152.out)) : gb153 ≠ gb152)); clear BK152; clear HB; have BK152 := n0_; have HB := n1_; have BK153 := n2_; have GW153 := n3_; have GE153 := n4_; have NB152_153 := n5_; have NB153_152 := n6_; clear n0_ n1_ n2_ n3_ n4_ n5_ n6_; clear hb hbox hg))
  repeat (go_quiet (first | ((with_reducible refine gate_dst (N := 2) rfl ?_); (try (refine gate_guard (by rfl) ?_; dsimp only)); refine box_event ?hg (N := 2) ?hd (cs := #[.int .i64 a0_0, .slice A0_1 l0_1.length c0_1, .slice A0_2 l0_2.length c0_2]) (t := 77) ?hr ?_; (case hd => rfl); (case hg => rfl); (case hr => first | (go_simp; done) | (go_simp; rfl)); intro gb152 hg w4 hbox hb; have n0_ := Aside0.mk (below_step (by repeat (first | (with_reducible first | exact HB.out | apply below_alloc | apply pw_below_drewN | apply below_drew1) | exact HB.out)) hb); have n1_ := Aside0.mk (hbox); have n2_ := Aside0.mk ((by rw [hg]; exact (below_size (by repeat (first | (with_reducible first | exact HB.out | apply below_alloc | apply pw_below_drewN | apply below_drew1) | exact HB.out))) : w.heap.size ≤ gb152)); have n3_ := Aside0.mk ((by rw [hg]; exact (below_size (by repeat (first | (with_reducible first | exact HB.out | apply below_alloc | apply pw_below_drewN | apply below_drew1) | exact HB.out))) : w.heap.size ≤ gb152)); clear HB; have HB := n0_; have BK152 := n1_; have GW152 := n2_; have GE152 := n3_; clear n0_ n1_ n2_ n3_; clear hb hbox hg) | ((with_reducible refine gate_dst (N := 3) rfl ?_); (try (refine gate_guard (by rfl) ?_; dsimp only)); refine box_event ?hg (N := 3) ?hd (cs := #[.int .i64 a1_0, .slice A1_1 l1_1.length c1_1, .slice A1_2 l1_2.length c1_2]) (t := 77) ?hr ?_; (case hd => rfl); (case hg => rfl); (case hr => first | (go_simp; done) | (go_simp; rfl)); intro gb153 hg w5 hbox hb; have n0_ := Aside0.mk (blk_below (g := gb152) (o := .cells #[.int .i64 a0_0, .slice A0_1 l0_1.length c0_1, .slice A0_2 l0_2.length c0_2] 77 (0, 0)) (by (with_reducible repeat (first | refine blk_drewN ?_ _ | refine blk_drew ?_ | refine blk_alloc ?_ _)); exact BK152.out) hb); have n1_ := Aside0.mk (below_step (by repeat (first | (with_reducible first | exact HB.out | apply below_alloc | apply pw_below_drewN | apply below_drew1 | refine below_set ?_ GE152.out) | exact HB.out)) hb); have n2_ := Aside0.mk (hbox); have n3_ := Aside0.mk ((by rw [hg]; exact (below_size (by repeat (first | (with_reducible first | exact HB.out | apply below_alloc | apply pw_below_drewN | apply below_drew1 | refine below_set ?_ GE152.out) | exact HB.out))) : w.heap.size ≤ gb153)); have n4_ := Aside0.mk ((by rw [hg]; exact (below_size (by repeat (first | (with_reducible first | exact HB.out | apply below_alloc | apply pw_below_drewN | apply below_drew1 | refine below_set ?_ GE152.out) | exact HB.out))) : w.heap.size ≤ gb153)); have n5_ := Aside0.mk ((by rw [hg]; exact Nat.ne_of_lt (blk_lt (g := gb152) (o := .cells #[.int .i64 a0_0, .slice A0_1 l0_1.length c0_1, .slice A0_2 l0_2.length c0_2] 77 (0, 0)) (by (with_reducible repeat (first | refine blk_drewN ?_ _ | refine blk_drew ?_ | refine blk_alloc ?_ _)); exact BK152.out)) : gb152 ≠ gb153)); have n6_ := Aside0.mk ((by rw [hg]; exact Nat.ne_of_gt (blk_lt (g := gb152) (o := .cells #[.int .i64 a0_0, .slice A0_1 l0_1.length c0_1, .slice A0_2 l0_2.length c0_2] 77 (0, 0)) (by (with_reducible repeat (first | refine blk_drewN ?_ _ | refine blk_drew ?_ | refine blk_alloc ?_ _)); exact BK152.out)) : gb153 ≠ gb152)); clear BK152; clear HB; have BK152 := n0_; have HB := n1_; have BK153 := n2_; have GW153 := n3_; have GE153 := n4_; have NB152_153 := n5_; have NB153_152 := n6_; clear n0_ n1_ n2_ n3_ n4_ n5_ n6_; clear hb hbox hg)); go_upto_region 1 with (first | ((with_reducible refine gate_dst (N := 2) rfl ?_); (try (refine gate_guard (by rfl) ?_; dsimp only)); refine box_event ?hg (N := 2) ?hd (cs := #[.int .i64 a0_0, .slice A0_1 l0_1.length c0_1, .slice A0_2 l0_2.length c0_2]) (t := 77) ?hr ?_; (case hd => rfl); (case hg => rfl); (case hr => first | (go_simp; done) | (go_simp; rfl)); intro gb152 hg w4 hbox hb; have n0_ := Aside0.mk (below_step (by repeat (first | (with_reducible first | exact HB.out | apply below_alloc | apply pw_below_drewN | apply below_drew1) | exact HB.out)) hb); have n1_ := Aside0.mk (hbox); have n2_ := Aside0.mk ((by rw [hg]; exact (below_size (by repeat (first | (with_reducible first | exact HB.out | apply below_alloc | apply pw_below_drewN | apply below_drew1) | exact HB.out))) : w.heap.size ≤ gb152)); have n3_ := Aside0.mk ((by rw [hg]; exact (below_size (by repeat (first | (with_reducible first | exact HB.out | apply below_alloc | apply pw_below_drewN | apply below_drew1) | exact HB.out))) : w.heap.size ≤ gb152)); clear HB; have HB := n0_; have BK152 := n1_; have GW152 := n2_; have GE152 := n3_; clear n0_ n1_ n2_ n3_; clear hb hbox hg) | ((with_reducible refine gate_dst (N := 3) rfl ?_); (try (refine gate_guard (by rfl) ?_; dsimp only)); refine box_event ?hg (N := 3) ?hd (cs := #[.int .i64 a1_0, .slice A1_1 l1_1.length c1_1, .slice A1_2 l1_2.length c1_2]) (t := 77) ?hr ?_; (case hd => rfl); (case hg => rfl); (case hr => first | (go_simp; done) | (go_simp; rfl)); intro gb153 hg w5 hbox hb; have n0_ := Aside0.mk (blk_below (g := gb152) (o := .cells #[.int .i64 a0_0, .slice A0_1 l0_1.length c0_1, .slice A0_2 l0_2.length c0_2] 77 (0, 0)) (by (with_reducible repeat (first | refine blk_drewN ?_ _ | refine blk_drew ?_ | refine blk_alloc ?_ _)); exact BK152.out) hb); have n1_ := Aside0.mk (below_step (by repeat (first | (with_reducible first | exact HB.out | apply below_alloc | apply pw_below_drewN | apply below_drew1 | refine below_set ?_ GE152.out) | exact HB.out)) hb); have n2_ := Aside0.mk (hbox); have n3_ := Aside0.mk ((by rw [hg]; exact (below_size (by repeat (first | (with_reducible first | exact HB.out | apply below_alloc | apply pw_below_drewN | apply below_drew1 | refine below_set ?_ GE152.out) | exact HB.out))) : w.heap.size ≤ gb153)); have n4_ := Aside0.mk ((by rw [hg]; exact (below_size (by repeat (first | (with_reducible first | exact HB.out | apply below_alloc | apply pw_below_drewN | apply below_drew1 | refine below_set ?_ GE152.out) | exact HB.out))) : w.heap.size ≤ gb153)); have n5_ := Aside0.mk ((by rw [hg]; exact Nat.ne_of_lt (blk_lt (g := gb152) (o := .cells #[.int .i64 a0_0, .slice A0_1 l0_1.length c0_1, .slice A0_2 l0_2.length c0_2] 77 (0, 0)) (by (with_reducible repeat (first | refine blk_drewN ?_ _ | refine blk_drew ?_ | refine blk_alloc ?_ _)); exact BK152.out)) : gb152 ≠ gb153)); have n6_ := Aside0.mk ((by rw [hg]; exact Nat.ne_of_gt (blk_lt (g := gb152) (o := .cells #[.int .i64 a0_0, .slice A0_1 l0_1.length c0_1, .slice A0_2 l0_2.length c0_2] 77 (0, 0)) (by (with_reducible repeat (first | refine blk_drewN ?_ _ | refine blk_drew ?_ | refine blk_alloc ?_ _)); exact BK152.out)) : gb153 ≠ gb152)); clear BK152; clear HB; have BK152 := n0_; have HB := n1_; have BK153 := n2_; have GW153 := n3_; have GE153 := n4_; have NB152_153 := n5_; have NB153_152 := n6_; clear n0_ n1_ n2_ n3_ n4_ n5_ n6_; clear hb hbox hg)))
  (try simp only [Act.put, List.setIfInBounds_toArray, List.set_cons_zero, List.set_cons_succ])
  go_cut [27] (fun v27 wc => ∃ (kq : Nat) (x27_2 : Bool), v27 = .bool x27_2 ∧ Aside0 (eggboxlaw01_SameAuto.j0 kq x27_2 a0_0 l0_1 l0_2 a1_0 l1_1 l1_2 = some r) ∧ Aside0 (kq ≤ k) ∧ Aside0 (wc.heap[gb152]? = some (.cells #[.int .i64 a0_0, (.slice A0_1 l0_1.length c0_1), (.slice A0_2 l0_2.length c0_2)] 77 (0, 0))) ∧ Aside0 (wc.heap[gb153]? = some (.cells #[.int .i64 a1_0, (.slice A1_1 l1_1.length c1_1), (.slice A1_2 l1_2.length c1_2)] 77 (0, 0))) ∧ Aside0 (Below w.heap.size w wc))
  case first =>
    have H := HC3.out
    clear HC3
    by_cases c6 : a0_0 = a1_0
    · rw [if_pos c6] at H
      have c6b0 : (a0_0 == a1_0) = true := beq_iff_eq.mpr c6
      have c6b1 : (a0_0 != a1_0) = false := bne_eq_false_iff_eq.mpr c6
      clear c6
      (first | rw [c6b0] | (simp only [i64_w, i32_w]; rw [c6b0]) | skip)
      replace H := Option.bind_eq_some_iff.mp H
      obtain ⟨t154, A70, H⟩ := H
      replace H : (if t154 = true then (eggboxlaw01_SameAuto.j0 k ((l0_2.length : Int) != (l1_2.length : Int)) a0_0 l0_1 l0_2 a1_0 l1_1 l1_2) else (eggboxlaw01_SameAuto.j0 k true a0_0 l0_1 l0_2 a1_0 l1_1 l1_2)) = some r := H
      have A7 := Aside0.mk A70
      clear A70
      by_cases c8 : t154 = true
      · subst c8
        have H1 : (eggboxlaw01_SameAuto.j0 k ((l0_2.length : Int) != (l1_2.length : Int)) a0_0 l0_1 l0_2 a1_0 l1_1 l1_2) = some r := by rw [if_pos rfl] at H; exact H
        clear H
        have H := H1
        clear H1
        have H' := Aside0.mk H
        clear H
        have hnb9 := NB152_153.out
        have hnc9 := NB153_152.out
        have hcz10_0 : w5.cell? ⟨gb152, 0, none⟩ = some (.int .i64 a0_0) := (blk_cell BK152.out 0).trans rfl
        have hcz10_1 : w5.cell? ⟨gb152, 1, none⟩ = some (.slice A0_1 l0_1.length c0_1) := (blk_cell BK152.out 1).trans rfl
        have hcz10_2 : w5.cell? ⟨gb152, 2, none⟩ = some (.slice A0_2 l0_2.length c0_2) := (blk_cell BK152.out 2).trans rfl
        have hfz10_0 := blk_frozen BK152.out 0
        have hfz10_1 := blk_frozen BK152.out 1
        have hfz10_2 := blk_frozen BK152.out 2
        have hcz11_0 : w5.cell? ⟨gb153, 0, none⟩ = some (.int .i64 a1_0) := (blk_cell BK153.out 0).trans rfl
        have hcz11_1 : w5.cell? ⟨gb153, 1, none⟩ = some (.slice A1_1 l1_1.length c1_1) := (blk_cell BK153.out 1).trans rfl
        have hcz11_2 : w5.cell? ⟨gb153, 2, none⟩ = some (.slice A1_2 l1_2.length c1_2) := (blk_cell BK153.out 2).trans rfl
        have hfz11_0 := blk_frozen BK153.out 0
        have hfz11_1 := blk_frozen BK153.out 1
        have hfz11_2 := blk_frozen BK153.out 2
        go_wp2_with (first | (go_at_call 50; (with_reducible refine (eggboxlaw01_SameInts.calls k _ _ l0_1 _ _ l1_1 true _ ?side1 ?side2 ?side3 ?side4 A7.out).mono ?_); (case side1 => repeat (first | exact (Kd.C_below HR0_1.out HB.out) | (with_reducible refine Kd.C_alloc ?_ _) | (with_reducible refine Kd.C_drewN ?_ _) | (with_reducible refine Kd.C_drew ?_))); (case side2 => exact HC0_1.out); (case side3 => repeat (first | exact (Kd.C_below HR1_1.out HB.out) | (with_reducible refine Kd.C_alloc ?_ _) | (with_reducible refine Kd.C_drewN ?_ _) | (with_reducible refine Kd.C_drew ?_))); (case side4 => exact HC1_1.out); rintro e w' ⟨rfl, ⟨nd, rfl⟩⟩; (try first | exact ⟨rfl, _, World.drewN_drewN _ _ _⟩ | exact ⟨rfl, _, Eq.trans (World.drewN_drewN _ _ _) (congrArg (World.drewN _) (Nat.add_assoc _ _ _))⟩)))
        repeat (go_quiet (first | (go_at_call 50; (with_reducible refine (eggboxlaw01_SameInts.calls k _ _ l0_1 _ _ l1_1 true _ ?side1 ?side2 ?side3 ?side4 A7.out).mono ?_); (case side1 => repeat (first | exact (Kd.C_below HR0_1.out HB.out) | (with_reducible refine Kd.C_alloc ?_ _) | (with_reducible refine Kd.C_drewN ?_ _) | (with_reducible refine Kd.C_drew ?_))); (case side2 => exact HC0_1.out); (case side3 => repeat (first | exact (Kd.C_below HR1_1.out HB.out) | (with_reducible refine Kd.C_alloc ?_ _) | (with_reducible refine Kd.C_drewN ?_ _) | (with_reducible refine Kd.C_drew ?_))); (case side4 => exact HC1_1.out); rintro e w' ⟨rfl, ⟨nd, rfl⟩⟩; (try first | exact ⟨rfl, _, World.drewN_drewN _ _ _⟩ | exact ⟨rfl, _, Eq.trans (World.drewN_drewN _ _ _) (congrArg (World.drewN _) (Nat.add_assoc _ _ _))⟩))); try go_wp2_with (first | (go_at_call 50; (with_reducible refine (eggboxlaw01_SameInts.calls k _ _ l0_1 _ _ l1_1 true _ ?side1 ?side2 ?side3 ?side4 A7.out).mono ?_); (case side1 => repeat (first | exact (Kd.C_below HR0_1.out HB.out) | (with_reducible refine Kd.C_alloc ?_ _) | (with_reducible refine Kd.C_drewN ?_ _) | (with_reducible refine Kd.C_drew ?_))); (case side2 => exact HC0_1.out); (case side3 => repeat (first | exact (Kd.C_below HR1_1.out HB.out) | (with_reducible refine Kd.C_alloc ?_ _) | (with_reducible refine Kd.C_drewN ?_ _) | (with_reducible refine Kd.C_drew ?_))); (case side4 => exact HC1_1.out); rintro e w' ⟨rfl, ⟨nd, rfl⟩⟩; (try first | exact ⟨rfl, _, World.drewN_drewN _ _ _⟩ | exact ⟨rfl, _, Eq.trans (World.drewN_drewN _ _ _) (congrArg (World.drewN _) (Nat.add_assoc _ _ _))⟩))))
        go_meet
        case rel => exact ⟨_, (((l0_2.length : Int) != (l1_2.length : Int))), (by first | rfl | (simp; done) | (simp [*]; done)), H', ⟨by first | omega | exact Nat.le_refl _⟩, ⟨by (with_reducible repeat (first | refine blk_drewN ?_ _ | refine blk_drew ?_ | refine blk_alloc ?_ _)); exact BK152.out⟩, ⟨by (with_reducible repeat (first | refine blk_drewN ?_ _ | refine blk_drew ?_ | refine blk_alloc ?_ _)); exact BK153.out⟩, ⟨by repeat (first | (with_reducible first | exact HB.out | apply below_alloc | apply pw_below_drewN | apply below_drew1 | refine below_set ?_ GE152.out | refine below_set ?_ GE153.out) | exact HB.out)⟩⟩
      · replace c8 := Bool.eq_false_iff.mpr c8
        subst c8
        have H1 : (eggboxlaw01_SameAuto.j0 k true a0_0 l0_1 l0_2 a1_0 l1_1 l1_2) = some r := by rw [if_neg (show ¬ (false = true) by decide)] at H; exact H
        clear H
        have H := H1
        clear H1
        have H' := Aside0.mk H
        clear H
        have hnb12 := NB152_153.out
        have hnc12 := NB153_152.out
        have hcz13_0 : w5.cell? ⟨gb152, 0, none⟩ = some (.int .i64 a0_0) := (blk_cell BK152.out 0).trans rfl
        have hcz13_1 : w5.cell? ⟨gb152, 1, none⟩ = some (.slice A0_1 l0_1.length c0_1) := (blk_cell BK152.out 1).trans rfl
        have hcz13_2 : w5.cell? ⟨gb152, 2, none⟩ = some (.slice A0_2 l0_2.length c0_2) := (blk_cell BK152.out 2).trans rfl
        have hfz13_0 := blk_frozen BK152.out 0
        have hfz13_1 := blk_frozen BK152.out 1
        have hfz13_2 := blk_frozen BK152.out 2
        have hcz14_0 : w5.cell? ⟨gb153, 0, none⟩ = some (.int .i64 a1_0) := (blk_cell BK153.out 0).trans rfl
        have hcz14_1 : w5.cell? ⟨gb153, 1, none⟩ = some (.slice A1_1 l1_1.length c1_1) := (blk_cell BK153.out 1).trans rfl
        have hcz14_2 : w5.cell? ⟨gb153, 2, none⟩ = some (.slice A1_2 l1_2.length c1_2) := (blk_cell BK153.out 2).trans rfl
        have hfz14_0 := blk_frozen BK153.out 0
        have hfz14_1 := blk_frozen BK153.out 1
        have hfz14_2 := blk_frozen BK153.out 2
        go_wp2_with (first | (go_at_call 50; (with_reducible refine (eggboxlaw01_SameInts.calls k _ _ l0_1 _ _ l1_1 false _ ?side1 ?side2 ?side3 ?side4 A7.out).mono ?_); (case side1 => repeat (first | exact (Kd.C_below HR0_1.out HB.out) | (with_reducible refine Kd.C_alloc ?_ _) | (with_reducible refine Kd.C_drewN ?_ _) | (with_reducible refine Kd.C_drew ?_))); (case side2 => exact HC0_1.out); (case side3 => repeat (first | exact (Kd.C_below HR1_1.out HB.out) | (with_reducible refine Kd.C_alloc ?_ _) | (with_reducible refine Kd.C_drewN ?_ _) | (with_reducible refine Kd.C_drew ?_))); (case side4 => exact HC1_1.out); rintro e w' ⟨rfl, ⟨nd, rfl⟩⟩; (try first | exact ⟨rfl, _, World.drewN_drewN _ _ _⟩ | exact ⟨rfl, _, Eq.trans (World.drewN_drewN _ _ _) (congrArg (World.drewN _) (Nat.add_assoc _ _ _))⟩)))
        repeat (go_quiet (first | (go_at_call 50; (with_reducible refine (eggboxlaw01_SameInts.calls k _ _ l0_1 _ _ l1_1 false _ ?side1 ?side2 ?side3 ?side4 A7.out).mono ?_); (case side1 => repeat (first | exact (Kd.C_below HR0_1.out HB.out) | (with_reducible refine Kd.C_alloc ?_ _) | (with_reducible refine Kd.C_drewN ?_ _) | (with_reducible refine Kd.C_drew ?_))); (case side2 => exact HC0_1.out); (case side3 => repeat (first | exact (Kd.C_below HR1_1.out HB.out) | (with_reducible refine Kd.C_alloc ?_ _) | (with_reducible refine Kd.C_drewN ?_ _) | (with_reducible refine Kd.C_drew ?_))); (case side4 => exact HC1_1.out); rintro e w' ⟨rfl, ⟨nd, rfl⟩⟩; (try first | exact ⟨rfl, _, World.drewN_drewN _ _ _⟩ | exact ⟨rfl, _, Eq.trans (World.drewN_drewN _ _ _) (congrArg (World.drewN _) (Nat.add_assoc _ _ _))⟩))); try go_wp2_with (first | (go_at_call 50; (with_reducible refine (eggboxlaw01_SameInts.calls k _ _ l0_1 _ _ l1_1 false _ ?side1 ?side2 ?side3 ?side4 A7.out).mono ?_); (case side1 => repeat (first | exact (Kd.C_below HR0_1.out HB.out) | (with_reducible refine Kd.C_alloc ?_ _) | (with_reducible refine Kd.C_drewN ?_ _) | (with_reducible refine Kd.C_drew ?_))); (case side2 => exact HC0_1.out); (case side3 => repeat (first | exact (Kd.C_below HR1_1.out HB.out) | (with_reducible refine Kd.C_alloc ?_ _) | (with_reducible refine Kd.C_drewN ?_ _) | (with_reducible refine Kd.C_drew ?_))); (case side4 => exact HC1_1.out); rintro e w' ⟨rfl, ⟨nd, rfl⟩⟩; (try first | exact ⟨rfl, _, World.drewN_drewN _ _ _⟩ | exact ⟨rfl, _, Eq.trans (World.drewN_drewN _ _ _) (congrArg (World.drewN _) (Nat.add_assoc _ _ _))⟩))))
        go_meet
        case rel => exact ⟨_, (true), (by first | rfl | (simp; done) | (simp [*]; done)), H', ⟨by first | omega | exact Nat.le_refl _⟩, ⟨by (with_reducible repeat (first | refine blk_drewN ?_ _ | refine blk_drew ?_ | refine blk_alloc ?_ _)); exact BK152.out⟩, ⟨by (with_reducible repeat (first | refine blk_drewN ?_ _ | refine blk_drew ?_ | refine blk_alloc ?_ _)); exact BK153.out⟩, ⟨by repeat (first | (with_reducible first | exact HB.out | apply below_alloc | apply pw_below_drewN | apply below_drew1 | refine below_set ?_ GE152.out | refine below_set ?_ GE153.out) | exact HB.out)⟩⟩
    · rw [if_neg c6] at H
      have c6b0 : (a0_0 == a1_0) = false := beq_eq_false_iff_ne.mpr c6
      have c6b1 : (a0_0 != a1_0) = true := bne_iff_ne.mpr c6
      (first | rw [c6b0] | (simp only [i64_w, i32_w]; rw [c6b0]) | skip)
      have H' := Aside0.mk H
      clear H
      have hnb15 := NB152_153.out
      have hnc15 := NB153_152.out
      have hcz16_0 : w5.cell? ⟨gb152, 0, none⟩ = some (.int .i64 a0_0) := (blk_cell BK152.out 0).trans rfl
      have hcz16_1 : w5.cell? ⟨gb152, 1, none⟩ = some (.slice A0_1 l0_1.length c0_1) := (blk_cell BK152.out 1).trans rfl
      have hcz16_2 : w5.cell? ⟨gb152, 2, none⟩ = some (.slice A0_2 l0_2.length c0_2) := (blk_cell BK152.out 2).trans rfl
      have hfz16_0 := blk_frozen BK152.out 0
      have hfz16_1 := blk_frozen BK152.out 1
      have hfz16_2 := blk_frozen BK152.out 2
      have hcz17_0 : w5.cell? ⟨gb153, 0, none⟩ = some (.int .i64 a1_0) := (blk_cell BK153.out 0).trans rfl
      have hcz17_1 : w5.cell? ⟨gb153, 1, none⟩ = some (.slice A1_1 l1_1.length c1_1) := (blk_cell BK153.out 1).trans rfl
      have hcz17_2 : w5.cell? ⟨gb153, 2, none⟩ = some (.slice A1_2 l1_2.length c1_2) := (blk_cell BK153.out 2).trans rfl
      have hfz17_0 := blk_frozen BK153.out 0
      have hfz17_1 := blk_frozen BK153.out 1
      have hfz17_2 := blk_frozen BK153.out 2
      go_wp2
      repeat (go_quiet (fail); try go_wp2)
      go_meet
      case rel => exact ⟨_, (true), (by first | rfl | (simp; done) | (simp [*]; done)), H', ⟨by first | omega | exact Nat.le_refl _⟩, ⟨by (with_reducible repeat (first | refine blk_drewN ?_ _ | refine blk_drew ?_ | refine blk_alloc ?_ _)); exact BK152.out⟩, ⟨by (with_reducible repeat (first | refine blk_drewN ?_ _ | refine blk_drew ?_ | refine blk_alloc ?_ _)); exact BK153.out⟩, ⟨by repeat (first | (with_reducible first | exact HB.out | apply below_alloc | apply pw_below_drewN | apply below_drew1 | refine below_set ?_ GE152.out | refine below_set ?_ GE153.out) | exact HB.out)⟩⟩
  case rest =>
    clear HC3
    try clear c1
    try clear p2
    try clear c4
    try clear c6
    try clear c6b0
    try clear c6b1
    try clear c8
    try clear c9
    try clear c12
    try clear c15
    try clear hcz10_0
    try clear hcz10_1
    try clear hcz10_2
    try clear hcz11_0
    try clear hcz11_1
    try clear hcz11_2
    try clear hcz13_0
    try clear hcz13_1
    try clear hcz13_2
    try clear hcz14_0
    try clear hcz14_1
    try clear hcz14_2
    try clear hcz16_0
    try clear hcz16_1
    try clear hcz16_2
    try clear hcz17_0
    try clear hcz17_1
    try clear hcz17_2
    try clear hfz10_0
    try clear hfz10_1
    try clear hfz10_2
    try clear hfz11_0
    try clear hfz11_1
    try clear hfz11_2
    try clear hfz13_0
    try clear hfz13_1
    try clear hfz13_2
    try clear hfz14_0
    try clear hfz14_1
    try clear hfz14_2
    try clear hfz16_0
    try clear hfz16_1
    try clear hfz16_2
    try clear hfz17_0
    try clear hfz17_1
    try clear hfz17_2
    obtain ⟨kq, x27_2, rfl, HA, HJ2, BK152, BK153, HB⟩ := hcut
    cases kq with
    | zero => exact absurd HA.out (by simp [eggboxlaw01_SameAuto.j0])
    | succ kj2 =>
      have H := HA.out
      clear HA
      simp only [eggboxlaw01_SameAuto.j0] at H
      by_cases c18 : x27_2 = true
      · subst c18
        have H1 : (some false) = some r := by rw [if_pos rfl] at H; exact H
        clear H
        have H := H1
        clear H1
        obtain rfl := Option.some.inj H
        go_wp2
        repeat (go_quiet (fail); try go_wp2)
        go_ret
        exact ⟨by first | rfl | (simp [errW_none, errW_some] <;> rfl) | (simp [*, errW_none, errW_some] <;> rfl), by repeat (first | (with_reducible first | exact HB.out | apply below_alloc | apply pw_below_drewN | apply below_drew1 | refine below_set ?_ GE152.out | refine below_set ?_ GE153.out) | exact HB.out)⟩
      · replace c18 := Bool.eq_false_iff.mpr c18
        subst c18
        have H1 : (eggboxlaw01_SameAuto.l0 kj2 0 a0_0 l0_1 l0_2 a1_0 l1_1 l1_2) = some r := by rw [if_neg (show ¬ (false = true) by decide)] at H; exact H
        clear H
        have H := H1
        clear H1
        have H' := Aside0.mk H
        clear H
        go_wp2
        repeat (go_quiet (fail); try go_wp2)
        go_loopg [5] kj2 (fun kq v5 w' => ∃ (x5_2 : Int), v5 = .int .i64 x5_2 ∧ Aside0 (eggboxlaw01_SameAuto.l0 kq x5_2 a0_0 l0_1 l0_2 a1_0 l1_1 l1_2 = some r) ∧ Aside0 (kq ≤ kj2) ∧ Aside0 (w'.heap[gb152]? = some (.cells #[.int .i64 a0_0, (.slice A0_1 l0_1.length c0_1), (.slice A0_2 l0_2.length c0_2)] 77 (0, 0))) ∧ Aside0 (w'.heap[gb153]? = some (.cells #[.int .i64 a1_0, (.slice A1_1 l1_1.length c1_1), (.slice A1_2 l1_2.length c1_2)] 77 (0, 0))) ∧ Aside0 (Below w.heap.size w w'))
        case atStart => exact ⟨(0), (by first | rfl | (simp; done) | (simp [*]; done)), H', ⟨Nat.le_refl _⟩, ⟨by (with_reducible repeat (first | refine blk_drewN ?_ _ | refine blk_drew ?_ | refine blk_alloc ?_ _)); exact BK152.out⟩, ⟨by (with_reducible repeat (first | refine blk_drewN ?_ _ | refine blk_drew ?_ | refine blk_alloc ?_ _)); exact BK153.out⟩, ⟨by repeat (first | (with_reducible first | exact HB.out | apply below_alloc | apply pw_below_drewN | apply below_drew1 | refine below_set ?_ GE152.out | refine below_set ?_ GE153.out) | exact HB.out)⟩⟩
        case round =>
          clear H'
          try clear c1
          try clear p2
          try clear c4
          try clear c6
          try clear c6b0
          try clear c6b1
          try clear c8
          try clear c9
          try clear c12
          try clear c15
          try clear c18
          try clear hcz10_0
          try clear hcz10_1
          try clear hcz10_2
          try clear hcz11_0
          try clear hcz11_1
          try clear hcz11_2
          try clear hcz13_0
          try clear hcz13_1
          try clear hcz13_2
          try clear hcz14_0
          try clear hcz14_1
          try clear hcz14_2
          try clear hcz16_0
          try clear hcz16_1
          try clear hcz16_2
          try clear hcz17_0
          try clear hcz17_1
          try clear hcz17_2
          try clear hfz10_0
          try clear hfz10_1
          try clear hfz10_2
          try clear hfz11_0
          try clear hfz11_1
          try clear hfz11_2
          try clear hfz13_0
          try clear hfz13_1
          try clear hfz13_2
          try clear hfz14_0
          try clear hfz14_1
          try clear hfz14_2
          try clear hfz16_0
          try clear hfz16_1
          try clear hfz16_2
          try clear hfz17_0
          try clear hfz17_1
          try clear hfz17_2
          try clear p2
          obtain ⟨x5_2, rfl, HA, HK2, BK152, BK153, HB⟩ := hrel
          cases gk with
          | zero => exact absurd HA.out (by simp [eggboxlaw01_SameAuto.l0])
          | succ k2 =>
            have H := HA.out
            clear HA
            simp only [eggboxlaw01_SameAuto.l0] at H
            by_cases c19 : x5_2 < (l0_2.length : Int)
            · rw [if_pos c19] at H
              have c19b0 : decide (x5_2 < (l0_2.length : Int)) = true := decide_eq_true c19
              clear c19
              by_cases c20 : 0 ≤ x5_2
              · rw [if_pos c20] at H
                have c20b0 : decide (0 ≤ x5_2) = true := decide_eq_true c20
                clear c20
                by_cases c21 : x5_2 < (l1_2.length : Int)
                · rw [if_pos c21] at H
                  have c21b0 : decide (x5_2 < (l1_2.length : Int)) = true := decide_eq_true c21
                  clear c21
                  by_cases c22 : ((rdOf false l0_2 x5_2) != (rdOf false l1_2 x5_2)) = true
                  · rw [if_pos c22] at H
                    have c22b0 : ((rdOf false l0_2 x5_2) != (rdOf false l1_2 x5_2)) = true := c22
                    (try (have c22b1 : decide ((rdOf false l0_2 x5_2) = (rdOf false l1_2 x5_2)) = false := by simpa using c22))
                    (try (have c22b2 : ((rdOf false l0_2 x5_2) == (rdOf false l1_2 x5_2)) = false := by simpa using c22))
                    (try (have c22b3 : ¬ ((rdOf false l0_2 x5_2) = (rdOf false l1_2 x5_2)) := by simpa using c22))
                    clear c22
                    obtain rfl := Option.some.inj H
                    have hnb23 := NB152_153.out
                    have hnc23 := NB153_152.out
                    have hcz24_0 : wr.cell? ⟨gb152, 0, none⟩ = some (.int .i64 a0_0) := (blk_cell BK152.out 0).trans rfl
                    have hcz24_1 : wr.cell? ⟨gb152, 1, none⟩ = some (.slice A0_1 l0_1.length c0_1) := (blk_cell BK152.out 1).trans rfl
                    have hcz24_2 : wr.cell? ⟨gb152, 2, none⟩ = some (.slice A0_2 l0_2.length c0_2) := (blk_cell BK152.out 2).trans rfl
                    have hfz24_0 := blk_frozen BK152.out 0
                    have hfz24_1 := blk_frozen BK152.out 1
                    have hfz24_2 := blk_frozen BK152.out 2
                    have p155 : 0 ≤ (x5_2 : Int) := of_decide_eq_true (by first | (with_reducible assumption) | assumption)
                    have q155 : x5_2 < (l0_2.length : Int) := of_decide_eq_true (by first | (with_reducible assumption) | assumption)
                    obtain ⟨ad155, e155, hx155_0⟩ := Kd.at_bool HR0_2.out x5_2 p155 q155
                    cases e155
                    replace hx155_0 := (HB.out.cell (World.block_lt_of_cell? w _ hx155_0)).trans hx155_0
                    replace p155 := eq_true p155
                    replace q155 := eq_true q155
                    have hcz25_0 : wr.cell? ⟨gb153, 0, none⟩ = some (.int .i64 a1_0) := (blk_cell BK153.out 0).trans rfl
                    have hcz25_1 : wr.cell? ⟨gb153, 1, none⟩ = some (.slice A1_1 l1_1.length c1_1) := (blk_cell BK153.out 1).trans rfl
                    have hcz25_2 : wr.cell? ⟨gb153, 2, none⟩ = some (.slice A1_2 l1_2.length c1_2) := (blk_cell BK153.out 2).trans rfl
                    have hfz25_0 := blk_frozen BK153.out 0
                    have hfz25_1 := blk_frozen BK153.out 1
                    have hfz25_2 := blk_frozen BK153.out 2
                    have p156 : 0 ≤ (x5_2 : Int) := of_decide_eq_true (by first | (with_reducible assumption) | assumption)
                    have q156 : x5_2 < (l1_2.length : Int) := of_decide_eq_true (by first | (with_reducible assumption) | assumption)
                    obtain ⟨ad156, e156, hx156_0⟩ := Kd.at_bool HR1_2.out x5_2 p156 q156
                    cases e156
                    replace hx156_0 := (HB.out.cell (World.block_lt_of_cell? w _ hx156_0)).trans hx156_0
                    replace p156 := eq_true p156
                    replace q156 := eq_true q156
                    go_wp2
                    repeat (go_quiet (fail); try go_wp2)
                    go_ret
                    exact ⟨by first | rfl | (simp [errW_none, errW_some] <;> rfl) | (simp [*, errW_none, errW_some] <;> rfl), by repeat (first | (with_reducible first | exact HB.out | apply below_alloc | apply pw_below_drewN | apply below_drew1 | refine below_set ?_ GE152.out | refine below_set ?_ GE153.out) | exact HB.out)⟩
                  · rw [if_neg c22] at H
                    have c22b0 : ((rdOf false l0_2 x5_2) != (rdOf false l1_2 x5_2)) = false := by simpa using c22
                    (try (have c22b1 : decide ((rdOf false l0_2 x5_2) = (rdOf false l1_2 x5_2)) = true := by simpa using c22))
                    (try (have c22b2 : ((rdOf false l0_2 x5_2) == (rdOf false l1_2 x5_2)) = true := by simpa using c22))
                    clear c22
                    have H' := Aside0.mk H
                    clear H
                    have hnb26 := NB152_153.out
                    have hnc26 := NB153_152.out
                    have hcz27_0 : wr.cell? ⟨gb152, 0, none⟩ = some (.int .i64 a0_0) := (blk_cell BK152.out 0).trans rfl
                    have hcz27_1 : wr.cell? ⟨gb152, 1, none⟩ = some (.slice A0_1 l0_1.length c0_1) := (blk_cell BK152.out 1).trans rfl
                    have hcz27_2 : wr.cell? ⟨gb152, 2, none⟩ = some (.slice A0_2 l0_2.length c0_2) := (blk_cell BK152.out 2).trans rfl
                    have hfz27_0 := blk_frozen BK152.out 0
                    have hfz27_1 := blk_frozen BK152.out 1
                    have hfz27_2 := blk_frozen BK152.out 2
                    have p155 : 0 ≤ (x5_2 : Int) := of_decide_eq_true (by first | (with_reducible assumption) | assumption)
                    have q155 : x5_2 < (l0_2.length : Int) := of_decide_eq_true (by first | (with_reducible assumption) | assumption)
                    obtain ⟨ad155, e155, hx155_0⟩ := Kd.at_bool HR0_2.out x5_2 p155 q155
                    cases e155
                    replace hx155_0 := (HB.out.cell (World.block_lt_of_cell? w _ hx155_0)).trans hx155_0
                    replace p155 := eq_true p155
                    replace q155 := eq_true q155
                    have hcz28_0 : wr.cell? ⟨gb153, 0, none⟩ = some (.int .i64 a1_0) := (blk_cell BK153.out 0).trans rfl
                    have hcz28_1 : wr.cell? ⟨gb153, 1, none⟩ = some (.slice A1_1 l1_1.length c1_1) := (blk_cell BK153.out 1).trans rfl
                    have hcz28_2 : wr.cell? ⟨gb153, 2, none⟩ = some (.slice A1_2 l1_2.length c1_2) := (blk_cell BK153.out 2).trans rfl
                    have hfz28_0 := blk_frozen BK153.out 0
                    have hfz28_1 := blk_frozen BK153.out 1
                    have hfz28_2 := blk_frozen BK153.out 2
                    have p156 : 0 ≤ (x5_2 : Int) := of_decide_eq_true (by first | (with_reducible assumption) | assumption)
                    have q156 : x5_2 < (l1_2.length : Int) := of_decide_eq_true (by first | (with_reducible assumption) | assumption)
                    obtain ⟨ad156, e156, hx156_0⟩ := Kd.at_bool HR1_2.out x5_2 p156 q156
                    cases e156
                    replace hx156_0 := (HB.out.cell (World.block_lt_of_cell? w _ hx156_0)).trans hx156_0
                    replace p156 := eq_true p156
                    replace q156 := eq_true q156
                    go_wp2
                    repeat (go_quiet (fail); try go_wp2)
                    go_roundg k2
                    case measure => have := HJ2.out; have := HK2.out; omega
                    case rel => exact ⟨(wrap64 (x5_2 + 1)), (by first | rfl | (simp; done) | (simp [*]; done)), H', ⟨by have := HJ2.out; have := HK2.out; omega⟩, ⟨by (with_reducible repeat (first | refine blk_drewN ?_ _ | refine blk_drew ?_ | refine blk_alloc ?_ _)); exact BK152.out⟩, ⟨by (with_reducible repeat (first | refine blk_drewN ?_ _ | refine blk_drew ?_ | refine blk_alloc ?_ _)); exact BK153.out⟩, ⟨by repeat (first | (with_reducible first | exact HB.out | apply below_alloc | apply pw_below_drewN | apply below_drew1 | refine below_set ?_ GE152.out | refine below_set ?_ GE153.out) | exact HB.out)⟩⟩
                · rw [if_neg c21] at H
                  exact absurd H (by simp)
              · rw [if_neg c20] at H
                exact absurd H (by simp)
            · rw [if_neg c19] at H
              have c19b0 : decide (x5_2 < (l0_2.length : Int)) = false := decide_eq_false c19
              clear c19
              obtain rfl := Option.some.inj H
              have hnb29 := NB152_153.out
              have hnc29 := NB153_152.out
              have hcz30_0 : wr.cell? ⟨gb152, 0, none⟩ = some (.int .i64 a0_0) := (blk_cell BK152.out 0).trans rfl
              have hcz30_1 : wr.cell? ⟨gb152, 1, none⟩ = some (.slice A0_1 l0_1.length c0_1) := (blk_cell BK152.out 1).trans rfl
              have hcz30_2 : wr.cell? ⟨gb152, 2, none⟩ = some (.slice A0_2 l0_2.length c0_2) := (blk_cell BK152.out 2).trans rfl
              have hfz30_0 := blk_frozen BK152.out 0
              have hfz30_1 := blk_frozen BK152.out 1
              have hfz30_2 := blk_frozen BK152.out 2
              go_wp2
              repeat (go_quiet (fail); try go_wp2)
              go_ret
              exact ⟨by first | rfl | (simp [errW_none, errW_some] <;> rfl) | (simp [*, errW_none, errW_some] <;> rfl), by repeat (first | (with_reducible first | exact HB.out | apply below_alloc | apply pw_below_drewN | apply below_drew1 | refine below_set ?_ GE152.out | refine below_set ?_ GE153.out) | exact HB.out)⟩

-- NOT PRINTED: function 10 (eggboxlaw13_TransWords)

end Go.Proofs.Ytpebnldoimoahaa.PTransWords

namespace Go.Proofs.Ytpebnldoimoahaa
open Go.RowKit Go.Proofs.YtpebnldoimoahaaW.PrintWords Go.Proofs.Ytpebnldoimoahaa.PTransWords
set_option linter.unusedSimpArgs false
/-- The places so far: i letters read, the first j places one letter further. -/
def dl (x : AutV) (v : ByteArray) (i j : Nat) : List Nat := (List.range x.acc.length).map fun s => fol x s (v.data.toList.take (if s < j then i + 1 else i))
theorem dl_len (x : AutV) (v : ByteArray) (i j : Nat) : (dl x v i j).length = x.acc.length := by simp [dl]
theorem dl_getD (x : AutV) (v : ByteArray) (i j s : Nat) (h : s < x.acc.length) : (dl x v i j).getD s 0 = fol x s (v.data.toList.take (if s < j then i + 1 else i)) := by simp [dl, List.getD_eq_getElem?_getD, h]
theorem dl_zero (x : AutV) (v : ByteArray) : dl x v 0 0 = List.range x.acc.length := by
  unfold dl
  conv => rhs; rw [← List.map_id (List.range x.acc.length)]
  exact List.map_congr_left fun s _ => by simp [fol]
theorem dl_next (x : AutV) (v : ByteArray) (i : Nat) : dl x v i x.acc.length = dl x v (i + 1) 0 :=
  List.map_congr_left fun s hs => by rw [if_pos (List.mem_range.1 hs), if_neg (by omega)]
theorem dl_end (x : AutV) (v : ByteArray) : dl x v v.size 0 = wL x v :=
  List.map_congr_left fun s hs => by rw [if_neg (by omega), List.take_of_length_le (by simp)]
theorem dl_set (x : AutV) (v : ByteArray) (i j : Nat) (hi : i < v.size) (_hj : j < x.acc.length) : (dl x v i j).set j (stp x (fol x j (v.data.toList.take i)) ((v[i]'hi).toNat - 97)) = dl x v i (j + 1) := by
  apply List.ext_getElem (by simp [dl])
  intro s h1 h2
  simp only [dl, List.getElem_set, List.getElem_map, List.getElem_range]
  by_cases e : j = s
  · subst e
    rw [if_pos rfl, if_pos (by omega), byte_take v i hi, fol_snoc]
  · rw [if_neg e]
    by_cases h : s < j
    · rw [if_pos h, if_pos (by omega)]
    · rw [if_neg h, if_neg (by omega)]
theorem does_idx {x : AutV} (h : AutOk x) {v : ByteArray} (hv : letB x.k v = true) {s i : Nat} (hs : s < x.acc.length) (hi : i < v.size) :
    wrap64 (wrap64 ((s : Int) * x.k) + ((bt v (i : Int) - 97) % 256)) = ((s * x.k.toNat + ((v[i]'hi).toNat - 97) : Nat) : Int) := by
  have h1 := letB_at hv i hi
  obtain ⟨a1, a2⟩ := aut_mul (m := s) h.1 h.2.1 (by have := h.2.2.2.1; omega)
  have hb : bt v (i : Int) = ((v[i]'hi).toNat : Int) := by simp [bt, hi]
  have hk := h.1
  have hk8 := h.2.1
  rw [hb, IntWalk.wrap64_in ((s : Int) * x.k) (by omega)]
  obtain ⟨k, e⟩ := Int.eq_ofNat_of_zero_le (show 0 ≤ x.k by omega)
  rw [e] at a1 a2 h1 hk8 ⊢
  generalize (v[i]'hi).toNat = b at *
  have e2 : ((b : Int) - 97) % 256 = ((b - 97 : Nat) : Int) := by omega
  rw [e2, Int.toNat_natCast]
  have e3 : ((s : Int) * (k : Int)) = ((s * k : Nat) : Int) := by simp
  rw [e3] at a1 a2 ⊢
  rw [IntWalk.wrap64_in _ (by omega)]
  omega
theorem zl_set2 (l : List Nat) (i x : Nat) : (zl l).set i (x : Int) = zl (l.set i x) := by simp [zl, List.map_set]
theorem does_in {x : AutV} (h : AutOk x) {v : ByteArray} (hv : letB x.k v = true) (hz : v.size ≤ 4611686018427387904) {i : Nat} (hi : i < v.size) (K : Nat) : ∀ m j, j + m = x.acc.length →
    eggboxref13_Does.l1 (K + m + 1) v (zl (dl x v i j)) i j x.k x.next x.acc = eggboxref13_Does.l0 K v (zl (dl x v i x.acc.length)) ((i + 1 : Nat) : Int) x.k x.next x.acc
  | 0, j, hj => by
    have e : j = x.acc.length := by omega
    subst e
    rw [eggboxref13_Does.l1, zl_len, dl_len, if_neg (by omega), IntWalk.wrap64_in _ (by omega)]
    rfl
  | m + 1, j, hj => by
    have hn := h.2.2.2.1
    have hr : rd (zl (dl x v i j)) (j : Int) = ((fol x j (v.data.toList.take i) : Nat) : Int) := by rw [zl_rd, dl_getD _ _ _ _ _ (by omega), if_neg (by omega)]
    have hf := fol_lt h (show j < x.acc.length by omega) hv i (by omega)
    have hc := letB_at hv i hi
    have hidx := does_idx h hv hf hi
    have hin := aut_idx h hf (c := (v[i]'hi).toNat - 97) (by omega)
    have hst := (stp_lt h hf (c := (v[i]'hi).toNat - 97) (by omega)).2
    rw [show K + (m + 1) + 1 = (K + m + 1) + 1 by omega, eggboxref13_Does.l1, zl_len, dl_len, if_pos (by omega), if_pos (by omega), if_pos (by omega), if_pos (by omega), hr, hidx, if_pos (by omega), if_pos (by omega), hst, Int.toNat_natCast, zl_set2, dl_set x v i j hi (by omega), IntWalk.wrap64_in _ (by omega)]
    exact does_in h hv hz hi K m (j + 1) (by omega)
theorem does_out {x : AutV} (h : AutOk x) {v : ByteArray} (hv : letB x.k v = true) (hz : v.size ≤ 4611686018427387904) (K : Nat) : ∀ m i, i + m = v.size →
    eggboxref13_Does.l0 (K + 1 + (x.acc.length + 2) * m) v (zl (dl x v i 0)) i x.k x.next x.acc = some (zl (wL x v))
  | 0, i, hi => by
    have e : i = v.size := by omega
    subst e
    rw [Nat.mul_zero, Nat.add_zero, eggboxref13_Does.l0, if_neg (by omega), dl_end]
  | m + 1, i, hi => by
    rw [show K + 1 + (x.acc.length + 2) * (m + 1) = (K + 1 + (x.acc.length + 2) * m) + x.acc.length + 1 + 1 by rw [Nat.mul_succ]; omega, eggboxref13_Does.l0, if_pos (by omega)]
    rw [show (0 : Int) = ((0 : Nat) : Int) from rfl, does_in h hv hz (by omega) _ _ _ (by omega), dl_next]
    exact does_out h hv hz K m (i + 1) (by omega)
theorem rest_f (n : Nat) (hn : n ≤ 1000000) (K : Nat) : ∀ m i, i + m = n → eggboxref13_rest.l0 (K + 1 + m) n (zl (List.range i)) i = some (zl (List.range n))
  | 0, i, h => by
    have e : i = n := by omega
    subst e
    rw [Nat.add_zero, eggboxref13_rest.l0, if_neg (by omega)]
  | m + 1, i, h => by
    rw [show K + 1 + (m + 1) = (K + 1 + m) + 1 by omega, eggboxref13_rest.l0, if_pos (by omega), if_pos (by rw [zl_len, List.length_range]; omega), IntWalk.wrap64_in _ (by omega), ← zl_snoc, ← List.range_succ]
    exact rest_f n hn K m (i + 1) (by omega)
theorem does_f {x : AutV} (h : AutOk x) {v : ByteArray} (hv : letB x.k v = true) (hz : v.size ≤ 4611686018427387904) : eggboxref13_Does.f (x.acc.length + 1 + 1 + (x.acc.length + 2) * v.size) x.k x.next x.acc v = some (zl (wL x v)) := by
  have h1 := rest_f x.acc.length (by have := h.2.2.2.1; omega) (1 + (x.acc.length + 2) * v.size) x.acc.length 0 (by omega)
  have h2 := does_out h hv hz (x.acc.length + 1) v.size 0 (by omega)
  rw [dl_zero] at h2
  rw [show 1 + (x.acc.length + 2) * v.size + 1 + x.acc.length = x.acc.length + 1 + 1 + (x.acc.length + 2) * v.size by omega] at h1
  unfold eggboxref13_Does.f eggboxref13_rest.f
  rw [show ([] : List Int) = zl (List.range 0) from rfl, show (0 : Int) = ((0 : Nat) : Int) from rfl, h1]
  exact h2
theorem lent_f {x : AutV} {c e : Nat} (h : AutSz x c e) : eggboxlaw01_LentAuto.f x.k x.next x.acc = some (x.k, x.next, x.acc) := by
  obtain ⟨-, -, h1, h2⟩ := h
  unfold eggboxlaw01_LentAuto.f eggboxlaw01_LentInts.f
  simp only [Option.bind_some, List.nil_append, List.length_nil, List.length_append, List.length_cons]
  rw [if_pos (by omega), if_pos (by omega), if_pos (by omega), if_pos (by omega)]
  simp only [Option.bind_some, Int.toNat_natCast, List.take_left']
  rw [if_pos (by omega)]
theorem sameInts_f (l : List Int) (hl : l.length ≤ 17592186043904) (K : Nat) : ∀ m i, i + m = l.length → eggboxlaw01_SameInts.l0 (K + 1 + m) l l i = some true
  | 0, i, h => by rw [Nat.add_zero, eggboxlaw01_SameInts.l0, if_neg (by omega)]
  | m + 1, i, h => by
    rw [show K + 1 + (m + 1) = (K + 1 + m) + 1 by omega, eggboxlaw01_SameInts.l0, if_pos (by omega), if_pos (by omega), if_pos (by omega), if_pos rfl, IntWalk.wrap64_in _ (by omega)]
    exact sameInts_f l hl K m (i + 1) (by omega)
theorem sameAuto_l (k : Int) (l : List Int) (b : List Bool) (hb : b.length ≤ 140737488351232) (K : Nat) : ∀ m i, i + m = b.length → eggboxlaw01_SameAuto.l0 (K + 1 + m) i k l b k l b = some true
  | 0, i, h => by rw [Nat.add_zero, eggboxlaw01_SameAuto.l0, if_neg (by omega)]
  | m + 1, i, h => by
    rw [show K + 1 + (m + 1) = (K + 1 + m) + 1 by omega, eggboxlaw01_SameAuto.l0, if_pos (by omega), if_pos (by omega), if_pos (by omega), if_neg (by simp), IntWalk.wrap64_in _ (by omega)]
    exact sameAuto_l k l b hb K m (i + 1) (by omega)
theorem sameAuto_f {x : AutV} {c e : Nat} (h : AutSz x c e) : eggboxlaw01_SameAuto.f (x.next.length + 1 + x.acc.length + 1) x.k x.next x.acc x.k x.next x.acc = some true := by
  obtain ⟨-, -, h1, h2⟩ := h
  have e1 := sameInts_f x.next (by omega) (x.acc.length + 1) x.next.length 0 (by omega)
  have e2 := sameAuto_l x.k x.next x.acc h2 x.next.length x.acc.length 0 (by omega)
  unfold eggboxlaw01_SameAuto.f eggboxlaw01_SameInts.f
  rw [if_pos rfl, if_pos rfl, show (0 : Int) = ((0 : Nat) : Int) from rfl, show x.next.length + 1 + x.acc.length + 1 = x.acc.length + 1 + 1 + x.next.length by omega, e1, Option.bind_some, if_pos rfl]
  rw [show x.acc.length + 1 + 1 + x.next.length = (x.next.length + 1 + x.acc.length) + 1 by omega, eggboxlaw01_SameAuto.j0, if_neg (by simp)]
  exact e2
end Go.Proofs.Ytpebnldoimoahaa

namespace Go.Proofs.Ytpebnldoimoahaa
open Go.RowKit Go.Proofs.YtpebnldoimoahaaW.PrintWords Go.Proofs.Ytpebnldoimoahaa.PTransWords
set_option linter.unusedSimpArgs false
set_option linter.unusedVariables false
theorem does_any {x : AutV} {A : Option Addr} {c : Nat} {B : Option Addr} {d : Nat} (hz : AutSz x c d) (h : AutOk x) (v : ByteArray) (hv : letB x.k v = true) (hs : v.size ≤ 4611686018427387904) (w : World) (hr : ARd w x A B) :
    Calls Try.prog 71 #[.agg (ac x A c B d), .string v] w fun e w' => ∃ X xc, e = .returned (.slice X x.acc.length xc) ∧ Kd.C (Kd.int .i64) w' X x.acc.length (zl (wL x v)) ∧ Below w.heap.size w w' :=
  (eggboxref13_Does.calls _ _ A c _ B d _ _ _ w hr.next hz.1 hr.acc hz.2.1 (does_f h hv hs)).mono fun e w' ⟨v, he, hR, hb⟩ => by
    obtain ⟨X, xc, rfl, _, hX⟩ := own_slice x.acc.length (by simp [wL]) hR
    exact ⟨X, xc, he, hX, hb⟩
set_option maxRecDepth 100000 in
set_option maxHeartbeats 4000000 in
theorem rofword_any (x : AutV) (A : Option Addr) (c : Nat) (B : Option Addr) (d : Nat) (hsz : AutSz x c d) (v : ByteArray) (hv : v.size ≤ 4611686018427387904) (w : World) (hr : ARd w x A B) :
    Calls Try.prog 39 #[.agg (ac x A c B d), .string v] w fun e w' => e = .returned (.tuple #[.agg (tvv (owN x v) (owW x v)), .int .i64 (owE x v)]) ∧ Below w.heap.size w w' := by
  have HR := Aside0.mk hr
  have HV := Lib.hid hv
  have H0 := Lib.hid (hp_old (o := .cells (tvv 0 zo) 26) (hp_new (w := w) (o := AB x A c B d) rfl))
  have HB0 := Lib.hid (bl_alloc (bl_alloc (Below.refl w.heap.size w) (AB x A c B d)) (.cells (tvv 0 zo) 26))
  have CK := Aside0.mk (racheck_any x A c B d ((w.alloc (AB x A c B d)).alloc (.cells (tvv 0 zo) 26)) (hr.below HB0.out))
  have A0 : Hid (((w.alloc (AB x A c B d)).alloc (.cells (tvv 0 zo) 26)).heap[w.heap.size + 1]? = some (.cells (tvv 0 zo) 26 (0, 0))) := Lib.hid (hp_new (by simp))
  have HZ : Hid (tvv 0 zo = #[.int .i64 0, .int .u64 0, .int .u64 0, .int .u64 0, .int .u64 0, .int .u64 0, .int .u64 0, .int .u64 0]) := Lib.hid (tvv_zeros 0)
  rw [HZ.out] at H0 HB0 CK A0
  clear hr hv
  by_cases h0 : autE x = 0
  · have hx := autE_is h0
    have HX := Lib.hid hx
    rw [h0] at CK
    have hm1 : 1 ≤ x.acc.length := hx.2.2.1
    have hk1 := hx.1
    have hk8 := hx.2.1
    by_cases h64 : 64 < x.acc.length
    · have e3 : owE x v = 81 := by unfold owE; rw [if_pos h0, if_pos h64]
      have e1 : owN x v = 0 := by unfold owN; rw [e3]; rfl
      have e2 : owW x v = zo := by unfold owW; rw [e3]; rfl
      rw [e1, e2, e3]
      clear h0 e1 e2 e3 hx
      go_enter Try.func39, Try.ntmps39
      go_wp2_with (refine ld_au _ rfl w.heap.size rfl H0.out rfl ?_)
      refine CK.out.mono ?_
      rintro e w1 ⟨rfl, hb⟩
      have A1 := Lib.hid (hp_below' hb A0.out); have HB1 := Lib.hid (bl_then HB0.out hb); have G1 := Lib.hid (hp_below' hb H0.out)
      have c1 : w1.cell? ⟨w.heap.size, 2, none⟩ = some (.slice B x.acc.length d) := by rw [cell_of_row _ _ _ _ _ _ G1.out]; rfl
      clear hb CK
      go_wp2_with (refine st_tr (w.heap.size + 1) zo_len A1.out rfl rfl _ _ rfl rfl rfl ?_)
      refine bodyPost_ret (v := .tuple #[.agg (tvv 0 zo), .int .i64 81]) ?_ rfl ⟨rfl, bl_row HB1.out (by omega) _⟩
      refine (results_cell_tmp (p := 4) (t := 5) (by rfl) _ _ (w.heap.size + 1) 26 _ _ _ ?_ (setRow_heap _ _ _ _ _ _ A1.out) Try.underlying26 rfl (tr_z _ _ zo_len)).trans ?_ <;> rfl
    · have hm : x.acc.length ≤ 64 := by omega
      have e3 : owE x v = if letB x.k v then 0 else 21 := by unfold owE; rw [if_pos h0, if_neg h64, wrdE_in hx]
      cases hl : letB x.k v
      · rw [hl] at e3
        replace e3 : owE x v = 21 := e3
        have e1 : owN x v = 0 := by unfold owN; rw [e3]; rfl
        have e2 : owW x v = zo := by unfold owW; rw [e3]; rfl
        rw [e1, e2, e3]
        have HNO : Hid (¬ ∀ i (hi : i < v.size), 97 ≤ (v[i]'hi).toNat ∧ ((v[i]'hi).toNat : Int) < 97 + x.k) := Lib.hid (fun h => by rw [letB_of h] at hl; cases hl)
        clear h0 e1 e2 e3 hx hl
        go_enter Try.func39, Try.ntmps39
        go_wp2_with (refine ld_au _ rfl w.heap.size rfl H0.out rfl ?_)
        refine CK.out.mono ?_
        rintro e w1 ⟨rfl, hb⟩
        have A1 := Lib.hid (hp_below' hb A0.out); have HB1 := Lib.hid (bl_then HB0.out hb); have G1 := Lib.hid (hp_below' hb H0.out)
        have c1 : w1.cell? ⟨w.heap.size, 2, none⟩ = some (.slice B x.acc.length d) := by rw [cell_of_row _ _ _ _ _ _ G1.out]; rfl
        clear hb CK
        have hv : v.size ≤ 4611686018427387904 := HV.out
        go_wp2
        clear c1
        go_loopw [7] (fun i wr => ∃ k : Nat, k ≤ v.size ∧ i = .int .i64 k ∧ Hid (∀ i (hi : i < v.size), i < k → 97 ≤ (v[i]'hi).toNat ∧ ((v[i]'hi).toNat : Int) < 97 + x.k) ∧ Hid (Below w1.heap.size w1 wr)) (fun i _ => v.size - (intOf i).toNat)
        case atStart => exact ⟨0, by omega, rfl, Lib.hid (fun i hi h => absurd h (by omega)), Lib.hid (Below.refl _ _)⟩
        case round =>
          obtain ⟨k, hk, rfl, HF, H⟩ := hrel
          have G2 := Lib.hid (hp_below' H.out G1.out)
          have A2 := Lib.hid (hp_below' H.out A1.out)
          have c0 : wr.cell? ⟨w.heap.size, 0, none⟩ = some (.int .i64 x.k) := by rw [cell_of_row _ _ _ _ _ _ G2.out]; rfl
          by_cases hkv : k < v.size
          · obtain ⟨u, hu⟩ : ∃ u : Nat, (v[k]'hkv).toNat = u := ⟨_, rfl⟩
            have hu2 : u < 256 := by rw [← hu]; exact (v[k]'hkv).toNat_lt
            by_cases h1 : 97 ≤ u
            · have d1 : decide ((u : Int) < 97) = false := by simp; omega
              have u1 : IntKind.u8.wrap ((u : Int) - 97) = (u : Int) - 97 := IntWalk.u8_in _ ⟨by omega, by omega⟩
              have u2 : IntKind.i64.wrap ((u : Int) - 97) = (u : Int) - 97 := IntWalk.i64_in _ ⟨by omega, by omega⟩
              by_cases h2 : (u : Int) < 97 + x.k
              · have d2 : decide (x.k ≤ (u : Int) - 97) = false := by simp; omega
                have HF2 : Hid (∀ i (hi : i < v.size), i < k + 1 → 97 ≤ (v[i]'hi).toNat ∧ ((v[i]'hi).toNat : Int) < 97 + x.k) := Lib.hid (fun i hi h => by
                  by_cases e : i = k
                  · subst e; rw [hu]; exact ⟨h1, h2⟩
                  · exact HF.out i hi (by omega))
                go_wp2
                go_quiet (fail)
                go_wp2
                go_roundw
                case rel => exact ⟨k + 1, by omega, by go_num, HF2, Lib.hid (bl_drewN H.out _)⟩
                case measure => simp [intOf]; omega
              · have d2 : decide (x.k ≤ (u : Int) - 97) = true := by simp; omega
                go_wp2
                go_quiet (fail)
                have A3 := Lib.hid (show (wr.drewN nq).heap[w.heap.size + 1]? = _ from A2.out)
                go_wp2_with (refine st_tr (w.heap.size + 1) zo_len A3.out rfl rfl _ _ rfl rfl rfl ?_)
                refine bodyPost_ret (v := .tuple #[.agg (tvv 0 zo), .int .i64 21]) ?_ rfl ⟨rfl, bl_row (bl_drewN (bl_then HB1.out H.out) _) (by omega) _⟩
                refine (results_cell_tmp (p := 4) (t := 5) (by rfl) _ _ (w.heap.size + 1) 26 _ _ _ ?_ (setRow_heap _ _ _ _ _ _ A3.out) Try.underlying26 rfl (tr_z _ _ zo_len)).trans ?_ <;> rfl
            · have d1 : decide ((u : Int) < 97) = true := by simp; omega
              go_wp2
              go_quiet (fail)
              have A3 := Lib.hid (show (wr.drewN nq).heap[w.heap.size + 1]? = _ from A2.out)
              go_wp2_with (refine st_tr (w.heap.size + 1) zo_len A3.out rfl rfl _ _ rfl rfl rfl ?_)
              refine bodyPost_ret (v := .tuple #[.agg (tvv 0 zo), .int .i64 21]) ?_ rfl ⟨rfl, bl_row (bl_drewN (bl_then HB1.out H.out) _) (by omega) _⟩
              refine (results_cell_tmp (p := 4) (t := 5) (by rfl) _ _ (w.heap.size + 1) 26 _ _ _ ?_ (setRow_heap _ _ _ _ _ _ A3.out) Try.underlying26 rfl (tr_z _ _ zo_len)).trans ?_ <;> rfl
          · exact absurd (fun i hi => HF.out i hi (by omega)) HNO.out
      · rw [hl] at e3
        replace e3 : owE x v = 0 := e3
        have e1 : owN x v = x.acc.length := by unfold owN; rw [e3]; rfl
        have e2 : owW x v = pks (wL x v) x.acc.length := by unfold owW; rw [e3]; rfl
        rw [e1, e2, e3]
        have HLT : Hid (∀ i (hi : i < v.size), 97 ≤ (v[i]'hi).toNat ∧ ((v[i]'hi).toNat : Int) < 97 + x.k) := Lib.hid (fun i hi => letB_at hl i hi)
        have DS := Aside0.mk (does_any (A := A) (B := B) hsz hx v hl HV.out)
        have hlen : (wL x v).length = x.acc.length := by simp [wL]
        have hlt : ∀ i, (wL x v).getD i 0 < 64 := fun i => by
          by_cases hi : i < x.acc.length
          · have h := fol_lt hx hi hl v.size (Nat.le_refl _)
            rw [List.take_of_length_le (by simp)] at h
            simp only [wL, List.getD_eq_getElem?_getD, List.getElem?_map, List.getElem?_range hi, Option.map_some, Option.getD_some]
            omega
          · rw [List.getD_eq_getElem?_getD, List.getElem?_eq_none (by omega)]; decide
        have PKF := Aside0.mk (fun (X : Option Addr) (xc : Nat) (w2 : World) (hX : Kd.C (Kd.int .i64) w2 X x.acc.length (zl (wL x v))) => by
          have h := packed_any X xc (wL x v) w2 (by rw [zl_len, hlen]; exact hX) (by omega) hlt
          rw [hlen] at h
          exact h)
        have HPL := Lib.hid (pks_len (wL x v) x.acc.length)
        generalize pks (wL x v) x.acc.length = W7 at *
        clear h0 e1 e2 e3 hx hl h64 hlt hlen
        go_enter Try.func39, Try.ntmps39
        go_wp2_with (refine ld_au _ rfl w.heap.size rfl H0.out rfl ?_)
        refine CK.out.mono ?_
        rintro e w1 ⟨rfl, hb⟩
        have A1 := Lib.hid (hp_below' hb A0.out); have HB1 := Lib.hid (bl_then HB0.out hb); have G1 := Lib.hid (hp_below' hb H0.out)
        have c1 : w1.cell? ⟨w.heap.size, 2, none⟩ = some (.slice B x.acc.length d) := by rw [cell_of_row _ _ _ _ _ _ G1.out]; rfl
        clear hb CK
        have hv : v.size ≤ 4611686018427387904 := HV.out
        go_wp2
        clear c1
        go_loopw [7] (fun i wr => ∃ k : Nat, k ≤ v.size ∧ i = .int .i64 k ∧ Hid (∀ i (hi : i < v.size), i < k → 97 ≤ (v[i]'hi).toNat ∧ ((v[i]'hi).toNat : Int) < 97 + x.k) ∧ Hid (Below w1.heap.size w1 wr)) (fun i _ => v.size - (intOf i).toNat)
        case atStart => exact ⟨0, by omega, rfl, Lib.hid (fun i hi h => absurd h (by omega)), Lib.hid (Below.refl _ _)⟩
        case round =>
          obtain ⟨k, hk, rfl, HF, H⟩ := hrel
          have G2 := Lib.hid (hp_below' H.out G1.out)
          have A2 := Lib.hid (hp_below' H.out A1.out)
          have c0 : wr.cell? ⟨w.heap.size, 0, none⟩ = some (.int .i64 x.k) := by rw [cell_of_row _ _ _ _ _ _ G2.out]; rfl
          by_cases hkv : k < v.size
          · have hb := HLT.out k hkv
            obtain ⟨u, hu⟩ : ∃ u : Nat, (v[k]'hkv).toNat = u := ⟨_, rfl⟩
            have hu' : Hid ((v[k]'hkv).toNat = u) := Lib.hid hu
            rw [hu] at hb
            obtain ⟨hb1, hb2⟩ := hb
            have d1 : decide ((u : Int) < 97) = false := by simp; omega
            have d2 : decide (x.k ≤ (u : Int) - 97) = false := by simp; omega
            have u1 : IntKind.u8.wrap ((u : Int) - 97) = (u : Int) - 97 := IntWalk.u8_in _ ⟨by omega, by omega⟩
            have u2 : IntKind.i64.wrap ((u : Int) - 97) = (u : Int) - 97 := IntWalk.i64_in _ ⟨by omega, by omega⟩
            go_wp2
            go_quiet (fail)
            go_wp2
            go_roundw
            case rel => exact ⟨k + 1, by omega, by go_num, Lib.hid (fun i hi _ => HLT.out i hi), Lib.hid (bl_drewN H.out _)⟩
            case measure => simp [intOf]; omega
          · have e8 : k = v.size := by omega
            subst e8
            go_wp2_with (refine ld_au _ rfl w.heap.size rfl G2.out rfl ?_)
            refine (DS.out _ (HR.out.below (bl_then HB1.out H.out))).mono ?_
            rintro e w2 ⟨X, xc, rfl, hX, hb⟩
            have A3 := Lib.hid (hp_below' hb A2.out); have HB3 := Lib.hid (bl_then (bl_then HB1.out H.out) hb)
            have PK := Aside0.mk (PKF.out X xc w2 hX)
            clear hb DS hX
            go_wp2_with fail
            refine PK.out.mono ?_
            rintro e w3 ⟨rfl, hb⟩
            have A4 := Lib.hid (hp_below' hb A3.out); have HB4 := Lib.hid (bl_then HB3.out hb)
            clear hb PK
            go_wp2_with (refine st_tr (w.heap.size + 1) HPL.out A4.out rfl rfl _ _ rfl rfl rfl ?_)
            refine bodyPost_ret (v := .tuple #[.agg (tvv x.acc.length W7), .int .i64 0]) ?_ rfl ⟨rfl, bl_row HB4.out (by omega) _⟩
            refine (results_cell_tmp (p := 4) (t := 5) (by rfl) _ _ (w.heap.size + 1) 26 _ _ _ ?_ (setRow_heap _ _ _ _ _ _ A4.out) Try.underlying26 rfl (tr_z _ _ HPL.out)).trans ?_ <;> rfl
  · have h80 : autE x = 80 := autE_no (fun h => h0 (autE_ok h))
    have e3 : owE x v = 80 := by unfold owE; rw [if_neg h0]
    have e1 : owN x v = 0 := by unfold owN; rw [e3]; rfl
    have e2 : owW x v = zo := by unfold owW; rw [e3]; rfl
    rw [h80] at CK
    rw [e1, e2, e3]
    clear h0 h80 e1 e2 e3
    go_enter Try.func39, Try.ntmps39
    go_wp2_with (refine ld_au _ rfl w.heap.size rfl H0.out rfl ?_)
    refine CK.out.mono ?_
    rintro e w1 ⟨rfl, hb⟩
    have A1 := Lib.hid (hp_below' hb A0.out); have HB1 := Lib.hid (bl_then HB0.out hb); have G1 := Lib.hid (hp_below' hb H0.out)
    have c1 : w1.cell? ⟨w.heap.size, 2, none⟩ = some (.slice B x.acc.length d) := by rw [cell_of_row _ _ _ _ _ _ G1.out]; rfl
    clear hb CK
    go_wp2_with (refine st_tr (w.heap.size + 1) zo_len A1.out rfl rfl _ _ rfl rfl rfl ?_)
    refine bodyPost_ret (v := .tuple #[.agg (tvv 0 zo), .int .i64 80]) ?_ rfl ⟨rfl, bl_row HB1.out (by omega) _⟩
    refine (results_cell_tmp (p := 4) (t := 5) (by rfl) _ _ (w.heap.size + 1) 26 _ _ _ ?_ (setRow_heap _ _ _ _ _ _ A1.out) Try.underlying26 rfl (tr_z _ _ zo_len)).trans ?_ <;> rfl
end Go.Proofs.Ytpebnldoimoahaa

namespace Go.Proofs.Ytpebnldoimoahaa
open Go.RowKit Go.Proofs.YtpebnldoimoahaaW.PrintWords Go.Proofs.Ytpebnldoimoahaa.PTransWords
set_option linter.unusedSimpArgs false
set_option linter.unusedVariables false
theorem lentauto_any {x : AutV} {A : Option Addr} {c : Nat} {B : Option Addr} {d : Nat} (hz : AutSz x c d) (w : World) (hr : ARd w x A B) :
    Calls Try.prog 37 #[.agg (ac x A c B d)] w fun e w' => ∃ X xc Y yc, e = .returned (.agg (ac x X xc Y yc)) ∧ ARd w' x X Y ∧ AutSz x xc yc ∧ Below w.heap.size w w' :=
  (eggboxlaw01_LentAuto.calls _ A c _ B d _ _ _ _ w hr.next hz.1 hr.acc hz.2.1 (lent_f hz)).mono fun e w' ⟨v1, v2, he, h1, h2, hb⟩ => by
    obtain ⟨X, xc, rfl, l1, hX⟩ := Kd.R_reads h1
    obtain ⟨Y, yc, rfl, l2, hY⟩ := Kd.R_reads h2
    exact ⟨X, xc, Y, yc, he, ⟨hX, hY⟩, ⟨l1, l2, hz.2.2⟩, hb⟩
theorem sameauto_any {x : AutV} {A : Option Addr} {c : Nat} {B : Option Addr} {d : Nat} {X : Option Addr} {xc : Nat} {Y : Option Addr} {yc : Nat} (hz : AutSz x c d) (hz' : AutSz x xc yc) (w : World) (hr : ARd w x A B) (hr' : ARd w x X Y) :
    Calls Try.prog 40 #[.agg (ac x X xc Y yc), .agg (ac x A c B d)] w fun e w' => e = .returned (.bool true) ∧ Below w.heap.size w w' :=
  eggboxlaw01_SameAuto.calls _ _ X xc _ Y yc _ _ A c _ B d _ _ w hr'.next hz'.1 hr'.acc hz'.2.1 hr.next hz.1 hr.acc hz.2.1 (sameAuto_f hz)
theorem st_au_new {ops : Array Oper} {rest : List Oper} {o : Oper} {a : Act} {w : World} {Q : Exit → Act → World → Prop} {y : AutV} {A : Option Addr} {c : Nat} {B : Option Addr} {d : Nat} {cs : Array Value} (p q : Operand) (ho : o.op = .store 77 p q) (hgd : o.guard = none)
    (hx : a.eval p = .pointer (some ⟨w.heap.size, 0, none⟩)) (hy : a.eval q = .agg (ac y A c B d)) (hc : cs.size = 3) (h : wpList Try.prog ops Q rest (a.put o.dst undef) (w.alloc (AB y A c B d))) : wpList Try.prog ops Q (o :: rest) a (w.alloc (.cells cs 77)) :=
  wpList_store_row hgd 77 p q ho w.heap.size _ hx hy 77 cs (hp_new rfl) (by show _ = some 3; kernel_rfl) hc (by first | (cases A <;> cases B <;> rfl) | simp [Value.oneCell']) (by rw [World.setRow_alloc_new]; exact h)
set_option maxRecDepth 100000 in
set_option maxHeartbeats 4000000 in
theorem transWords_any (w : World) (x : AutV) (A : Option Addr) (c : Nat) (B : Option Addr) (d : Nat) (hr : ARd w x A B) (hsz : AutSz x c d) (u : ByteArray) (hu : u.size ≤ 140737488351232) :
    Calls Try.prog 10 #[.agg (ac x A c B d), .string u] w fun e w' => e = .returned (.bool true) ∧ Below w.heap.size w w' := by
  have HR := Aside0.mk hr
  have HS := Lib.hid hsz
  have H0 := Lib.hid ((Hp.start w).alloc (AB x A c B d))
  have LN := Aside0.mk (fun (w' : World) (h : ARd w' x A B) => lentauto_any hsz w' h)
  have U1 := Aside0.mk (fun (X : Option Addr) (xc : Nat) (Y : Option Addr) (yc : Nat) (w' : World) (h : ARd w' x X Y) => ofword_any x X xc Y yc u (by omega) w' h)
  have U2 := Aside0.mk (fun (w' : World) (h : ARd w' x A B) => rofword_any x A c B d hsz u (by omega) w' h)
  have SA := Aside0.mk (fun (X : Option Addr) (xc : Nat) (Y : Option Addr) (yc : Nat) (hz' : AutSz x xc yc) (w' : World) (h : ARd w' x A B) (h' : ARd w' x X Y) => sameauto_any hsz hz' w' h h')
  have l1 := Lib.hid (owW_len x u)
  generalize owW x u = q at *
  generalize owN x u = n at *
  generalize owE x u = eE at *
  clear hr hsz
  go_enter Try.func10, Try.ntmps10
  go_wp2_with (refine ld_au _ rfl w.heap.size rfl (H0.out.at 0 rfl) rfl ?_)
  refine (LN.out _ (HR.out.below H0.out.2)).mono ?_
  rintro e w1 ⟨X, xc, Y, yc, rfl, hX, hz', hb⟩
  have H1 := Lib.hid (H0.out.keep hb); have HX := Aside0.mk hX; have HZ := Lib.hid hz'
  clear hb H0 hX hz'
  go_wp2_with (first | (refine st_au_new _ _ rfl rfl rfl rfl rfl ?_) | (refine ld_au _ rfl w1.heap.size rfl ((H1.out.alloc _).at 0 rfl) rfl ?_))
  refine (U1.out X xc Y yc _ (HX.out.below (bl_alloc (Below.refl _ _) _))).mono ?_
  rintro e w2 ⟨rfl, hb⟩
  have H2 := Lib.hid ((H1.out.alloc _).keep hb)
  have HX2 := Aside0.mk (HX.out.below (bl_then (bl_alloc (Below.refl _ _) _) hb))
  clear hb H1
  go_wp2_with (first | (refine st2 _ _ rfl rfl rfl rfl l1.out rfl ?_) | (refine ld_au _ rfl w.heap.size rfl ((H2.out.alloc _).at 2 rfl) rfl ?_))
  refine (U2.out _ (HR.out.below (H2.out.alloc _).2)).mono ?_
  rintro e w3 ⟨rfl, hb⟩
  have H3 := Lib.hid ((H2.out.alloc _).keep hb)
  have HX3 := Aside0.mk (HX2.out.below (bl_then (bl_alloc (Below.refl _ _) _) hb))
  clear hb H2 HX HX2
  go_wp2_with (first | (refine st2 _ _ rfl rfl rfl rfl l1.out rfl ?_) | (refine ld2 _ rfl w2.heap.size rfl l1.out ((H3.out.alloc _).at 1 rfl) rfl ?_) | (refine ld2 _ rfl w3.heap.size rfl l1.out ((H3.out.alloc _).at 0 rfl) rfl ?_) | (refine eq2 _ _ _ rfl true (sameT_dec _ _) rfl rfl l1.out l1.out rfl ?_))
  refine (num_any _ _).mono ?_
  rintro e w' ⟨rfl, rfl⟩
  go_wp2_with (first | (refine ld_au _ rfl w1.heap.size rfl ((H3.out.alloc _).at 2 rfl) rfl ?_) | (refine ld_au _ rfl w.heap.size rfl ((H3.out.alloc _).at 3 rfl) rfl ?_))
  refine (SA.out X xc Y yc HZ.out _ (HR.out.below (H3.out.alloc _).2) (HX3.out.below (bl_alloc (Below.refl _ _) _))).mono ?_
  rintro e w4 ⟨rfl, hb⟩
  have H4 := Lib.hid ((H3.out.alloc _).keep hb)
  clear hb H3
  go_wp2_with fail
  refine (knows_any _).mono ?_
  rintro e w5 ⟨rfl, hb⟩
  have H5 := Lib.hid (H4.out.keep hb)
  clear hb H4
  go_wp2
  go_ret
  exact ⟨rfl, H5.out.2⟩
end Go.Proofs.Ytpebnldoimoahaa

