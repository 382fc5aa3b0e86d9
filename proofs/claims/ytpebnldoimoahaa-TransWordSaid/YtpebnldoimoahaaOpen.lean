/- How a row's arguments are opened: a list of whole numbers, a packed transformation. -/
import Derived.Test.YtpebnldoimoahaaTrB
import Derived.Test.YtpebnldoimoahaaWMore
import Derived.Test.YtpebnldoimoahaaWSized
import Derived.ProofKit
import Derived.OpenShut
import Derived.SizedLaws
namespace Go.Proofs.Ytpebnldoimoahaa
open Go.ChangeShapes Go.WideShapes Go.ChangeAt Go.RowKit Go.Proofs.YtpebnldoimoahaaW.PrintWords
section
variable {H : Type} {enc : TypeId × Value → H} {W : World}
theorem open_list {P : Program} {base : Nat} {t e : TypeId} {v : Value} {d : DataW H} {p : List MemPlace} (ht : P.underlying t = some (.slice e)) (he : P.underlying e = some (.int .i64)) (hc : P.cellsOf e = 1)
    (hval : Value.okWide P W .any base t v) (h : DataW.Trod enc P W 0 (fun _ => true) true t v d p) :
    ∃ A c l, v = .slice A (List.length l) c ∧ Kd.C (Kd.int .i64) W A l.length l ∧ (∀ x ∈ l, -9223372036854775808 ≤ x ∧ x ≤ 9223372036854775807) := by
  obtain ⟨a0, len, cap, rfl⟩ := okWide_slice ht hval
  obtain ⟨fuel, hf⟩ := h
  rcases open_ints ht he hc hf with ⟨hcs, _⟩ | ⟨x, n, c, zs, hcs, _, hl, hm, hz, _, hcell, hwz⟩
  · simp [Value.cells] at hcs
    obtain ⟨rfl, rfl, rfl⟩ := hcs
    exact ⟨none, 0, [], rfl, Kd.C_nil _ _, by simp⟩
  · simp [Value.cells] at hcs
    obtain ⟨rfl, rfl, rfl⟩ := hcs
    have hz : zs.length = cap := by simpa using hz
    have hlen : (zs.take len).length = len := by rw [List.length_take]; omega
    refine ⟨some x, cap, zs.take len, by rw [hlen], ?_, ?_⟩
    · rw [hlen]
      refine Kd.C_of_reads (enc := Value.int .i64) (d := (0 : Int)) (h1 := fun _ => rfl) ⟨hlen, by unfold maxLen at hm; omega, fun _ => ⟨x, rfl, fun j hj => ?_⟩⟩
      rw [hcell j (by omega)]
      congr 1
      simp [List.getD_eq_getElem?_getD, hj]
    · intro y hy
      exact bounds_i64 (hwz y (List.mem_of_mem_take hy))
set_option maxRecDepth 100000 in
theorem open_tr {base : Nat} {v : Value} {d : DataW H} {p : List MemPlace}
    (hval : Value.okWide Try.prog W .any base 26 v) (h : DataW.Trod enc Try.prog W 0 (fun _ => true) true 26 v d p) :
    ∃ n ws, v = .agg (tvv n ws) ∧ ws.length = 7 ∧ (∀ i, ws.getD i 0 < 18446744073709551616) ∧ (-9223372036854775808 ≤ n ∧ n ≤ 9223372036854775807) := by
  have hv : ∃ cs : Array Value, v = .agg cs := by
    unfold Value.okWide at hval
    rw [Try.underlying26] at hval
    obtain ⟨cs, hcs, _⟩ := hval
    exact ⟨cs, hcs⟩
  obtain ⟨cs, rfl⟩ := hv
  obtain ⟨fuel, hf⟩ := h
  obtain ⟨xs, m, rfl, hx, hlen, hxl, hfs⟩ := DataW.trod_struct Try.underlying26 hf
  have hlen : cs.toList.length = 8 := by
    have h8 : Try.prog.cellsOf 26 = 8 := by kernel_rfl
    rw [← h8]; exact hlen
  have h0 := hfs 0 _ rfl
  have h1 := hfs 1 _ rfl
  change DataW.trod enc Try.prog W 0 (fun _ => true) true m 3 ((cs.toList.drop 0).take (Try.prog.cellsOf 3)) = _ at h0
  change DataW.trod enc Try.prog W 0 (fun _ => true) true m 24 ((cs.toList.drop 1).take (Try.prog.cellsOf 24)) = _ at h1
  rw [show Try.prog.cellsOf 3 = 1 from by kernel_rfl] at h0
  rw [show Try.prog.cellsOf 24 = 7 from by kernel_rfl] at h1
  have hxs0 : ∃ y, xs[0]? = some y := ⟨_, List.getElem?_eq_getElem (by rw [hxl]; decide)⟩
  have hxs1 : ∃ y, xs[1]? = some y := ⟨_, List.getElem?_eq_getElem (by rw [hxl]; decide)⟩
  obtain ⟨y0, e0⟩ := hxs0
  obtain ⟨y1, e1⟩ := hxs1
  have h0 := h0.trans e0
  have h1 := h1.trans e1
  obtain ⟨n, hn, _, wn⟩ := DataW.trod_int Try.underlying3 h0
  obtain ⟨zs, m2, rfl, hz, hzl, hzn, hzs⟩ := DataW.trod_array Try.underlying24 h1
  rw [show Try.prog.cellsOf 23 = 1 from by kernel_rfl] at hzs
  have each : ∀ i, i < 7 → ∃ k : Nat, cs.toList[1 + i]? = some (.int .u64 (k : Int)) ∧ k < 18446744073709551616 := by
    intro i hi
    have hy : ∃ y, zs[i]? = some y := ⟨_, List.getElem?_eq_getElem (by rw [hzn]; exact hi)⟩
    obtain ⟨y, ey⟩ := hy
    obtain ⟨k, hk, _, wk⟩ := DataW.trod_int Try.underlying23 ((hzs i hi).trans ey)
    have hb := bounds_u64 wk
    refine ⟨k.toNat, ?_, by omega⟩
    have hh : (((cs.toList.drop 1).take 7).drop (i * 1)).take 1 = [Value.int .u64 k] := hk
    have h2 := congrArg List.head? hh
    rw [List.head?_take, if_neg (by decide), List.head?_drop, Nat.mul_one, List.getElem?_take, if_pos hi, List.getElem?_drop] at h2
    rw [h2]
    simp
    omega
  have hc0 : cs.toList[0]? = some (.int .i64 n) := by
    have h2 := congrArg List.head? (show (cs.toList.drop 0).take 1 = [Value.int .i64 n] from hn)
    rw [List.head?_take, if_neg (by decide), List.head?_drop] at h2
    exact h2
  obtain ⟨k0, g0, b0⟩ := each 0 (by decide)
  obtain ⟨k1, g1, b1⟩ := each 1 (by decide)
  obtain ⟨k2, g2, b2⟩ := each 2 (by decide)
  obtain ⟨k3, g3, b3⟩ := each 3 (by decide)
  obtain ⟨k4, g4, b4⟩ := each 4 (by decide)
  obtain ⟨k5, g5, b5⟩ := each 5 (by decide)
  obtain ⟨k6, g6, b6⟩ := each 6 (by decide)
  refine ⟨n, [k0, k1, k2, k3, k4, k5, k6], ?_, rfl, ?_, bounds_i64 wn⟩
  · congr 1
    apply Array.ext'
    apply List.ext_getElem?
    intro i
    show cs.toList[i]? = [Value.int .i64 n, .int .u64 k0, .int .u64 k1, .int .u64 k2, .int .u64 k3, .int .u64 k4, .int .u64 k5, .int .u64 k6][i]?
    match i with
    | 0 => exact hc0
    | 1 => exact g0
    | 2 => exact g1
    | 3 => exact g2
    | 4 => exact g3
    | 5 => exact g4
    | 6 => exact g5
    | 7 => exact g6
    | i + 8 => rw [List.getElem?_eq_none (by omega)]; rfl
  · intro i
    match i with
    | 0 => exact b0
    | 1 => exact b1
    | 2 => exact b2
    | 3 => exact b3
    | 4 => exact b4
    | 5 => exact b5
    | 6 => exact b6
    | i + 7 => simp
end
end Go.Proofs.Ytpebnldoimoahaa
