/- The calls at good transformations. -/
import Derived.Test.YtpebnldoimoahaaMade
namespace Go.Proofs.Ytpebnldoimoahaa
open Go.RowKit Go.Proofs.YtpebnldoimoahaaW.PrintWords
theorem make_g {n : Nat} {L : List Nat} (h : Gd n L) (A : Option Addr) (c : Nat) (w : World) (hr : Kd.C (Kd.int .i64) w A n (zl L)) :
    Calls Try.prog 15 #[.slice A n c] w fun e w' => e = .returned (.tuple #[.agg (tvv n (pks L n)), .int .i64 0]) ∧ Below w.heap.size w w' := by
  have hk : (zl L).length = n := by rw [zl_len, h.len]
  have hc := make_any A c (zl L) w (by rw [hk]; exact hr)
  rw [makeT_gd h] at hc
  rw [hk] at hc
  exact hc
theorem compose_g {n : Nat} {L M : List Nat} (h : Gd n L) (h' : Gd n M) (w : World) :
    Calls Try.prog 25 #[.agg (tvv n (pks L n)), .agg (tvv n (pks M n))] w fun e w' => e = .returned (.tuple #[.agg (tvv n (pks (thn L M) n)), .int .i64 0]) ∧ Below w.heap.size w w' := by
  have hc := compose_any n (pks L n) n (pks M n) (pks_len _ _) (Lib.hid h.words) (pks_len _ _) (Lib.hid h'.words) w
  rw [cmpT_good h h'] at hc
  exact hc
theorem identity_g {n : Nat} (h1 : 1 ≤ n) (h : n ≤ 64) (w : World) :
    Calls Try.prog 26 #[.int .i64 n] w fun e w' => e = .returned (.tuple #[.agg (tvv n (pks (List.range n) n)), .int .i64 0]) ∧ Below w.heap.size w w' := by
  have hc := identity_any n w
  rw [idT_good h1 h] at hc
  exact hc
theorem power_g {n : Nat} {L : List Nat} (h : Gd n L) (k : Nat) (hk : k < 18446744073709551616) (w : World) :
    Calls Try.prog 24 #[.agg (tvv n (pks L n)), .int .u64 k] w fun e w' => e = .returned (.tuple #[.agg (tvv n (pks (pwr n L k) n)), .int .i64 0]) ∧ Below w.heap.size w w' := by
  have hc := power_any n (pks L n) k (pks_len _ _) (Lib.hid h.words) (Lib.hid hk) w
  rw [powT_good h] at hc
  exact hc
/-- The statements' number of points. -/
def nN (n : Int) : Nat := 1 + mdN 64 n
theorem nN_in (n : Int) : 1 ≤ nN n ∧ nN n ≤ 64 := by
  have := (mdN_eq 64 n (by omega)).2.1
  unfold nN; omega
theorem nN_walk (n : Int) : wrap64 (Int.tmod n 64 + 64) = Int.tmod n 64 + 64 ∧ wrap64 (1 + Int.tmod (Int.tmod n 64 + 64) 64) = (nN n : Int) := by
  obtain ⟨h1, h2, h3, h4⟩ := mdN_eq 64 n (by omega)
  have h1' : Int.tmod (Int.tmod n 64 + 64) 64 = (mdN 64 n : Int) := h1
  have h3' : -(64 : Int) < Int.tmod n 64 ∧ Int.tmod n 64 < 64 := ⟨h3, h4⟩
  refine ⟨IntWalk.wrap64_in _ ⟨by omega, by omega⟩, ?_⟩
  rw [h1', IntWalk.wrap64_in _ ⟨by omega, by omega⟩]
  unfold nN; omega
theorem neT_dec (n : Int) (l : List Nat) : (!decide (n = n ∧ l = l)) = false := by simp
/-- A word list of good ones, by name. -/
theorem pks_name (L : List Nat) (n : Nat) : ∃ P, pks L n = P ∧ P.length = 7 := ⟨_, rfl, pks_len _ _⟩
end Go.Proofs.Ytpebnldoimoahaa
