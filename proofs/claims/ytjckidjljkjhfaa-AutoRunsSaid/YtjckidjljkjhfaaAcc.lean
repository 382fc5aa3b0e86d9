/- The walk of auto.Accepts. -/
import Derived.Test.YtjckidjljkjhfaaRun
import Derived.BigQuiet
namespace Go.Proofs.Ytjckidjljkjhfaa
open Go.RowKit Go.Proofs.YtjckidjljkjhfaaW.PrintWords
set_option linter.unusedSimpArgs false
set_option linter.unusedVariables false
/-- What Accepts answers. -/
noncomputable def acsV (x : AutV) (v : ByteArray) : Bool := if runE x 0 v = 0 then rdOf false x.acc (runV x 0 v : Int) else false
theorem run_lt {x : AutV} {v : ByteArray} (h : runE x 0 v = 0) : autE x = 0 ∧ wrdE x.k v = 0 ∧ runV x 0 v = fol x 0 v.data.toList ∧ runV x 0 v < x.acc.length := by
  unfold runE at h
  by_cases h0 : autE x = 0
  · have hx := autE_is h0
    have hn := hx.2.2.1
    rw [if_pos h0, if_pos (by omega)] at h
    have e : runV x 0 v = fol x 0 v.data.toList := by unfold runV; rw [if_pos ⟨h0, by omega, by omega, h⟩]; rfl
    have := fol_lt hx (s := 0) (by omega) (wrdE_ok h) v.size (Nat.le_refl _)
    rw [List.take_of_length_le (by simp)] at this
    exact ⟨h0, h, e, by rw [e]; exact this⟩
  · rw [if_neg h0] at h; cases h
set_option maxRecDepth 100000 in
set_option maxHeartbeats 400000 in
theorem accepts_any (x : AutV) (A : Option Addr) (c : Nat) (B : Option Addr) (d : Nat) (v : ByteArray) (hv : v.size ≤ 4611686018427387904) (w : World) (hr : ARd w x A B) :
    Calls Try.prog 15 #[.agg (ac x A c B d), .string v] w fun e w' => e = .returned (.tuple #[.bool (acsV x v), .int .i64 (runE x 0 v)]) ∧ Below w.heap.size w w' := by
  have HR := Aside0.mk hr
  have H0 := Lib.hid ((Hp.start w).alloc (AB x A c B d))
  have RN := Aside0.mk (run_any x A c B d 0 v hv (w.alloc (AB x A c B d)) (hr.below H0.out.2))
  clear hr
  by_cases h : runE x 0 v = 0
  · obtain ⟨q1, q2, q3, h4⟩ := run_lt h
    clear q1 q2 q3
    have hA : acsV x v = rdOf false x.acc (runV x 0 v : Int) := by unfold acsV; rw [if_pos h]
    rw [hA]
    rw [h] at RN ⊢
    generalize runV x 0 v = s at *
    clear h hA
    obtain ⟨b, hbb⟩ : ∃ b, b = rdOf false x.acc (s : Int) := ⟨_, rfl⟩
    rw [← hbb]
    have HBB := Lib.hid hbb
    clear hbb
    go_enter Try.func15, Try.ntmps15
    go_wp2_with (refine ld_au _ rfl w.heap.size rfl (H0.out.at 0 rfl) rfl ?_)
    refine RN.out.mono ?_
    rintro e w1 ⟨rfl, hb⟩
    have H1 := Lib.hid (H0.out.keep hb)
    have c2 : w1.cell? ⟨w.heap.size, 2, none⟩ = some (.slice B x.acc.length d) := by rw [cell_of_row _ _ _ _ _ _ (H1.out.at 0 rfl)]; rfl
    obtain ⟨ad, hB, hcell⟩ := Kd.at_bool (HR.out.below H1.out.2).acc (s : Int) (by omega) (by omega)
    rw [Int.toNat_natCast, ← HBB.out] at hcell
    subst hB
    clear hb RN H0
    go_wp2
    go_ret2
    exact ⟨rfl, H1.out.2⟩
  · have hA : acsV x v = false := by unfold acsV; rw [if_neg h]
    rw [hA]
    have hb1 : (runE x 0 v == 0) = false := by rw [beq_eq_false_iff_ne]; exact h
    generalize runE x 0 v = r at *
    clear hA
    go_enter Try.func15, Try.ntmps15
    go_wp2_with (refine ld_au _ rfl w.heap.size rfl (H0.out.at 0 rfl) rfl ?_)
    refine RN.out.mono ?_
    rintro e w1 ⟨rfl, hb⟩
    have H1 := Lib.hid (H0.out.keep hb)
    clear hb RN H0
    go_wp2
    go_ret2
    exact ⟨rfl, H1.out.2⟩
end Go.Proofs.Ytjckidjljkjhfaa
