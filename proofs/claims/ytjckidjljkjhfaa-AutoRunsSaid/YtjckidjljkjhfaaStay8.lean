/- The walk of the statements' Stay (layer 8): a lent automaton is as it was. -/
import Derived.Test.YtjckidjljkjhfaaB1
import Derived.Test.YtjckidjljkjhfaaRunC
namespace Go.Proofs.Ytjckidjljkjhfaa
open Go.RowKit Go.Proofs.YtjckidjljkjhfaaW.PrintWords Go.Proofs.Ytjckidjljkjhfaa.PAutoRuns
set_option linter.unusedSimpArgs false
set_option linter.unusedVariables false
theorem bools_l {l : List Bool} (hl : l.length ≤ 140737488351232) : ∀ (k i : Nat), i ≤ l.length → l.length - i < k → eggboxlaw08_bools.l0 k l l (i : Int) = some true
  | 0, i, _, h => absurd h (by omega)
  | k + 1, i, hi, h => by
    unfold eggboxlaw08_bools.l0
    by_cases hil : i < l.length
    · rw [if_pos (by omega), if_pos (by omega), if_pos (by omega), if_neg (by simp), show wrap64 ((i : Int) + 1) = ((i + 1 : Nat) : Int) from by unfold wrap64; omega]
      exact bools_l hl k (i + 1) (by omega) (by omega)
    · rw [if_neg (by omega)]
theorem bools_f {l : List Bool} (hl : l.length ≤ 140737488351232) : eggboxlaw08_bools.f (l.length + 1) l l = some true := by
  unfold eggboxlaw08_bools.f
  rw [if_pos rfl]
  exact bools_l hl _ 0 (Nat.zero_le _) (by omega)
set_option maxRecDepth 100000 in
set_option maxHeartbeats 400000 in
theorem stay8_any (x : AutV) (X : Option Addr) (xc : Nat) (Y : Option Addr) (yc : Nat) (A : Option Addr) (c : Nat) (B : Option Addr) (d : Nat) (hsz : AutSz x c d) (w : World)
    (hX : Kd.C (Kd.int .i64) w X (x.next ++ [(-77), (-78)]).length (x.next ++ [(-77), (-78)])) (hxc : x.next.length + 2 ≤ xc) (hY : Kd.C Kd.bool w Y x.acc.length x.acc) (hyc : x.acc.length ≤ yc) (hr : ARd w x A B) :
    Calls Try.prog 20 #[.agg (ac x X xc Y yc), .agg (ac x A c B d)] w fun e w' => e = .returned (.bool true) ∧ Below w.heap.size w w' := by
  obtain ⟨hz1, hz2, hz3, hz4⟩ := hsz
  have H0 := Lib.hid (((Hp.start w).alloc (AB x X xc Y yc)).alloc (AB x A c B d))
  have SI := Aside0.mk (fun (W : World) (h : Below w.heap.size w W) => stay_any X xc x.next A c W (by omega) (Kd.C_below hX h) hxc (hr.below h).next)
  have BO := Aside0.mk (fun (W : World) (h : Below w.heap.size w W) => eggboxlaw08_bools.calls (x.acc.length + 1) Y yc x.acc B d x.acc true W (Kd.C_below hY h) hyc (hr.below h).acc hz2 (bools_f hz4))
  have d0 : ((w.alloc (AB x X xc Y yc)).alloc (AB x A c B d)).cell? ⟨w.heap.size, 0, none⟩ = some (.int .i64 x.k) := by rw [cell_of_row _ _ _ _ _ _ (H0.out.at 1 rfl)]; rfl
  have d1 : ((w.alloc (AB x X xc Y yc)).alloc (AB x A c B d)).cell? ⟨w.heap.size, 1, none⟩ = some (.slice X x.next.length xc) := by rw [cell_of_row _ _ _ _ _ _ (H0.out.at 1 rfl)]; rfl
  have e0 : ((w.alloc (AB x X xc Y yc)).alloc (AB x A c B d)).cell? ⟨w.heap.size + 1, 0, none⟩ = some (.int .i64 x.k) := by rw [cell_of_row _ _ _ _ _ _ (H0.out.at 0 (by rw [World.size_alloc]; rfl))]; rfl
  have e1 : ((w.alloc (AB x X xc Y yc)).alloc (AB x A c B d)).cell? ⟨w.heap.size + 1, 1, none⟩ = some (.slice A x.next.length c) := by rw [cell_of_row _ _ _ _ _ _ (H0.out.at 0 (by rw [World.size_alloc]; rfl))]; rfl
  have hkk : (x.k == x.k) = true := by simp
  clear hX hY hr hxc hyc hz1 hz2 hz3 hz4
  go_enter Try.func20, Try.ntmps20
  go_wp2_with fail
  refine (SI.out _ H0.out.2).mono ?_
  rintro e w1 ⟨rfl, hb⟩
  have H1 := Lib.hid (H0.out.keep hb)
  have d2 : w1.cell? ⟨w.heap.size, 2, none⟩ = some (.slice Y x.acc.length yc) := by rw [cell_of_row _ _ _ _ _ _ (H1.out.at 1 rfl)]; rfl
  have e2 : w1.cell? ⟨w.heap.size + 1, 2, none⟩ = some (.slice B x.acc.length d) := by rw [cell_of_row _ _ _ _ _ _ (H1.out.at 0 (by rw [World.size_alloc]; rfl))]; rfl
  clear hb d0 d1 e0 e1 H0 SI
  go_wp2_with fail
  refine (BO.out _ H1.out.2).mono ?_
  rintro e w2 ⟨rfl, hb⟩
  have H2 := Lib.hid (bl_then H1.out.2 (hb.below))
  clear hb BO
  go_wp2
  go_ret
  exact ⟨rfl, H2.out⟩
end Go.Proofs.Ytjckidjljkjhfaa
