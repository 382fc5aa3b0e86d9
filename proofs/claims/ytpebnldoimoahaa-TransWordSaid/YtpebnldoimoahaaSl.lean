/- Slices of whole numbers that lie in a block of their own. -/
import Derived.Test.YtpebnldoimoahaaTrA
import Derived.Test.YtpebnldoimoahaaWMore
namespace Go.Proofs.Ytpebnldoimoahaa
open Go.RowKit Go.Proofs.YtpebnldoimoahaaW.PrintWords
/-- A list of the call's own. -/
abbrev Own (w : World) (base : Nat) (v : Value) (l : List Int) : Prop := Kd.R (Kd.int .i64) 3 w base (fun _ => True) v l
theorem C_block {w : World} {g : Nat} {cs : Array Value} {t : TypeId} {fr : Nat × Nat} (l : List Int) (h : w.heap[g]? = some (.cells cs t fr)) (hmax : l.length ≤ 9223372036854775807)
    (hc : ∀ j, j < l.length → cs[j]? = some (.int .i64 (l.getD j 0))) : Kd.C (Kd.int .i64) w (some ⟨g, 0, none⟩) l.length l := by
  refine Kd.C_of_reads (enc := Value.int .i64) (d := (0 : Int)) (h1 := fun _ => rfl) ⟨rfl, hmax, fun _ => ⟨⟨g, 0, none⟩, rfl, fun j hj => ?_⟩⟩
  rw [add_plain, cell_of_row _ _ _ _ _ _ h, hc j hj]
end Go.Proofs.Ytpebnldoimoahaa
