/- What was told, in a variable. -/
import Derived.Test.YtjckidjljkjhfaaC4
namespace Go.Proofs.Ytjckidjljkjhfaa
open Go.RowKit Go.Proofs.YtjckidjljkjhfaaW.PrintWords
/-- An automaton that was told, in a variable. -/
structure RsA (V : AutV) (An : Option Addr) (cn : Nat) (Aa : Option Addr) (ca : Nat) (base g : Nat) (W : World) : Prop where
  blk : W.heap[g]? = some (AB V An cn Aa ca)
  own : Own W base (.slice An V.next.length cn) V.next
  ard : ARd W V An Aa
theorem RsA.keep {V : AutV} {An : Option Addr} {cn : Nat} {Aa : Option Addr} {ca : Nat} {base g : Nat} {W W' : World} (h : RsA V An cn Aa ca base g W) (hb : Below W.heap.size W W') : RsA V An cn Aa ca base g W' := ⟨hp_below' hb h.blk, Kd.R_below h.own hb, h.ard.below hb⟩
theorem RsA.alloc {V : AutV} {An : Option Addr} {cn : Nat} {Aa : Option Addr} {ca : Nat} {base g : Nat} {W : World} (h : RsA V An cn Aa ca base g W) (o : Obj) : RsA V An cn Aa ca base g (W.alloc o) := h.keep (bl_alloc (Below.refl _ _) o)
theorem RsA.new {V : AutV} {An : Option Addr} {cn : Nat} {Aa : Option Addr} {ca : Nat} {base b2 : Nat} {W : World} (hn : Own W b2 (.slice An V.next.length cn) V.next) (ha : Kd.R Kd.bool 4 W b2 (fun _ => True) (.slice Aa V.acc.length ca) V.acc) (hb : base ≤ b2) : RsA V An cn Aa ca base W.heap.size (W.alloc (AB V An cn Aa ca)) :=
  ⟨hp_new rfl, Kd.R_alloc (Kd.R_lower hn hb) _, ARd.below (x := V) ⟨(Kd.R_reads' hn).2.2, (Kd.R_reads' ha).2.2⟩ (bl_alloc (Below.refl _ _) _)⟩
end Go.Proofs.Ytjckidjljkjhfaa
