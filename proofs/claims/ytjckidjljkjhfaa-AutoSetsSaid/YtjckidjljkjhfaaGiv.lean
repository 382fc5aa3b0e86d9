/- What a law's walk keeps: automata that were handed in, automata that were lent. -/
import Derived.Test.YtjckidjljkjhfaaRsA
namespace Go.Proofs.Ytjckidjljkjhfaa
open Go.RowKit Go.Proofs.YtjckidjljkjhfaaW.PrintWords
/-- An automaton that was handed in. -/
structure GvA (x : AutV) (A : Option Addr) (c : Nat) (B : Option Addr) (d : Nat) (g : Nat) (W : World) : Prop where
  blk : W.heap[g]? = some (AB x A c B d)
  ard : ARd W x A B
/-- An automaton that was lent. -/
structure LnS (x : AutV) (X : Option Addr) (xc : Nat) (Y : Option Addr) (yc : Nat) (base g : Nat) (W : World) : Prop where
  blk : W.heap[g]? = some (AB x X xc Y yc)
  own : Own W base (.slice X (x.next ++ [(-77), (-78)]).length xc) (x.next ++ [(-77), (-78)])
  nx : Kd.C (Kd.int .i64) W X (x.next ++ [(-77), (-78)]).length (x.next ++ [(-77), (-78)])
  ac : Kd.C Kd.bool W Y x.acc.length x.acc
  xcl : x.next.length + 2 ≤ xc
  ycl : x.acc.length ≤ yc
section
variable {x : AutV} {A : Option Addr} {c : Nat} {B : Option Addr} {d : Nat} {X : Option Addr} {xc : Nat} {Y : Option Addr} {yc : Nat} {w : World} {g base : Nat} {u v : World}
theorem GvA.keep (h : GvA x A c B d g u) (hb : Below u.heap.size u v) : GvA x A c B d g v := ⟨hp_below' hb h.blk, h.ard.below hb⟩
theorem GvA.alloc (h : GvA x A c B d g u) (o : Obj) : GvA x A c B d g (u.alloc o) := h.keep (bl_alloc (Below.refl _ _) o)
theorem LnS.keep (h : LnS x X xc Y yc base g u) (hb : Below u.heap.size u v) : LnS x X xc Y yc base g v := ⟨hp_below' hb h.blk, Kd.R_below h.own hb, Kd.C_below h.nx hb, Kd.C_below h.ac hb, h.xcl, h.ycl⟩
theorem LnS.alloc (h : LnS x X xc Y yc base g u) (o : Obj) : LnS x X xc Y yc base g (u.alloc o) := h.keep (bl_alloc (Below.refl _ _) o)
theorem LnS.ard (h : LnS x X xc Y yc base g u) : ARd u x X Y := ⟨by
  have := Kd.C_take (m := x.next.length) h.nx (by simp)
  simpa using this, h.ac⟩
theorem LnS.new {w1 : World} (hL : LentA x u w1 X xc Y yc) (hb : base ≤ u.heap.size) : LnS x X xc Y yc base w1.heap.size (w1.alloc (AB x X xc Y yc)) := by
  obtain ⟨h1, h2, h3⟩ := hL
  obtain ⟨_, l1, c1⟩ := Kd.R_reads' h1
  obtain ⟨_, l2, c2⟩ := Kd.R_reads' h2
  exact ⟨hp_new rfl, Kd.R_alloc (Kd.R_lower h1 hb) _, Kd.C_alloc c1 _, Kd.C_alloc c2 _, by simpa using l1, l2⟩
end
end Go.Proofs.Ytjckidjljkjhfaa
