/- append(x.f, g(..)) in a region that draws: x.f is read at some time, the call is made, behind it the box. -/
import Derived.Test.YtjckidjljkjhfaaSrS
namespace Go.Proofs.Ytjckidjljkjhfaa
open Go.RowKit Go.Proofs.YtjckidjljkjhfaaW.PrintWords
section
variable {P : Program} {l : List Oper} {Q : Exit → Act → World → Prop} {md : Region.Mode} {S : World → Prop} {a : Act} {W : World}
theorem any_gapp {fuel : Nat} {listed : Array Bool} {i1 ic i2 : Nat} {o1 oc o2 : Oper}
    (h1 : l[i1]? = some o1) (hc : l[ic]? = some oc) (h2 : l[i2]? = some o2)
    (r0 : Region.ready md l.toArray listed = [i1, ic]) (r1 : Region.ready md l.toArray (listed.setIfInBounds i1 true) = [ic]) (rc : Region.ready md l.toArray (listed.setIfInBounds ic true) = [i1, i2])
    (r1c : Region.ready md l.toArray ((listed.setIfInBounds i1 true).setIfInBounds ic true) = [i2]) (rc2 : Region.ready md l.toArray ((listed.setIfInBounds ic true).setIfInBounds i2 true) = [i1])
    (g1 : o1.guard = none) (gc : oc.guard = none) (g2 : o2.guard = none) (n1 : i1 ≠ ic) (n2 : i1 ≠ i2)
    (t e : TypeId) {x1 x2 : Operand} (p1 : o1.op = .load t x1) (p2 : o2.op = .buildSlice t 1 #[(0, x2)]) (ht : P.underlying t = some (.slice e))
    (g j : Nat) (v pv : Value) (cs : List Value) (hrun : ∀ w, (Instr.buildSlice t 1 #[(0, pv)]).run P w = .ok (.slice (some ⟨w.heap.size, 0, none⟩) 1 1) (w.alloc (.cells cs.toArray e)))
    (f : FuncId) (args : Array Value) (R : Ending → World → Prop) (hcall : Calls P f args W R) (hR : ∀ e w', R e w' → e = .returned pv ∧ Below W.heap.size W w')
    (x0 : (execOp a.eval oc).run P W = .ok (.enter f args) W) (x0' : (execOp (a.put o1.dst v).eval oc).run P W = .ok (.enter f args) W)
    (e1 : a.eval x1 = .pointer (some ⟨g, j, none⟩)) (e1c : (a.put oc.dst pv).eval x1 = .pointer (some ⟨g, j, none⟩)) (e1d : ∀ bx, ((a.put oc.dst pv).put o2.dst bx).eval x1 = .pointer (some ⟨g, j, none⟩))
    (e2 : (a.put oc.dst pv).eval x2 = pv) (e2' : ((a.put o1.dst v).put oc.dst pv).eval x2 = pv)
    (q1 : (a.put oc.dst pv).put o1.dst v = (a.put o1.dst v).put oc.dst pv) (q2 : ∀ bx, ((a.put oc.dst pv).put o2.dst bx).put o1.dst v = ((a.put o1.dst v).put oc.dst pv).put o2.dst bx)
    (hcell : W.cell? ⟨g, j, none⟩ = some v) (hS : S W) (hSb : ∀ w', Below W.heap.size W w' → S w') (hSa : ∀ w', Below W.heap.size W w' → S (w'.alloc (.cells cs.toArray e)))
    (h : ∀ w', Below W.heap.size W w' → wpAnyH P md l.toArray Q S fuel (((listed.setIfInBounds i1 true).setIfInBounds ic true).setIfInBounds i2 true) (((a.put o1.dst v).put oc.dst pv).put o2.dst (.slice (some ⟨w'.heap.size, 0, none⟩) 1 1)) (w'.alloc (.cells cs.toArray e))) :
    wpAnyH P md l.toArray Q S (fuel + 1 + 1 + 1) listed a W := by
  have hlt := World.block_lt_of_cell? _ _ hcell
  refine any_two r0 h1 hc (want_none g1 _) (want_none gc _) ?_ ?_
  · refine wp_load1 t x1 p1 ⟨g, j, none⟩ e1 (.slice e) ht rfl hcell ⟨hS, any_one hc r1 (want_none gc _) (wp_call f args x0' hcall ?_)⟩
    intro e0 w' hr
    obtain ⟨rfl, hb⟩ := hR e0 w' hr
    exact ⟨pv, rfl, hSb _ hb, any_one h2 r1c (want_none g2 _) (wp_box t e x2 p2 pv cs e2' (hrun w') ⟨hSa _ hb, h w' hb⟩)⟩
  · refine wp_call f args x0 hcall ?_
    intro e0 w' hr
    obtain ⟨rfl, hb⟩ := hR e0 w' hr
    have hc1 : w'.cell? ⟨g, j, none⟩ = some v := (hb.cell hlt).trans hcell
    refine ⟨pv, rfl, hSb _ hb, any_two rc h1 h2 (want_none g1 _) (want_none g2 _) ?_ ?_⟩
    · refine wp_load1 t x1 p1 ⟨g, j, none⟩ e1c (.slice e) ht rfl hc1 ⟨hSb _ hb, ?_⟩
      rw [q1, show (listed.setIfInBounds ic true).setIfInBounds i1 true = (listed.setIfInBounds i1 true).setIfInBounds ic true from Array.setIfInBounds_comm _ _ (Ne.symm n1)]
      exact any_one h2 r1c (want_none g2 _) (wp_box t e x2 p2 pv cs e2' (hrun w') ⟨hSa _ hb, h w' hb⟩)
    · refine wp_box t e x2 p2 pv cs e2 (hrun w') ⟨hSa _ hb, any_one h1 rc2 (want_none g1 _) (wp_load1 t x1 p1 ⟨g, j, none⟩ (e1d _) (.slice e) ht rfl (alloc_cell hc1) ⟨hSa _ hb, ?_⟩)⟩
      have h3 := h w' hb
      rw [q2, show ((listed.setIfInBounds ic true).setIfInBounds i2 true).setIfInBounds i1 true = ((listed.setIfInBounds i1 true).setIfInBounds ic true).setIfInBounds i2 true from by
        rw [Array.setIfInBounds_comm (i := i2) (j := i1) _ _ (Ne.symm n2), Array.setIfInBounds_comm (i := ic) (j := i1) _ _ (Ne.symm n1)]]
      exact h3
end
end Go.Proofs.Ytjckidjljkjhfaa
