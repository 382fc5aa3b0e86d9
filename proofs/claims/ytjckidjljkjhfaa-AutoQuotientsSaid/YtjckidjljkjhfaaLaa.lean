/- append([]E{}, xs...) into a new struct, in a drawn region. -/
import Derived.Test.YtjckidjljkjhfaaC1
namespace Go.Proofs.Ytjckidjljkjhfaa
open Go.RowKit Go.Proofs.YtjckidjljkjhfaaW.PrintWords
set_option linter.unusedSimpArgs false
set_option linter.unusedVariables false
section
variable {P : Program} {l : List Oper} {Q : Exit → Act → World → Prop} {md : Region.Mode} {S : World → Prop} {a : Act} {w0 W : World}
set_option maxHeartbeats 1000000 in
/-- T{.., append([]E{}, xs...)} laid into a new block: the literal, the append, the block, in whatever order they are drawn. -/
theorem any_laa {α : Type} (enc : α → Value) {e1 : ∀ x : α, (enc x).oneCell' = true} {fuel : Nat} {listed : Array Bool} {i1 i2 i3 i4 n1 n2 n3 n4 : Nat} {o1 o2 o3 o4 : Oper}
    (h1 : l[i1]? = some o1) (h2 : l[i2]? = some o2) (h3 : l[i3]? = some o3) (h4 : l[i4]? = some o4) (g1 : o1.guard = none) (g2 : o2.guard = none) (g3 : o3.guard = none) (g4 : o4.guard = none)
    (d1 : o1.dst = some n1) (d2 : o2.dst = some n2) (d3 : o3.dst = some n3) (d4 : o4.dst = some n4) (ne12 : i1 ≠ i2) (ne13 : i1 ≠ i3) (ne23 : i2 ≠ i3) (ne34 : i3 ≠ i4) (m13 : n1 ≠ n3) (m23 : n2 ≠ n3) (m34 : n3 ≠ n4) (s1 : n1 < a.tmps.size) (s2 : n2 < a.tmps.size)
    (r0 : Region.ready md l.toArray listed = [i1, i3]) (r1 : Region.ready md l.toArray (listed.setIfInBounds i1 true) = [i2, i3]) (r3 : Region.ready md l.toArray (listed.setIfInBounds i3 true) = [i1])
    (r13 : Region.ready md l.toArray ((listed.setIfInBounds i1 true).setIfInBounds i3 true) = [i2])
    (hns : Region.noSelect l.toArray = true)
    (f12 : Region.free md l.toArray ((listed.setIfInBounds i1 true).setIfInBounds i2 true) i4 = true) (c12 : (Region.ready md l.toArray ((listed.setIfInBounds i1 true).setIfInBounds i2 true)).contains i4 = true)
    (r124 : Region.ready md l.toArray (((listed.setIfInBounds i1 true).setIfInBounds i2 true).setIfInBounds i4 true) = [i3])
    (f123 : Region.free md l.toArray (((listed.setIfInBounds i1 true).setIfInBounds i2 true).setIfInBounds i3 true) i4 = true) (c123 : (Region.ready md l.toArray (((listed.setIfInBounds i1 true).setIfInBounds i2 true).setIfInBounds i3 true)).contains i4 = true)
    (hQ : ∀ c a v w, Q (.panic c) (a.put o4.dst v) w → Q (.panic c) a w)
    (t e ty : TypeId) (z : Value) (bytes : Nat) {x2 x4 : Operand} (p2 : o2.op = .call { callee := .builtin .append, args := #[.tmp n1, x2], argTypes := #[t, t] }) (k21 : x2 ≠ .tmp n1) (k23 : x2 ≠ .tmp n3)
    (k41 : x4 ≠ .tmp n1) (k42 : x4 ≠ .tmp n2) (k43 : x4 ≠ .tmp n3)
    (ht : P.underlying t = some (.slice e)) (hinfo : (P.info? e).map (fun i => (i.zero, i.size, i.bytes)) = some (some z, 1, bytes)) (hz : z.cells.size = 1) (hb0 : 0 < bytes)
    (hlit : ∀ (a' : Act) (w : World), (execOp a'.eval o1).run P w = .ok (.value (.slice (some ⟨w.heap.size, 0, none⟩) 0 0)) (w.alloc (.cells (([] : List Value)).toArray e)))
    (zo : Obj) (hall : ∀ (a' : Act) (w : World), (execOp a'.eval o3).run P w = .ok (.value (.pointer (some ⟨w.heap.size, 0, none⟩))) (w.alloc zo))
    (ys : List α) (fv : Value → Value) (kv : Value) (hbld : ∀ (a' : Act) (A' : Option Addr) (c' : Nat) (w : World), a'.eval x4 = kv → a'.eval (.tmp n2) = .slice A' ys.length c' → (execOp a'.eval o4).run P w = .ok (.value (fv (.slice A' ys.length c'))) w)
    (A : Option Addr) (m c : Nat) (e2 : a.eval x2 = .slice A m c) (e4 : a.eval x4 = kv) (hS : S W) (hSb : ∀ w', S w' → Below w0.heap.size w0 w') (hSC : ∀ w', S w' → (Kd.scalar enc e1).C w' A m ys)
    (hSa : ∀ w' o, S w' → S (w'.alloc o)) (hSg : ∀ (w' w1 : World) (v : Value) (zs : List α), S w' → (Kd.scalar enc e1).R e w' w0.heap.size (fun _ => True) v zs → w'.grownBy w1 v.ownBlock → Below w0.heap.size w0 w1 → S w1) (hl : m * bytes ≤ 140737488355328)
    (h : ∀ (p v : Value) (go : Nat) (w1 : World), S w1 → (Kd.scalar enc e1).R e w1 w0.heap.size (fun _ => True) v ys → W.heap.size ≤ go → w1.heap[go]? = some zo →
      wpAnyH P md l.toArray Q S fuel ((((listed.setIfInBounds i1 true).setIfInBounds i2 true).setIfInBounds i3 true).setIfInBounds i4 true) ((((a.put (some n1) p).put (some n2) v).put (some n3) (.pointer (some ⟨go, 0, none⟩))).put (some n4) (fv v)) w1) :
    wpAnyH P md l.toArray Q S (fuel + 1 + 1 + 1 + 1) listed a W := by
  have hw4 : ∀ a' : Act, Region.wanted o4 (yielded l.toArray a'.tmps) = true := fun a' => want_none g4 _
  have litK : ∀ (w : World) (a' : Act) (K : Act → World → Prop), S w → (∀ v1 w1, S w1 → (Kd.scalar enc e1).R e w1 w0.heap.size (fun _ => True) v1 [] → w.grownBy w1 none → (∃ b, v1.ownBlock = some b ∧ w.heap.size ≤ b) → K (a'.put (some n1) v1) w1) → o1.wp P a' w K Q := fun w a' K hs hk =>
    wp_lit (Kd.scalar enc e1) (w0 := w0) w0.heap.size e g1 d1 (xs := ([] : List α)) (inner := []) (hlit a' w) (Reps.none _ _) (hSb w hs) (hSb w hs).size (by simp) (fun v1 w1 k1 k2 k3 k4 => by
      rw [d1]
      exact hk v1 w1 (hSg w w1 (.slice none 0 0) [] hs (Kd.R_nil _ _ _ _ _) k3 k2) k1 k3 k4)
  have appK : ∀ (w : World) (a' : Act) (K : Act → World → Prop) (v : Value), S w → (Kd.scalar enc e1).R e w w0.heap.size (fun _ => True) v [] → a'.eval (.tmp n1) = v → a'.eval x2 = .slice A m c →
      (∀ v1 w1, S w1 → (Kd.scalar enc e1).R e w1 w0.heap.size (fun _ => True) v1 ys → (∀ g o, w.heap[g]? = some o → some g ≠ v.ownBlock → w1.heap[g]? = some o) → w.heap.size ≤ w1.heap.size → K (a'.put (some n2) v1) w1) → o2.wp P a' w K Q := fun w a' K v hs hR he1 he2 hk =>
    wp_appends enc (w0 := w0) w0.heap.size g2 (.tmp n1) x2 t e z bytes p2 ht hinfo hz hb0 v [] ys A m c he1 he2 hR (hSC w hs) (hSb w hs) (hSb w hs).size (by simpa using hl) (fun v1 w1 k1 k2 k3 => by
      rw [d2]
      rw [List.nil_append] at k1
      exact hk v1 w1 (hSg w w1 v [] hs hR k3.gr k2) k1 (fun g o hg hne => k3.blk hg hne) k3.gr.size)
  have allK : ∀ (w : World) (a' : Act) (K : Act → World → Prop), K (a'.put (some n3) (.pointer (some ⟨w.heap.size, 0, none⟩))) (w.alloc zo) → o3.wp P a' w K Q := fun w a' K hk => by
    unfold Oper.wp
    rw [hall a' w, Oper.upon_value, d3]
    exact hk
  have k123 : ∀ (w1 : World) (p v : Value) (go : Nat), S w1 → (Kd.scalar enc e1).R e w1 w0.heap.size (fun _ => True) v ys → W.heap.size ≤ go → w1.heap[go]? = some zo →
      wpAnyH P md l.toArray Q S (fuel + 1) (((listed.setIfInBounds i1 true).setIfInBounds i2 true).setIfInBounds i3 true) (((a.put (some n1) p).put (some n2) v).put (some n3) (.pointer (some ⟨go, 0, none⟩))) w1 := fun w1 p v go hs hR hgo hz1 => by
    obtain ⟨A', c', rfl⟩ := Kd.R_slice hR
    exact any_take h4 hns f123 c123 (fun c a w h => hQ c a _ w h) hs (yi_val (hw4 _) (fun w' _ => hbld _ A' c' w' (by rw [eval_skip k43, eval_skip k42, eval_skip k41]; exact e4) (by rw [eval_skip (by simp; exact m23)]; exact eval_new (by rw [put_size]; exact s2)))) (by
      rw [d4]
      exact h p _ go w1 hs hR hgo hz1)
  have k13 : ∀ (w1 : World) (p : Value) (go : Nat), S w1 → (Kd.scalar enc e1).R e w1 w0.heap.size (fun _ => True) p [] → W.heap.size ≤ go → w1.heap[go]? = some zo → some go ≠ p.ownBlock →
      wpAnyH P md l.toArray Q S (fuel + 1 + 1) ((listed.setIfInBounds i1 true).setIfInBounds i3 true) ((a.put (some n1) p).put (some n3) (.pointer (some ⟨go, 0, none⟩))) w1 := fun w1 p go hs hR hgo hz1 hne =>
    any_one h2 r13 (want_none g2 _) (appK w1 _ _ p hs hR (by rw [eval_skip (by simp; exact m13)]; exact eval_new s1) (by rw [eval_skip k23, eval_skip k21]; exact e2) (fun v1 w2 hs2 hR2 hk _ => ⟨hs2, by
      rw [put_comm _ (Ne.symm m23), set_comm _ (Ne.symm ne23)]
      exact k123 w2 p v1 go hs2 hR2 hgo (hk go zo hz1 hne)⟩))
  refine any_two r0 h1 h3 (want_none g1 _) (want_none g3 _) ?_ ?_
  · refine litK W _ _ hS (fun v1 w1 hs1 hR1 hg1 hb1 => ⟨hs1, ?_⟩)
    refine any_two r1 h2 h3 (want_none g2 _) (want_none g3 _) ?_ ?_
    · refine appK w1 _ _ v1 hs1 hR1 (eval_new s1) (by rw [eval_skip k21]; exact e2) (fun v2 w2 hs2 hR2 hk hsz => ⟨hs2, ?_⟩)
      obtain ⟨A', c', rfl⟩ := Kd.R_slice hR2
      refine any_take (v := fv (.slice A' ys.length c')) h4 hns f12 c12 (fun c a w h => hQ c a _ w h) hs2 (yi_val (hw4 _) (fun w' _ => hbld _ A' c' w' (by rw [eval_skip k42, eval_skip k41]; exact e4) (eval_new (by rw [put_size]; exact s2)))) ?_
      rw [d4]
      refine any_one h3 r124 (want_none g3 _) (allK w2 _ _ ⟨hSa _ _ hs2, ?_⟩)
      rw [put_comm _ (Ne.symm m34), set_comm _ (Ne.symm ne34)]
      exact h v1 _ w2.heap.size (w2.alloc zo) (hSa _ _ hs2) (Kd.R_grown hR2 (World.grownBy_alloc w2 zo none) (fun _ _ => by simp)) (Nat.le_trans hg1.size hsz) (hp_new rfl)
    · refine allK w1 _ _ ⟨hSa _ _ hs1, ?_⟩
      exact k13 (w1.alloc zo) v1 w1.heap.size (hSa _ _ hs1) (Kd.R_grown hR1 (World.grownBy_alloc w1 zo none) (fun _ _ => by simp)) hg1.size (hp_new rfl) (fun he => by
        have := Kd.R_lt hR1 _ he.symm
        omega)
  · refine allK W _ _ ⟨hSa _ _ hS, ?_⟩
    refine any_one h1 r3 (want_none g1 _) (litK (W.alloc zo) _ _ (hSa _ _ hS) (fun v1 w1 hs1 hR1 hg1 hb1 => ⟨hs1, ?_⟩))
    rw [put_comm _ (Ne.symm m13), set_comm _ (Ne.symm ne13)]
    refine k13 w1 v1 W.heap.size hs1 hR1 (Nat.le_refl _) ((hg1.block _ (by rw [World.size_alloc]; omega) (by simp)).trans (hp_new rfl)) (fun he => ?_)
    obtain ⟨b, hb1, hb2⟩ := hb1
    rw [hb1] at he
    injection he with he
    rw [World.size_alloc] at hb2
    omega
end
end Go.Proofs.Ytjckidjljkjhfaa
