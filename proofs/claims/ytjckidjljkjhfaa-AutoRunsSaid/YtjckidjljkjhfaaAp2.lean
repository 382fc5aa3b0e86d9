/- Two appends in one drawn region: list, words = append(list, s), append(words, words[i] + ..): in whatever order the boxes and the appends come. -/
import Derived.Test.YtjckidjljkjhfaaA1
import Derived.Test.YtjckidjljkjhfaaB1
namespace Go.Proofs.Ytjckidjljkjhfaa
open Go.RowKit Go.Proofs.YtjckidjljkjhfaaW.PrintWords
set_option linter.unusedSimpArgs false
set_option linter.unusedVariables false
section
variable {α : Type} {P : Program} {l : List Oper} {Q : Exit → Act → World → Prop} {md : Region.Mode} {o : Oper} {a : Act} {K : Act → World → Prop}
/-- append(v, x), x one value in a box of its own. -/
theorem wp_app1 (enc : α → Value) {e1 : ∀ x, (enc x).oneCell' = true} {w0 W : World} (base : Nat) (s x : Operand) (t e : TypeId) (z : Value) (bytes : Nat)
    (ho : o.op = .call { callee := .builtin .append, args := #[s, x], argTypes := #[t, t] })
    (ht : P.underlying t = some (.slice e)) (hinfo : (P.info? e).map (fun i => (i.zero, i.size, i.bytes)) = some (some z, 1, bytes)) (hz : z.cells.size = 1) (hb0 : 0 < bytes)
    (v : Value) (xs : List α) (p : α) (b : Nat) (hs : a.eval s = v) (hx : a.eval x = .slice (some ⟨b, 0, none⟩) 1 1) {e' : TypeId} {fr : Nat × Nat} (hb : W.heap[b]? = some (.cells #[enc p] e' fr))
    (HO : (Kd.scalar enc e1).R e W base (fun _ => True) v xs) (HB : Below base w0 W) (hbase : base ≤ W.heap.size) (hl : (xs.length + 1) * bytes ≤ 140737488355328)
    (h : ∀ v1 w1, (Kd.scalar enc e1).R e w1 base (fun _ => True) v1 (xs ++ [p]) → Below base w0 w1 → Appd W w1 v v1 xs.length → K (a.put o.dst v1) w1) : o.wp P a W K Q := by
  have hown := Kd.own_of_R HO
  have hcell : W.cell? ⟨b, 0, none⟩ = some (enc p) := by rw [cell_of_row _ _ _ _ _ _ hb]; rfl
  have hlen : xs.length + 1 ≤ 140737488355328 := Nat.le_trans (Nat.le_mul_of_pos_right _ hb0) hl
  obtain ⟨v1, w1, hr, ho1, ha⟩ := app_keep (P := P) W base t o.type e z bytes ht hinfo hz v xs.length _ hown ⟨b, 0, none⟩ (enc p) hcell (by simp [Addr.add]) (e1 p) (by omega) hl hbase
  have hnew : (Kd.scalar enc e1).R e w1 base (fun _ => True) v1 (xs ++ [p]) := Kd.R_of_own (by rw [List.length_append, List.length_singleton]; simpa [encs] using ho1) (fun _ _ => trivial)
  have hB1 : Below base w0 w1 := HB.grown ha.grown hbase (own_base hown)
  unfold Oper.wp execOp
  simp only [ho, resolve, invoke, builtin, Sem.run_bind, Sem.run_pure, Result.andThen_ok, List.map_toArray, List.map_cons, List.map_nil, hs, hx, hr]
  exact h v1 w1 hnew hB1 ha
theorem Appd.app {W w1 : World} {v v1 : Value} {n : Nat} (h : Appd W w1 v v1 n) : App W w1 v v1 := ⟨h.grown, h.at_⟩
/-- All blocks but the two lists' own are as they were. -/
def Off (W : World) (v u : Value) (w : World) : Prop := W.heap.size ≤ w.heap.size ∧ ∀ g, g < W.heap.size → some g ≠ v.ownBlock → some g ≠ u.ownBlock → w.heap[g]? = W.heap[g]?
end
section
variable {α β : Type} {P : Program} {l : List Oper} {Q : Exit → Act → World → Prop} {md : Region.Mode} {a : Act}
/-- The state between the operations. -/
structure Mid (encA : α → Value) (e1A : ∀ x, (encA x).oneCell' = true) (eA : TypeId) (encB : β → Value) (e1B : ∀ x, (encB x).oneCell' = true) (eB : TypeId) (w0 W : World) (v0 u0 : Value) (lb i : Nat) (cv : Value) (v : Value) (xs : List α) (u : Value) (ys : List β) (w : World) : Prop where
  A : (Kd.scalar encA e1A).R eA w w0.heap.size (fun _ => True) v xs
  B : (Kd.scalar encB e1B).R eB w w0.heap.size (fun _ => True) u ys
  bel : Below w0.heap.size w0 w
  off : Off W v0 u0 w
  atv : v.ownBlock = v0.ownBlock ∨ ∃ b, v.ownBlock = some b ∧ W.heap.size ≤ b
  atu : u.ownBlock = u0.ownBlock ∨ ∃ b, u.ownBlock = some b ∧ W.heap.size ≤ b
  cell : w.cell? ⟨lb, i, none⟩ = some cv
variable {encA : α → Value} {e1A : ∀ x, (encA x).oneCell' = true} {eA : TypeId} {encB : β → Value} {e1B : ∀ x, (encB x).oneCell' = true} {eB : TypeId} {w0 W : World} {v0 u0 : Value} {lb i : Nat} {cv : Value} {v u : Value} {xs : List α} {ys : List β} {w w1 : World}
theorem Mid.box (h : Mid encA e1A eA encB e1B eB w0 W v0 u0 lb i cv v xs u ys w) (o : Obj) : Mid encA e1A eA encB e1B eB w0 W v0 u0 lb i cv v xs u ys (w.alloc o) :=
  ⟨Kd.R_grown h.A (World.grownBy_alloc w o none) (fun _ _ => by simp), Kd.R_grown h.B (World.grownBy_alloc w o none) (fun _ _ => by simp), bl_alloc h.bel o,
    ⟨by have := h.off.1; rw [World.size_alloc]; omega, fun g hg h1 h2 => (Below.heap_alloc w o g (by have := h.off.1; omega)).trans (h.off.2 g hg h1 h2)⟩, h.atv, h.atu, alloc_cell h.cell⟩
theorem at_then {W w : World} {v0 v v1 : Value} (h : v.ownBlock = v0.ownBlock ∨ ∃ b, v.ownBlock = some b ∧ W.heap.size ≤ b) (hw : W.heap.size ≤ w.heap.size) (h1 : v1.ownBlock = v.ownBlock ∨ ∃ b, v1.ownBlock = some b ∧ w.heap.size ≤ b) :
    v1.ownBlock = v0.ownBlock ∨ ∃ b, v1.ownBlock = some b ∧ W.heap.size ≤ b := by
  rcases h1 with h1 | ⟨b, h1, h2⟩
  · rw [h1]; exact h
  · exact .inr ⟨b, h1, by omega⟩
theorem Mid.appA (h : Mid encA e1A eA encB e1B eB w0 W v0 u0 lb i cv v xs u ys w) (hne : eA ≠ eB) (hcu : some lb = u0.ownBlock) (hlt : lb < W.heap.size) (hv0 : v0.ownBlock ≠ some lb) {v1 : Value} {x : α}
    (hR : (Kd.scalar encA e1A).R eA w1 w0.heap.size (fun _ => True) v1 (xs ++ [x])) (hb : Below w0.heap.size w0 w1) (ha : Appd w w1 v v1 xs.length) : Mid encA e1A eA encB e1B eB w0 W v0 u0 lb i cv v1 (xs ++ [x]) u ys w1 := by
  refine ⟨hR, (ha.app.own rfl h.B (sep_type h.B h.A (Ne.symm hne))).1, hb, ⟨Nat.le_trans h.off.1 ha.grown.size, fun g hg h1 h2 => ?_⟩, at_then h.atv h.off.1 ha.at_, h.atu, ?_⟩
  · refine (ha.grown.block g (Nat.lt_of_lt_of_le hg h.off.1) ?_).trans (h.off.2 g hg h1 h2)
    rcases h.atv with h3 | ⟨b, h3, h4⟩
    · rw [h3]; exact h1
    · rw [h3]; intro he; injection he with he; omega
  · have hb2 : w1.heap[lb]? = w.heap[lb]? := ha.grown.block _ (Nat.lt_of_lt_of_le hlt h.off.1) (by
      rcases h.atv with h3 | ⟨b, h3, h4⟩
      · rw [h3]; exact fun he => hv0 he.symm
      · rw [h3]; intro he; injection he with he; omega)
    have hc := h.cell
    unfold World.cell? at hc ⊢
    rw [hb2]; exact hc
theorem Mid.appB (h : Mid encA e1A eA encB e1B eB w0 W v0 u0 lb i cv v xs u ys w) (hne : eA ≠ eB) (hcu : some lb = u0.ownBlock) (hi : i < ys.length) (hlt : lb < W.heap.size) {u1 : Value} {y : β}
    (hR : (Kd.scalar encB e1B).R eB w1 w0.heap.size (fun _ => True) u1 (ys ++ [y])) (hb : Below w0.heap.size w0 w1) (ha : Appd w w1 u u1 ys.length) : Mid encA e1A eA encB e1B eB w0 W v0 u0 lb i cv v xs u1 (ys ++ [y]) w1 := by
  refine ⟨(ha.app.own rfl h.A (sep_type h.A h.B hne)).1, hR, hb, ⟨Nat.le_trans h.off.1 ha.grown.size, fun g hg h1 h2 => ?_⟩, h.atv, at_then h.atu h.off.1 ha.at_, ?_⟩
  · refine (ha.grown.block g (Nat.lt_of_lt_of_le hg h.off.1) ?_).trans (h.off.2 g hg h1 h2)
    rcases h.atu with h3 | ⟨b, h3, h4⟩
    · rw [h3]; exact h2
    · rw [h3]; intro he; injection he with he; omega
  · rcases h.atu with h3 | ⟨b, h3, h4⟩
    · exact (ha.pre lb (by rw [h3, hcu]) i hi).trans h.cell
    · have hb2 : w1.heap[lb]? = w.heap[lb]? := ha.grown.block _ (Nat.lt_of_lt_of_le hlt h.off.1) (by rw [h3]; intro he; injection he with he; omega)
      have hc := h.cell
      unfold World.cell? at hc ⊢
      rw [hb2]; exact hc
theorem put_comm (a : Act) {n m : Nat} (h : n ≠ m) (x y : Value) : (a.put (some n) x).put (some m) y = (a.put (some m) y).put (some n) x := by
  simp only [Act.put]
  rw [Array.setIfInBounds_comm _ _ h]
theorem set_comm (L : Array Bool) {n m : Nat} (h : n ≠ m) : (L.setIfInBounds n true).setIfInBounds m true = (L.setIfInBounds m true).setIfInBounds n true := Array.setIfInBounds_comm _ _ h
theorem eval_skip {a : Act} {n : Nat} {v : Value} {x : Operand} (h : x ≠ .tmp n) : (a.put (some n) v).eval x = a.eval x := Act.eval_put (fun d hd => by injection hd with hd; subst hd; exact h)
theorem eval_new {a : Act} {n : Nat} {v : Value} (h : n < a.tmps.size) : (a.put (some n) v).eval (.tmp n) = v := by
  simp [Act.put, Act.eval, h]
theorem put_size (a : Act) (d : Option Tmp) (v : Value) : (a.put d v).tmps.size = a.tmps.size := by
  cases d <;> simp [Act.put]
set_option maxHeartbeats 1000000 in
/-- Both boxes and both appends (these in the text's order), in whatever order they are drawn. -/
theorem any_apps2 {fuel : Nat} {listed : Array Bool} {i1 i2 j1 j2 n1 n2 n3 n4 : Nat} {o1 o2 o3 o4 : Oper}
    (h1 : l[i1]? = some o1) (h2 : l[i2]? = some o2) (h3 : l[j1]? = some o3) (h4 : l[j2]? = some o4)
    (g1 : o1.guard = none) (g2 : o2.guard = none) (g3 : o3.guard = none) (g4 : o4.guard = none)
    (d1 : o1.dst = some n1) (d2 : o2.dst = some n2) (d3 : o3.dst = some n3) (d4 : o4.dst = some n4)
    (ne12 : i1 ≠ i2) (ne13 : i1 ≠ j1) (ne14 : i1 ≠ j2) (ne23 : i2 ≠ j1) (ne24 : i2 ≠ j2) (ne34 : j1 ≠ j2)
    (m13 : n1 ≠ n3) (m14 : n1 ≠ n4) (m23 : n2 ≠ n3) (m24 : n2 ≠ n4) (s1 : n1 < a.tmps.size) (s3 : n3 < a.tmps.size)
    (r00 : Region.ready md l.toArray listed = [i1, j1])
    (r10 : Region.ready md l.toArray (listed.setIfInBounds i1 true) = [i2, j1]) (r01 : Region.ready md l.toArray (listed.setIfInBounds j1 true) = [i1])
    (r11 : Region.ready md l.toArray ((listed.setIfInBounds i1 true).setIfInBounds j1 true) = [i2])
    (r20 : Region.ready md l.toArray ((listed.setIfInBounds i1 true).setIfInBounds i2 true) = [j1])
    (r21 : Region.ready md l.toArray (((listed.setIfInBounds i1 true).setIfInBounds i2 true).setIfInBounds j1 true) = [j2])
    (tA : TypeId) (zA : Value) (bA : Nat) (tB : TypeId) (zB : Value) (bB : Nat) {x1 x2 x3 x4 : Operand}
    (p1 : o1.op = .buildSlice tA 1 #[(0, x1)]) (p2 : o2.op = .call { callee := .builtin .append, args := #[x2, .tmp n1], argTypes := #[tA, tA] })
    (p3 : o3.op = .buildSlice tB 1 #[(0, x3)]) (p4 : o4.op = .call { callee := .builtin .append, args := #[x4, .tmp n3], argTypes := #[tB, tB] })
    (k13 : x1 ≠ .tmp n3) (k14 : x1 ≠ .tmp n4) (k21 : x2 ≠ .tmp n1) (k23 : x2 ≠ .tmp n3) (k24 : x2 ≠ .tmp n4)
    (k31 : x3 ≠ .tmp n1) (k32 : x3 ≠ .tmp n2) (k41 : x4 ≠ .tmp n1) (k42 : x4 ≠ .tmp n2) (k43 : x4 ≠ .tmp n3)
    (htA : P.underlying tA = some (.slice eA)) (hiA : (P.info? eA).map (fun i => (i.zero, i.size, i.bytes)) = some (some zA, 1, bA)) (hzA : zA.cells = #[zA]) (hbA : 0 < bA)
    (htB : P.underlying tB = some (.slice eB)) (hiB : (P.info? eB).map (fun i => (i.zero, i.size, i.bytes)) = some (some zB, 1, bB)) (hzB : zB.cells = #[zB]) (hbB : 0 < bB)
    (hne : eA ≠ eB) (x : α) (y : β) (cA : (encA x).cells = #[encA x]) (cB : (encB y).cells = #[encB y])
    (e1 : a.eval x1 = encA x) (e2 : a.eval x2 = v) (e3 : a.eval x3 = encB y) (e4 : a.eval x4 = u)
    (hcu : some lb = u.ownBlock) (hlt : lb < W.heap.size) (hi : i < ys.length) (hlA : (xs.length + 1) * bA ≤ 140737488355328) (hlB : (ys.length + 1) * bB ≤ 140737488355328)
    (hA : (Kd.scalar encA e1A).R eA W w0.heap.size (fun _ => True) v xs) (hB : (Kd.scalar encB e1B).R eB W w0.heap.size (fun _ => True) u ys) (hbel : Below w0.heap.size w0 W) (hcell : W.cell? ⟨lb, i, none⟩ = some cv)
    (h : ∀ v1 u1 w1 p q, Mid encA e1A eA encB e1B eB w0 W v u lb i cv v1 (xs ++ [x]) u1 (ys ++ [y]) w1 →
      wpAnyH P md l.toArray Q (fun w' => w'.cell? ⟨lb, i, none⟩ = some cv) fuel ((((listed.setIfInBounds i1 true).setIfInBounds i2 true).setIfInBounds j1 true).setIfInBounds j2 true) ((((a.put (some n1) p).put (some n2) v1).put (some n3) q).put (some n4) u1) w1) :
    wpAnyH P md l.toArray Q (fun w' => w'.cell? ⟨lb, i, none⟩ = some cv) (fuel + 1 + 1 + 1 + 1) listed a W := by
  have hv0 : v.ownBlock ≠ some lb := fun he => sep_type hA hB hne lb he hcu.symm
  have M0 : Mid encA e1A eA encB e1B eB w0 W v u lb i cv v xs u ys W := ⟨hA, hB, hbel, ⟨Nat.le_refl _, fun _ _ _ _ => rfl⟩, .inl rfl, .inl rfl, hcell⟩
  have boxA : ∀ (w : World) (a' : Act) (K : Act → World → Prop), a'.eval x1 = encA x → K (a'.put (some n1) (.slice (some ⟨w.heap.size, 0, none⟩) 1 1)) (w.alloc (.cells #[encA x] eA)) → o1.wp P a' w K Q := fun w a' K he hk =>
    wp_box tA eA x1 p1 (encA x) [encA x] he (run_box1 tA eA htA hiA hzA cA w) (by rw [d1]; exact hk)
  have boxB : ∀ (w : World) (a' : Act) (K : Act → World → Prop), a'.eval x3 = encB y → K (a'.put (some n3) (.slice (some ⟨w.heap.size, 0, none⟩) 1 1)) (w.alloc (.cells #[encB y] eB)) → o3.wp P a' w K Q := fun w a' K he hk =>
    wp_box tB eB x3 p3 (encB y) [encB y] he (run_box1 tB eB htB hiB hzB cB w) (by rw [d3]; exact hk)
  have appA : ∀ (w : World) (a' : Act) (K : Act → World → Prop) (b : Nat) (uu : Value) (yy : List β), Mid encA e1A eA encB e1B eB w0 W v u lb i cv v xs uu yy w → w.heap[b]? = some (.cells #[encA x] eA (0, 0)) → a'.eval x2 = v → a'.eval (.tmp n1) = .slice (some ⟨b, 0, none⟩) 1 1 →
      (∀ v1 w1, Mid encA e1A eA encB e1B eB w0 W v u lb i cv v1 (xs ++ [x]) uu yy w1 → (∀ g : Nat, w.heap[g]? = some (.cells #[encB y] eB (0, 0)) → w1.heap[g]? = some (.cells #[encB y] eB (0, 0))) → K (a'.put (some n2) v1) w1) → o2.wp P a' w K Q := fun w a' K b uu yy hm hb he1 he2 hk =>
    wp_app1 encA w0.heap.size _ _ tA eA zA bA p2 htA hiA (by rw [hzA]; rfl) hbA v xs x b he1 he2 hb hm.A hm.bel hm.bel.size hlA (fun v1 w1 hR hbl ha => by
      rw [d2]
      exact hk v1 w1 (hm.appA hne hcu hlt hv0 hR hbl ha) (fun g hg => ha.app.cells hg hm.A hne))
  have appB : ∀ (w : World) (a' : Act) (K : Act → World → Prop) (b : Nat) (vv : Value) (xx : List α), Mid encA e1A eA encB e1B eB w0 W v u lb i cv vv xx u ys w → w.heap[b]? = some (.cells #[encB y] eB (0, 0)) → a'.eval x4 = u → a'.eval (.tmp n3) = .slice (some ⟨b, 0, none⟩) 1 1 →
      (∀ u1 w1, Mid encA e1A eA encB e1B eB w0 W v u lb i cv vv xx u1 (ys ++ [y]) w1 → (∀ g : Nat, w.heap[g]? = some (.cells #[encA x] eA (0, 0)) → w1.heap[g]? = some (.cells #[encA x] eA (0, 0))) → K (a'.put (some n4) u1) w1) → o4.wp P a' w K Q := fun w a' K b vv xx hm hb he1 he2 hk =>
    wp_app1 encB w0.heap.size _ _ tB eB zB bB p4 htB hiB (by rw [hzB]; rfl) hbB u ys y b he1 he2 hb hm.B hm.bel hm.bel.size hlB (fun u1 w1 hR hbl ha => by
      rw [d4]
      exact hk u1 w1 (hm.appB hne hcu hi hlt hR hbl ha) (fun g hg => ha.app.cells hg hm.B (Ne.symm hne)))
  have k21' : ∀ (w : World) (p v1 : Value) (b : Nat), Mid encA e1A eA encB e1B eB w0 W v u lb i cv v1 (xs ++ [x]) u ys w → w.heap[b]? = some (.cells #[encB y] eB (0, 0)) →
      wpAnyH P md l.toArray Q (fun w' => w'.cell? ⟨lb, i, none⟩ = some cv) (fuel + 1) (((listed.setIfInBounds i1 true).setIfInBounds i2 true).setIfInBounds j1 true) (((a.put (some n1) p).put (some n2) v1).put (some n3) (.slice (some ⟨b, 0, none⟩) 1 1)) w := fun w p v1 b hm hb =>
    any_one h4 r21 (want_none g4 _) (appB w _ _ b v1 _ hm hb (by rw [eval_skip k43, eval_skip k42, eval_skip k41]; exact e4) (eval_new (by rw [put_size, put_size]; exact s3)) (fun u1 w1 hm1 _ => ⟨hm1.cell, h v1 u1 w1 p _ hm1⟩))
  have k20' : ∀ (w : World) (p v1 : Value), Mid encA e1A eA encB e1B eB w0 W v u lb i cv v1 (xs ++ [x]) u ys w →
      wpAnyH P md l.toArray Q (fun w' => w'.cell? ⟨lb, i, none⟩ = some cv) (fuel + 1 + 1) ((listed.setIfInBounds i1 true).setIfInBounds i2 true) ((a.put (some n1) p).put (some n2) v1) w := fun w p v1 hm =>
    any_one h3 r20 (want_none g3 _) (boxB w _ _ (by rw [eval_skip k32, eval_skip k31]; exact e3) ⟨(hm.box _).cell, k21' _ p v1 _ (hm.box _) (hp_new rfl)⟩)
  have k11' : ∀ (w : World) (b c : Nat), Mid encA e1A eA encB e1B eB w0 W v u lb i cv v xs u ys w → w.heap[b]? = some (.cells #[encA x] eA (0, 0)) → w.heap[c]? = some (.cells #[encB y] eB (0, 0)) →
      wpAnyH P md l.toArray Q (fun w' => w'.cell? ⟨lb, i, none⟩ = some cv) (fuel + 1 + 1) ((listed.setIfInBounds i1 true).setIfInBounds j1 true) ((a.put (some n1) (.slice (some ⟨b, 0, none⟩) 1 1)).put (some n3) (.slice (some ⟨c, 0, none⟩) 1 1)) w := fun w b c hm hb hc =>
    any_one h2 r11 (want_none g2 _)
      (appA w _ _ b u _ hm hb (by rw [eval_skip k23, eval_skip k21]; exact e2) (by rw [eval_skip (by simp; exact m13)]; exact eval_new s1) (fun v1 w1 hm1 hk => ⟨hm1.cell, by
        rw [put_comm _ (Ne.symm m23), set_comm _ (Ne.symm ne23)]
        exact k21' w1 _ v1 c hm1 (hk c hc)⟩))
  have k10' : ∀ (w : World) (b : Nat), Mid encA e1A eA encB e1B eB w0 W v u lb i cv v xs u ys w → w.heap[b]? = some (.cells #[encA x] eA (0, 0)) →
      wpAnyH P md l.toArray Q (fun w' => w'.cell? ⟨lb, i, none⟩ = some cv) (fuel + 1 + 1 + 1) (listed.setIfInBounds i1 true) (a.put (some n1) (.slice (some ⟨b, 0, none⟩) 1 1)) w := fun w b hm hb =>
    any_two r10 h2 h3 (want_none g2 _) (want_none g3 _)
      (appA w _ _ b u _ hm hb (by rw [eval_skip k21]; exact e2) (eval_new s1) (fun v1 w1 hm1 _ => ⟨hm1.cell, k20' w1 _ v1 hm1⟩))
      (boxB w _ _ (by rw [eval_skip k31]; exact e3) ⟨(hm.box _).cell, k11' _ b _ (hm.box _) (hp_old hb) (hp_new rfl)⟩)
  have k01' : ∀ (w : World) (c : Nat), Mid encA e1A eA encB e1B eB w0 W v u lb i cv v xs u ys w → w.heap[c]? = some (.cells #[encB y] eB (0, 0)) →
      wpAnyH P md l.toArray Q (fun w' => w'.cell? ⟨lb, i, none⟩ = some cv) (fuel + 1 + 1 + 1) (listed.setIfInBounds j1 true) (a.put (some n3) (.slice (some ⟨c, 0, none⟩) 1 1)) w := fun w c hm hc =>
    any_one h1 r01 (want_none g1 _)
      (boxA w _ _ (by rw [eval_skip k13]; exact e1) ⟨(hm.box _).cell, by
        rw [put_comm _ (Ne.symm m13), set_comm _ (Ne.symm ne13)]
        exact k11' _ _ c (hm.box _) (hp_new rfl) (hp_old hc)⟩)
  exact any_two r00 h1 h3 (want_none g1 _) (want_none g3 _)
    (boxA W _ _ e1 ⟨(M0.box _).cell, k10' _ _ (M0.box _) (hp_new rfl)⟩)
    (boxB W _ _ e3 ⟨(M0.box _).cell, k01' _ _ (M0.box _) (hp_new rfl)⟩)
end
end Go.Proofs.Ytjckidjljkjhfaa
