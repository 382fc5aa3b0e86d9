/- The reference's space of pairs: two automata's states, number behind number. -/
import Derived.Test.YtjckidjljkjhfaaPrX
import Derived.Test.YtjckidjljkjhfaaC4
namespace Go.Proofs.Ytjckidjljkjhfaa
open Go.RowKit Go.Proofs.YtjckidjljkjhfaaW.PrintWords Go.Proofs.Ytjckidjljkjhfaa.PAutoMakes
set_option linter.unusedSimpArgs false
set_option linter.unusedVariables false
/-- A pair's text. -/
def nm2 (s : Nat × Nat) : ByteArray := nm s.1 ++ nm s.2
theorem nm2_size (s : Nat × Nat) : (nm2 s).size = 4 := rfl
theorem nm2_data (s : Nat × Nat) : (nm2 s).data = #[UInt8.ofNat (s.1 / 64), UInt8.ofNat (s.1 % 64), UInt8.ofNat (s.2 / 64), UInt8.ofNat (s.2 % 64)] := by
  unfold nm2 nm
  rw [ByteArray.data_append]
  rfl
theorem nm2_cut (s : Nat × Nat) : (nm2 s).extract 2 4 = nm s.2 := by
  apply ByteArray.ext
  rw [ByteArray.data_extract, nm2_data]
  rfl
theorem nm2_pre (s : Nat × Nat) : (nm2 s).extract 0 2 = nm s.1 := by
  apply ByteArray.ext
  rw [ByteArray.data_extract, nm2_data]
  rfl
theorem nm2_val {s : Nat × Nat} (h : s.1 < 16384) : eggboxref08_value.f (nm2 s) = some (s.1 : Int) := by
  have h2 := nm_val h
  unfold eggboxref08_value.f at h2 ⊢
  rw [nm2_size]
  rw [nm_size] at h2
  rw [if_pos (by decide), if_pos (by decide)] at h2 ⊢
  have e0 : bt (nm2 s) 0 = bt (nm s.1) 0 := by kernel_rfl
  have e1 : bt (nm2 s) 1 = bt (nm s.1) 1 := by kernel_rfl
  rw [e0, e1]
  exact h2
theorem nm2_inj {s t : Nat × Nat} (h1 : s.1 < 16384) (h2 : s.2 < 16384) (h3 : t.1 < 16384) (h4 : t.2 < 16384) (h : nm2 s = nm2 t) : s = t := by
  have e1 := nm2_pre s
  have e2 := nm2_cut s
  rw [h, nm2_pre] at e1
  rw [h, nm2_cut] at e2
  exact Prod.ext (nm_inj h1 h3 e1.symm) (nm_inj h2 h4 e2.symm)
theorem value2_any (s : Nat × Nat) (h : s.1 < 16384) (w : World) : Calls Try.prog 98 #[.string (nm2 s)] w fun e w' => e = .returned (.int .i64 (s.1 : Int)) ∧ Below w.heap.size w w' := (eggboxref08_value.calls _ _ w (nm2_val h)).mono fun e w' ⟨he, n, hw⟩ => ⟨he, by rw [hw]; exact bl_drewN (Below.refl _ _) n⟩
set_option maxRecDepth 100000 in
set_option maxHeartbeats 400000 in
theorem rstart2_any (k k2 : Int) (s1 s2 s4 s5 : Value) (w : World) : Calls Try.prog 89 #[.agg #[.int .i64 2, .int .i64 k, s1, s2, .int .i64 k2, s4, s5]] w fun e w' => e = .returned (.string (nm2 (0, 0))) ∧ Below w.heap.size w w' := by
  have HB := Lib.hid (bl_alloc (Below.refl w.heap.size w) (.cells #[.int .i64 2, .int .i64 k, s1, s2, .int .i64 k2, s4, s5] 77))
  go_enter Try.func89, Try.ntmps89
  go_wp2_with fail
  refine (number_any 0 (by decide) _).mono ?_
  rintro e w1 ⟨rfl, hb⟩
  have HB1 := Lib.hid (bl_then HB.out hb)
  clear hb HB
  go_wp2_with fail
  refine (number_any 0 (by decide) _).mono ?_
  rintro e w2 ⟨rfl, hb⟩
  have HB2 := Lib.hid (bl_then HB1.out hb)
  clear hb HB1
  go_wp2
  go_ret
  exact ⟨rfl, HB2.out⟩
/-- The cells of a space of pairs. -/
def spc (kd : Int) (x y : AutV) (A : Option Addr) (c : Nat) (B : Option Addr) (d : Nat) (X : Option Addr) (xc : Nat) (Y : Option Addr) (yc : Nat) : Array Value := #[.int .i64 kd, .int .i64 x.k, .slice A x.next.length c, .slice B x.acc.length d, .int .i64 y.k, .slice X y.next.length xc, .slice Y y.acc.length yc]
set_option maxRecDepth 100000 in
set_option maxHeartbeats 1600000 in
theorem rstep2_any (x y : AutV) (A : Option Addr) (c : Nat) (B : Option Addr) (d : Nat) (X : Option Addr) (xc : Nat) (Y : Option Addr) (yc : Nat) (hx : AutOk x) (hy : AutOk y) (hk : y.k = x.k) (s : Nat × Nat) (l : Nat) (hs1 : s.1 < x.acc.length) (hs2 : s.2 < y.acc.length) (hl : (l : Int) < x.k) (w : World) (hr : ARd w x A B) (hr' : ARd w y X Y) :
    Calls Try.prog 90 #[.agg (spc 2 x y A c B d X xc Y yc), .string (nm2 s), .int .i64 (l : Int)] w fun e w' => e = .returned (.string (nm2 (pst x y s l))) ∧ Below w.heap.size w w' := by
  obtain ⟨ad, p, L1⟩ := lkN hx hr hs1 hl
  obtain ⟨bd, q, L2⟩ := lkN hy hr' hs2 (by rw [hk]; exact hl)
  have e1 := L1.addr; have e2 := L2.addr
  have m2 := L2.mul
  rw [hk] at m2
  obtain ⟨z1l, _⟩ := stp_lt hx hs1 hl
  obtain ⟨z2l, _⟩ := stp_lt hy hs2 (by rw [hk]; exact hl)
  have hxn := hx.2.2.2.1; have hyn := hy.2.2.2.1
  have HV1 := Aside0.mk (fun W => value2_any s (by omega) W)
  have HV2 := Aside0.mk (fun W => value_any s.2 (by omega) W)
  have HN1 := Aside0.mk (fun W => number_any (stp x s.1 l) (by omega) W)
  have HN2 := Aside0.mk (fun W => number_any (stp y s.2 l) (by omega) W)
  have hcut := nm2_cut s
  have hsz := nm2_size s
  have hC1 := L1.cell; have hC2 := L2.cell
  have a1 := L1.mul; have a2 := L1.add; have a3 := L1.pos; have a4 := L1.lt; have a5 := L1.nat
  have b2 := L2.add; have b3 := L2.pos; have b4 := L2.lt; have b5 := L2.nat
  have hz : nm2 (pst x y s l) = nm (stp x s.1 l) ++ nm (stp y s.2 l) := rfl
  rw [hz]
  unfold spc
  rw [hk]
  clear hx hy hr hr' hk L1 L2 hz hs1 hs2 hl z1l z2l hxn hyn
  generalize nm2 s = b at *
  generalize stp x s.1 l = z1 at *
  generalize stp y s.2 l = z2 at *
  generalize s.1 = u1 at *
  generalize s.2 = u2 at *
  have hz1 := nm_size z1
  have hz2 := nm_size z2
  generalize nm z1 = n1 at *
  generalize nm z2 = n2 at *
  generalize nm u2 = n3 at *
  generalize x.next.length = xl at *
  generalize y.next.length = yl at *
  generalize x.acc.length = xa at *
  generalize y.acc.length = ya at *
  generalize x.k = kk at *
  subst e1
  subst e2
  generalize hcs : (#[.int .i64 2, .int .i64 kk, .slice (some ad) xl c, .slice B xa d, .int .i64 kk, .slice (some bd) yl xc, .slice Y ya yc] : Array Value) = cs
  have HB := Lib.hid (hp_new (w := w) (o := .cells cs 77 (0, 0)) rfl); have HBL := Lib.hid (bl_alloc (Below.refl w.heap.size w) (.cells cs 77 (0, 0)))
  have HC1 := Lib.hid (alloc_cell (o := .cells cs 77 (0, 0)) hC1)
  have HC2 := Lib.hid (alloc_cell (o := .cells cs 77 (0, 0)) hC2)
  subst hcs
  clear hC1 hC2
  go_enter Try.func90, Try.ntmps90
  go_wp2
  generalize hcs : (#[.int .i64 2, .int .i64 kk, .slice (some ad) xl c, .slice B xa d, .int .i64 kk, .slice (some bd) yl xc, .slice Y ya yc] : Array Value) = cs at HB HBL HC1 HC2 ⊢
  have hS0 : (w.alloc (.cells cs 77 (0, 0))).drew.heap[w.heap.size]? = some (Obj.cells cs 77 (0, 0)) ∧ (w.alloc (.cells cs 77 (0, 0))).drew.cell? (ad.add (p + l)) = some (.int .i64 (z1 : Int)) ∧ (w.alloc (.cells cs 77 (0, 0))).drew.cell? (bd.add (q + l)) = some (.int .i64 (z2 : Int)) ∧ Below w.heap.size w (w.alloc (.cells cs 77 (0, 0))).drew := ⟨HB.out, HC1.out, HC2.out, HBL.out.drew⟩
  refine wp_region_held_drew (S := fun w' => w'.heap[w.heap.size]? = some (Obj.cells cs 77 (0, 0)) ∧ w'.cell? (ad.add (p + l)) = some (.int .i64 (z1 : Int)) ∧ w'.cell? (bd.add (q + l)) = some (.int .i64 (z2 : Int)) ∧ Below w.heap.size w w') (by kernel_rfl) hS0 (fun hS => ?_)
  have keep : ∀ {w1 w2 : World}, (w1.heap[w.heap.size]? = some (Obj.cells cs 77 (0, 0)) ∧ w1.cell? (ad.add (p + l)) = some (.int .i64 (z1 : Int)) ∧ w1.cell? (bd.add (q + l)) = some (.int .i64 (z2 : Int)) ∧ Below w.heap.size w w1) → Below w1.heap.size w1 w2 → (w2.heap[w.heap.size]? = some (Obj.cells cs 77 (0, 0)) ∧ w2.cell? (ad.add (p + l)) = some (.int .i64 (z1 : Int)) ∧ w2.cell? (bd.add (q + l)) = some (.int .i64 (z2 : Int)) ∧ Below w.heap.size w w2) := fun h hb => ⟨hp_below' hb h.1, (hb.cell (World.block_lt_of_cell? _ _ h.2.1)).trans h.2.1, (hb.cell (World.block_lt_of_cell? _ _ h.2.2.1)).trans h.2.2.1, bl_then h.2.2.2 hb⟩
  refine any_take (i := 0) (v := ?v3) rfl (by kernel_rfl) (by kernel_rfl) (by kernel_rfl) (fun _ _ _ h => h) hS (.inl ⟨by rfl, ?y3⟩) ?_
  case y3 => (intro w' h'; go_simp; with_reducible rfl)
  (try simp only [Act.put, List.setIfInBounds_toArray, List.set_cons_zero, List.set_cons_succ])
  refine any_take (i := 1) (v := ?v4) rfl (by kernel_rfl) (by kernel_rfl) (by kernel_rfl) (fun _ _ _ h => h) hS (.inl ⟨by rfl, ?y4⟩) ?_
  case y4 => (intro w' h'; go_simp; with_reducible rfl)
  (try simp only [Act.put, List.setIfInBounds_toArray, List.set_cons_zero, List.set_cons_succ])
  refine any_take (i := 2) (v := (.slice (some ad) xl c)) rfl (by kernel_rfl) (by kernel_rfl) (by kernel_rfl) (fun _ _ _ h => h) hS (yi_cell _ _ rfl (by rfl) ⟨w.heap.size, 2, none⟩ rfl _ Try.underlying22 rfl (fun w' h' => (by rw [cell_of_row _ _ _ _ _ _ h'.1, ← hcs]; rfl))) ?_
  (try simp only [Act.put, List.setIfInBounds_toArray, List.set_cons_zero, List.set_cons_succ])
  refine any_take (i := 3) (v := ?v7) rfl (by kernel_rfl) (by kernel_rfl) (by kernel_rfl) (fun _ _ _ h => h) hS (.inl ⟨by rfl, ?y7⟩) ?_
  case y7 => (intro w' h'; go_simp; with_reducible rfl)
  (try simp only [Act.put, List.setIfInBounds_toArray, List.set_cons_zero, List.set_cons_succ])
  refine any_take (i := 5) (v := ?v8) rfl (by kernel_rfl) (by kernel_rfl) (by kernel_rfl) (fun _ _ _ h => h) hS (.inl ⟨by rfl, ?y8⟩) ?_
  case y8 => (intro w' h'; go_simp; with_reducible rfl)
  (try simp only [Act.put, List.setIfInBounds_toArray, List.set_cons_zero, List.set_cons_succ])
  refine any_take (i := 7) (v := ?v9) rfl (by kernel_rfl) (by kernel_rfl) (by kernel_rfl) (fun _ _ _ h => h) hS (.inl ⟨by rfl, ?y9⟩) ?_
  case y9 => (intro w' h'; go_simp; with_reducible rfl)
  (try simp only [Act.put, List.setIfInBounds_toArray, List.set_cons_zero, List.set_cons_succ])
  refine any_take (i := 12) (v := ?v10) rfl (by kernel_rfl) (by kernel_rfl) (by kernel_rfl) (fun _ _ _ h => h) hS (.inl ⟨by rfl, ?y10⟩) ?_
  case y10 => (intro w' h'; go_simp; with_reducible rfl)
  (try simp only [Act.put, List.setIfInBounds_toArray, List.set_cons_zero, List.set_cons_succ])
  refine any_take (i := 13) (v := ?v11) rfl (by kernel_rfl) (by kernel_rfl) (by kernel_rfl) (fun _ _ _ h => h) hS (.inl ⟨by rfl, ?y11⟩) ?_
  case y11 => (intro w' h'; go_simp; with_reducible rfl)
  (try simp only [Act.put, List.setIfInBounds_toArray, List.set_cons_zero, List.set_cons_succ])
  refine any_take (i := 14) (v := (.slice (some bd) yl xc)) rfl (by kernel_rfl) (by kernel_rfl) (by kernel_rfl) (fun _ _ _ h => h) hS (yi_cell _ _ rfl (by rfl) ⟨w.heap.size, 5, none⟩ rfl _ Try.underlying22 rfl (fun w' h' => (by rw [cell_of_row _ _ _ _ _ _ h'.1, ← hcs]; rfl))) ?_
  (try simp only [Act.put, List.setIfInBounds_toArray, List.set_cons_zero, List.set_cons_succ])
  refine any_take (i := 15) (v := ?v14) rfl (by kernel_rfl) (by kernel_rfl) (by kernel_rfl) (fun _ _ _ h => h) hS (.inl ⟨by rfl, ?y14⟩) ?_
  case y14 => (intro w' h'; go_simp; with_reducible rfl)
  (try simp only [Act.put, List.setIfInBounds_toArray, List.set_cons_zero, List.set_cons_succ])
  refine any_take (i := 16) (v := (.string n3)) rfl (by kernel_rfl) (by kernel_rfl) (by kernel_rfl) (fun _ _ _ h => h) hS (yi_val (by rfl) (fun w' h' => ?y15)) ?_
  case y15 => first | rfl | (go_simp; done) | (go_simp; omega)
  (try simp only [Act.put, List.setIfInBounds_toArray, List.set_cons_zero, List.set_cons_succ])
  refine any_take (i := 18) (v := ?v17) rfl (by kernel_rfl) (by kernel_rfl) (by kernel_rfl) (fun _ _ _ h => h) hS (.inl ⟨by rfl, ?y17⟩) ?_
  case y17 => (intro w' h'; go_simp; with_reducible rfl)
  (try simp only [Act.put, List.setIfInBounds_toArray, List.set_cons_zero, List.set_cons_succ])
  refine any_take (i := 20) (v := ?v18) rfl (by kernel_rfl) (by kernel_rfl) (by kernel_rfl) (fun _ _ _ h => h) hS (.inl ⟨by rfl, ?y18⟩) ?_
  case y18 => (intro w' h'; go_simp; with_reducible rfl)
  (try simp only [Act.put, List.setIfInBounds_toArray, List.set_cons_zero, List.set_cons_succ])
  refine any_call (i := 4) rfl (by kernel_rfl) (by rfl) 98 #[.string b] ?x19 (HV1.out _) ?_
  case x19 => (simp [go_sem])
  (try simp only [Act.put, List.setIfInBounds_toArray, List.set_cons_zero, List.set_cons_succ])
  rintro e w1 ⟨rfl, hb1⟩
  have hS1 := keep hS hb1
  refine ⟨_, rfl, hS1, ?_⟩
  (try simp only [Act.put, List.setIfInBounds_toArray, List.set_cons_zero, List.set_cons_succ])
  refine any_take (i := 6) (v := (.int .i64 (p : Int))) rfl (by kernel_rfl) (by kernel_rfl) (by kernel_rfl) (fun _ _ _ h => h) hS1 (yi_val (by rfl) (fun w' h' => ?y22)) ?_
  case y22 => first | rfl | (go_simp; done) | (go_simp; omega)
  (try simp only [Act.put, List.setIfInBounds_toArray, List.set_cons_zero, List.set_cons_succ])
  refine any_take (i := 8) (v := (.int .i64 ((p : Int) + (l : Int)))) rfl (by kernel_rfl) (by kernel_rfl) (by kernel_rfl) (fun _ _ _ h => h) hS1 (yi_val (by rfl) (fun w' h' => ?y23)) ?_
  case y23 => first | rfl | (go_simp; done) | (go_simp; omega)
  (try simp only [Act.put, List.setIfInBounds_toArray, List.set_cons_zero, List.set_cons_succ])
  refine any_take (i := 9) (v := ?v25) rfl (by kernel_rfl) (by kernel_rfl) (by kernel_rfl) (fun _ _ _ h => h) hS1 (.inl ⟨by rfl, ?y25⟩) ?_
  case y25 => (intro w' h'; go_simp; with_reducible rfl)
  (try simp only [Act.put, List.setIfInBounds_toArray, List.set_cons_zero, List.set_cons_succ])
  refine any_take (i := 10) (v := (.int .i64 (z1 : Int))) rfl (by kernel_rfl) (by kernel_rfl) (by kernel_rfl) (fun _ _ _ h => h) hS1 (yi_cell _ _ rfl (by rfl) (ad.add (p + l)) rfl _ Try.underlying3 rfl (fun w' h' => h'.2.1)) ?_
  (try simp only [Act.put, List.setIfInBounds_toArray, List.set_cons_zero, List.set_cons_succ])
  refine any_call (i := 11) rfl (by kernel_rfl) (by rfl) 96 #[.int .i64 (z1 : Int)] ?x27 (HN1.out _) ?_
  case x27 => (simp [go_sem])
  (try simp only [Act.put, List.setIfInBounds_toArray, List.set_cons_zero, List.set_cons_succ])
  rintro e w2 ⟨rfl, hb2⟩
  have hS2 := keep hS1 hb2
  refine ⟨_, rfl, hS2, ?_⟩
  (try simp only [Act.put, List.setIfInBounds_toArray, List.set_cons_zero, List.set_cons_succ])
  refine any_call (i := 17) rfl (by kernel_rfl) (by rfl) 98 #[.string n3] ?x30 (HV2.out _) ?_
  case x30 => (simp [go_sem])
  (try simp only [Act.put, List.setIfInBounds_toArray, List.set_cons_zero, List.set_cons_succ])
  rintro e w3 ⟨rfl, hb3⟩
  have hS3 := keep hS2 hb3
  refine ⟨_, rfl, hS3, ?_⟩
  (try simp only [Act.put, List.setIfInBounds_toArray, List.set_cons_zero, List.set_cons_succ])
  refine any_take (i := 19) (v := (.int .i64 (q : Int))) rfl (by kernel_rfl) (by kernel_rfl) (by kernel_rfl) (fun _ _ _ h => h) hS3 (yi_val (by rfl) (fun w' h' => ?y33)) ?_
  case y33 => first | rfl | (go_simp; done) | (go_simp; omega)
  (try simp only [Act.put, List.setIfInBounds_toArray, List.set_cons_zero, List.set_cons_succ])
  refine any_take (i := 21) (v := (.int .i64 ((q : Int) + (l : Int)))) rfl (by kernel_rfl) (by kernel_rfl) (by kernel_rfl) (fun _ _ _ h => h) hS3 (yi_val (by rfl) (fun w' h' => ?y34)) ?_
  case y34 => first | rfl | (go_simp; done) | (go_simp; omega)
  (try simp only [Act.put, List.setIfInBounds_toArray, List.set_cons_zero, List.set_cons_succ])
  refine any_take (i := 22) (v := ?v36) rfl (by kernel_rfl) (by kernel_rfl) (by kernel_rfl) (fun _ _ _ h => h) hS3 (.inl ⟨by rfl, ?y36⟩) ?_
  case y36 => (intro w' h'; go_simp; with_reducible rfl)
  (try simp only [Act.put, List.setIfInBounds_toArray, List.set_cons_zero, List.set_cons_succ])
  refine any_take (i := 23) (v := (.int .i64 (z2 : Int))) rfl (by kernel_rfl) (by kernel_rfl) (by kernel_rfl) (fun _ _ _ h => h) hS3 (yi_cell _ _ rfl (by rfl) (bd.add (q + l)) rfl _ Try.underlying3 rfl (fun w' h' => h'.2.2.1)) ?_
  (try simp only [Act.put, List.setIfInBounds_toArray, List.set_cons_zero, List.set_cons_succ])
  refine any_call (i := 24) rfl (by kernel_rfl) (by rfl) 96 #[.int .i64 (z2 : Int)] ?x38 (HN2.out _) ?_
  case x38 => (simp [go_sem])
  (try simp only [Act.put, List.setIfInBounds_toArray, List.set_cons_zero, List.set_cons_succ])
  rintro e w4 ⟨rfl, hb4⟩
  have hS4 := keep hS3 hb4
  refine ⟨_, rfl, hS4, ?_⟩
  (try simp only [Act.put, List.setIfInBounds_toArray, List.set_cons_zero, List.set_cons_succ])
  refine any_take (i := 25) (v := (.string (n1 ++ n2))) rfl (by kernel_rfl) (by kernel_rfl) (by kernel_rfl) (fun _ _ _ h => h) hS4 (yi_val (by rfl) (fun w' h' => ?y41)) ?_
  case y41 => first | rfl | (go_simp; done) | (go_simp; omega)
  (try simp only [Act.put, List.setIfInBounds_toArray, List.set_cons_zero, List.set_cons_succ])
  refine any_take (i := 26) (v := ?v43) rfl (by kernel_rfl) (by kernel_rfl) (by kernel_rfl) (fun _ _ _ h => h) hS4 (.inl ⟨by rfl, ?y43⟩) ?_
  case y43 => (intro w' h'; go_simp; with_reducible rfl)
  (try simp only [Act.put, List.setIfInBounds_toArray, List.set_cons_zero, List.set_cons_succ])
  refine wpAnyH_done (by kernel_rfl) ?_ _
  have HF := Lib.hid hS4.2.2.2
  clear keep hS hS0 hS1 hS2 hS3 hS4 hb1 hb2 hb3 hb4 hcs
  go_wp2
  go_ret
  exact ⟨rfl, HF.out⟩
/-- How a pair is good. -/
def hwB (how : Int) (p q : Bool) : Bool := if how = 1 then andB p q else (if how = 2 then orB p q else butB p q)
set_option maxRecDepth 100000 in
set_option maxHeartbeats 1600000 in
theorem rgood2_any (how : Int) (hhow : how = 1 ∨ how = 2 ∨ how = 3) (x y : AutV) (A : Option Addr) (c : Nat) (B : Option Addr) (d : Nat) (X : Option Addr) (xc : Nat) (Y : Option Addr) (yc : Nat) (hx : AutOk x) (hy : AutOk y) (s : Nat × Nat) (hs1 : s.1 < x.acc.length) (hs2 : s.2 < y.acc.length) (w : World) (hr : ARd w x A B) (hr' : ARd w y X Y) :
    Calls Try.prog 92 #[.agg (spc 2 x y A c B d X xc Y yc), .string (nm2 s), .int .i64 how] w fun e w' => e = .returned (.bool (pgd (hwB how) x y s)) ∧ Below w.heap.size w w' := by
  obtain ⟨ad, e1, cA⟩ := Kd.at_bool hr.acc (s.1 : Int) (by omega) (by omega)
  obtain ⟨bd, e2, cB⟩ := Kd.at_bool hr'.acc (s.2 : Int) (by omega) (by omega)
  rw [Int.toNat_natCast] at cA cB
  have hxn := hx.2.2.2.1; have hyn := hy.2.2.2.1
  have HHW := Lib.hid hhow
  clear hhow
  have HV1 := Aside0.mk (fun W => value2_any s (by omega) W)
  have HV2 := Aside0.mk (fun W => value_any s.2 (by omega) W)
  have hcut := nm2_cut s
  have hsz := nm2_size s
  unfold pgd spc
  have hgo : ∀ p q, hwB how p q = (if how = 1 then (p && q) else (if how = 2 then (p || q) else (p && !q))) := fun _ _ => rfl
  rw [hgo]
  clear hx hy hr hr' hxn hyn hgo
  generalize nm2 s = b at *
  generalize rdOf false x.acc (s.1 : Int) = p at *
  generalize rdOf false y.acc (s.2 : Int) = q at *
  generalize s.1 = u1 at *
  generalize s.2 = u2 at *
  generalize nm u2 = n3 at *
  generalize x.next.length = xl at *
  generalize y.next.length = yl at *
  generalize x.acc.length = xa at *
  generalize y.acc.length = ya at *
  generalize x.k = kk at *
  generalize y.k = kj at *
  subst e1
  subst e2
  generalize hcs : (#[.int .i64 2, .int .i64 kk, .slice A xl c, .slice (some ad) xa d, .int .i64 kj, .slice X yl xc, .slice (some bd) ya yc] : Array Value) = cs
  have HB := Lib.hid (hp_new (w := w) (o := .cells cs 77 (0, 0)) rfl); have HBL := Lib.hid (bl_alloc (Below.refl w.heap.size w) (.cells cs 77 (0, 0)))
  have HC1 := Lib.hid (alloc_cell (o := .cells cs 77 (0, 0)) cA)
  have HC2 := Lib.hid (alloc_cell (o := .cells cs 77 (0, 0)) cB)
  subst hcs
  clear cA cB
  go_enter Try.func92, Try.ntmps92
  go_wp2
  generalize hcs : (#[.int .i64 2, .int .i64 kk, .slice A xl c, .slice (some ad) xa d, .int .i64 kj, .slice X yl xc, .slice (some bd) ya yc] : Array Value) = cs at HB HBL HC1 HC2 ⊢
  have hS0 : (w.alloc (.cells cs 77 (0, 0))).drew.heap[w.heap.size]? = some (Obj.cells cs 77 (0, 0)) ∧ (w.alloc (.cells cs 77 (0, 0))).drew.cell? (ad.add u1) = some (.bool p) ∧ (w.alloc (.cells cs 77 (0, 0))).drew.cell? (bd.add u2) = some (.bool q) ∧ Below w.heap.size w (w.alloc (.cells cs 77 (0, 0))).drew := ⟨HB.out, HC1.out, HC2.out, HBL.out.drew⟩
  refine wp_region_held_drew (S := fun w' => w'.heap[w.heap.size]? = some (Obj.cells cs 77 (0, 0)) ∧ w'.cell? (ad.add u1) = some (.bool p) ∧ w'.cell? (bd.add u2) = some (.bool q) ∧ Below w.heap.size w w') (by kernel_rfl) hS0 (fun hS => ?_)
  have keep : ∀ {w1 w2 : World}, (w1.heap[w.heap.size]? = some (Obj.cells cs 77 (0, 0)) ∧ w1.cell? (ad.add u1) = some (.bool p) ∧ w1.cell? (bd.add u2) = some (.bool q) ∧ Below w.heap.size w w1) → Below w1.heap.size w1 w2 → (w2.heap[w.heap.size]? = some (Obj.cells cs 77 (0, 0)) ∧ w2.cell? (ad.add u1) = some (.bool p) ∧ w2.cell? (bd.add u2) = some (.bool q) ∧ Below w.heap.size w w2) := fun h hb => ⟨hp_below' hb h.1, (hb.cell (World.block_lt_of_cell? _ _ h.2.1)).trans h.2.1, (hb.cell (World.block_lt_of_cell? _ _ h.2.2.1)).trans h.2.2.1, bl_then h.2.2.2 hb⟩
  refine any_take (i := 0) (v := ?v46) rfl (by kernel_rfl) (by kernel_rfl) (by kernel_rfl) (fun _ _ _ h => h) hS (.inl ⟨by rfl, ?y46⟩) ?_
  case y46 => (intro w' h'; go_simp; with_reducible rfl)
  (try simp only [Act.put, List.setIfInBounds_toArray, List.set_cons_zero, List.set_cons_succ])
  refine any_take (i := 1) (v := ?v47) rfl (by kernel_rfl) (by kernel_rfl) (by kernel_rfl) (fun _ _ _ h => h) hS (.inl ⟨by rfl, ?y47⟩) ?_
  case y47 => (intro w' h'; go_simp; with_reducible rfl)
  (try simp only [Act.put, List.setIfInBounds_toArray, List.set_cons_zero, List.set_cons_succ])
  refine any_take (i := 2) (v := (.slice (some ad) xa d)) rfl (by kernel_rfl) (by kernel_rfl) (by kernel_rfl) (fun _ _ _ h => h) hS (yi_cell _ _ rfl (by rfl) ⟨w.heap.size, 3, none⟩ rfl _ Try.underlying23 rfl (fun w' h' => (by rw [cell_of_row _ _ _ _ _ _ h'.1, ← hcs]; rfl))) ?_
  (try simp only [Act.put, List.setIfInBounds_toArray, List.set_cons_zero, List.set_cons_succ])
  refine any_take (i := 3) (v := ?v50) rfl (by kernel_rfl) (by kernel_rfl) (by kernel_rfl) (fun _ _ _ h => h) hS (.inl ⟨by rfl, ?y50⟩) ?_
  case y50 => (intro w' h'; go_simp; with_reducible rfl)
  (try simp only [Act.put, List.setIfInBounds_toArray, List.set_cons_zero, List.set_cons_succ])
  refine any_call (i := 4) rfl (by kernel_rfl) (by rfl) 98 #[.string b] ?x51 (HV1.out _) ?_
  case x51 => (simp [go_sem])
  (try simp only [Act.put, List.setIfInBounds_toArray, List.set_cons_zero, List.set_cons_succ])
  rintro e w1 ⟨rfl, hb1⟩
  have hS1 := keep hS hb1
  refine ⟨_, rfl, hS1, ?_⟩
  (try simp only [Act.put, List.setIfInBounds_toArray, List.set_cons_zero, List.set_cons_succ])
  refine any_take (i := 5) (v := ?v55) rfl (by kernel_rfl) (by kernel_rfl) (by kernel_rfl) (fun _ _ _ h => h) hS1 (.inl ⟨by rfl, ?y55⟩) ?_
  case y55 => (intro w' h'; go_simp; with_reducible rfl)
  (try simp only [Act.put, List.setIfInBounds_toArray, List.set_cons_zero, List.set_cons_succ])
  refine any_take (i := 6) (v := (.bool p)) rfl (by kernel_rfl) (by kernel_rfl) (by kernel_rfl) (fun _ _ _ h => h) hS1 (yi_cell _ _ rfl (by rfl) (ad.add u1) rfl _ Try.underlying4 rfl (fun w' h' => h'.2.1)) ?_
  (try simp only [Act.put, List.setIfInBounds_toArray, List.set_cons_zero, List.set_cons_succ])
  refine any_take (i := 7) (v := ?v58) rfl (by kernel_rfl) (by kernel_rfl) (by kernel_rfl) (fun _ _ _ h => h) hS1 (.inl ⟨by rfl, ?y58⟩) ?_
  case y58 => (intro w' h'; go_simp; with_reducible rfl)
  (try simp only [Act.put, List.setIfInBounds_toArray, List.set_cons_zero, List.set_cons_succ])
  refine wpAnyH_done (by kernel_rfl) ?_ _
  have hS1' := Lib.hid hS1
  clear hS1 hS hS0 hb1
  go_wp2
  have hS2 := keep hS1'.out ((Below.refl _ _).drew)
  refine wp_region_held_drew (S := fun w' => w'.heap[w.heap.size]? = some (Obj.cells cs 77 (0, 0)) ∧ w'.cell? (ad.add u1) = some (.bool p) ∧ w'.cell? (bd.add u2) = some (.bool q) ∧ Below w.heap.size w w') (by kernel_rfl) hS2 (fun hS => ?_)
  refine any_take (i := 0) (v := ?v61) rfl (by kernel_rfl) (by kernel_rfl) (by kernel_rfl) (fun _ _ _ h => h) hS (.inl ⟨by rfl, ?y61⟩) ?_
  case y61 => (intro w' h'; go_simp; with_reducible rfl)
  (try simp only [Act.put, List.setIfInBounds_toArray, List.set_cons_zero, List.set_cons_succ])
  refine any_take (i := 1) (v := ?v62) rfl (by kernel_rfl) (by kernel_rfl) (by kernel_rfl) (fun _ _ _ h => h) hS (.inl ⟨by rfl, ?y62⟩) ?_
  case y62 => (intro w' h'; go_simp; with_reducible rfl)
  (try simp only [Act.put, List.setIfInBounds_toArray, List.set_cons_zero, List.set_cons_succ])
  refine any_take (i := 2) (v := (.slice (some bd) ya yc)) rfl (by kernel_rfl) (by kernel_rfl) (by kernel_rfl) (fun _ _ _ h => h) hS (yi_cell _ _ rfl (by rfl) ⟨w.heap.size, 6, none⟩ rfl _ Try.underlying23 rfl (fun w' h' => (by rw [cell_of_row _ _ _ _ _ _ h'.1, ← hcs]; rfl))) ?_
  (try simp only [Act.put, List.setIfInBounds_toArray, List.set_cons_zero, List.set_cons_succ])
  refine any_take (i := 3) (v := ?v65) rfl (by kernel_rfl) (by kernel_rfl) (by kernel_rfl) (fun _ _ _ h => h) hS (.inl ⟨by rfl, ?y65⟩) ?_
  case y65 => (intro w' h'; go_simp; with_reducible rfl)
  (try simp only [Act.put, List.setIfInBounds_toArray, List.set_cons_zero, List.set_cons_succ])
  refine any_take (i := 4) (v := (.string n3)) rfl (by kernel_rfl) (by kernel_rfl) (by kernel_rfl) (fun _ _ _ h => h) hS (yi_val (by rfl) (fun w' h' => ?y66)) ?_
  case y66 => first | rfl | (go_simp; done) | (go_simp; omega)
  (try simp only [Act.put, List.setIfInBounds_toArray, List.set_cons_zero, List.set_cons_succ])
  refine any_call (i := 5) rfl (by kernel_rfl) (by rfl) 98 #[.string n3] ?x67 (HV2.out _) ?_
  case x67 => (simp [go_sem])
  (try simp only [Act.put, List.setIfInBounds_toArray, List.set_cons_zero, List.set_cons_succ])
  rintro e w2 ⟨rfl, hb2⟩
  have hS3 := keep hS hb2
  refine ⟨_, rfl, hS3, ?_⟩
  (try simp only [Act.put, List.setIfInBounds_toArray, List.set_cons_zero, List.set_cons_succ])
  refine any_take (i := 6) (v := ?v71) rfl (by kernel_rfl) (by kernel_rfl) (by kernel_rfl) (fun _ _ _ h => h) hS3 (.inl ⟨by rfl, ?y71⟩) ?_
  case y71 => (intro w' h'; go_simp; with_reducible rfl)
  (try simp only [Act.put, List.setIfInBounds_toArray, List.set_cons_zero, List.set_cons_succ])
  refine any_take (i := 7) (v := (.bool q)) rfl (by kernel_rfl) (by kernel_rfl) (by kernel_rfl) (fun _ _ _ h => h) hS3 (yi_cell _ _ rfl (by rfl) (bd.add u2) rfl _ Try.underlying4 rfl (fun w' h' => h'.2.2.1)) ?_
  (try simp only [Act.put, List.setIfInBounds_toArray, List.set_cons_zero, List.set_cons_succ])
  refine any_take (i := 8) (v := ?v74) rfl (by kernel_rfl) (by kernel_rfl) (by kernel_rfl) (fun _ _ _ h => h) hS3 (.inl ⟨by rfl, ?y74⟩) ?_
  case y74 => (intro w' h'; go_simp; with_reducible rfl)
  (try simp only [Act.put, List.setIfInBounds_toArray, List.set_cons_zero, List.set_cons_succ])
  refine wpAnyH_done (by kernel_rfl) ?_ _
  have HF := Lib.hid hS3.2.2.2
  clear keep hS hS1' hS2 hS3 hb2 hcs HB HBL HC1 HC2
  rcases HHW.out with h | h | h <;> subst h <;> cases p <;> cases q <;>
  · go_wp2
    go_ret
    exact ⟨by rfl, HF.out⟩
end Go.Proofs.Ytjckidjljkjhfaa
