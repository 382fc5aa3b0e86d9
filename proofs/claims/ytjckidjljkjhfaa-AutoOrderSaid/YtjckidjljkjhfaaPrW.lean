/- The walks of auto.product and what it calls. -/
import Derived.Test.YtjckidjljkjhfaaSrP
namespace Go.Proofs.Ytjckidjljkjhfaa
open Go.RowKit Go.Proofs.YtjckidjljkjhfaaW.PrintWords
set_option linter.unusedSimpArgs false
set_option linter.unusedVariables false
/-- Two automata beside one another. -/
def pst (x y : AutV) (s : Nat × Nat) (l : Nat) : Nat × Nat := (stp x s.1 l, stp y s.2 l)
def pgd (g : Bool → Bool → Bool) (x y : AutV) (s : Nat × Nat) : Bool := g (rdOf false x.acc (s.1 : Int)) (rdOf false y.acc (s.2 : Int))
/-- Where a letter of a state leads: all that the walk of one look-up needs. -/
structure LkN (x : AutV) (A : Option Addr) (W : World) (s l : Nat) (ad : Addr) (p : Nat) : Prop where
  addr : A = some ad
  cell : W.cell? (ad.add (p + l)) = some (.int .i64 ((stp x s l : Nat) : Int))
  mul : IntKind.i64.wrap ((s : Int) * x.k) = (p : Int)
  add : IntKind.i64.wrap ((p : Int) + (l : Int)) = (p : Int) + (l : Int)
  pos : 0 ≤ (p : Int) + (l : Int)
  lt : (p : Int) + (l : Int) < (x.next.length : Int)
  nat : ((p : Int) + (l : Int)).toNat = p + l
theorem lkN {x : AutV} {A B : Option Addr} {W : World} (hx : AutOk x) (hr : ARd W x A B) {s l : Nat} (hs : s < x.acc.length) (hl : (l : Int) < x.k) : ∃ ad p, LkN x A W s l ad p := by
  obtain ⟨q1, q2⟩ := stp_lt hx hs hl
  have hix := stp_idx hx hs hl
  have hk1 := hx.1; have hk2 := hx.2.1; have hn2 := hx.2.2.2.1; have hnl := hx.2.2.2.2.1
  obtain ⟨ad, hA, hcell⟩ := Kd.at_int hr.next ((s * x.k.toNat + l : Nat) : Int) (by omega) (by omega)
  rw [Int.toNat_natCast, q2] at hcell
  have hmul : (s : Int) * x.k = ((s * x.k.toNat : Nat) : Int) := by
    obtain ⟨kk, hkk⟩ := Int.eq_ofNat_of_zero_le (show 0 ≤ x.k by omega)
    rw [hkk, Int.toNat_natCast]; push_cast; rfl
  have hP : s * x.k.toNat ≤ 40960 := by
    have : s * x.k.toNat ≤ 4096 * 10 := Nat.mul_le_mul (by omega) (by omega)
    omega
  have hxl : x.next.length ≤ 32768 := by
    have := aut_mul hk1 hk2 hn2
    omega
  exact ⟨ad, s * x.k.toNat, hA, hcell, by rw [hmul]; exact IntWalk.i64_in _ ⟨by omega, by omega⟩, IntWalk.i64_in _ ⟨by omega, by omega⟩, by omega, by omega, by omega⟩
set_option maxRecDepth 100000 in
set_option maxHeartbeats 800000 in
theorem prodN_any (x y : AutV) (A : Option Addr) (c : Nat) (B : Option Addr) (d : Nat) (X : Option Addr) (xc : Nat) (Y : Option Addr) (yc : Nat) (ga gb gk : Nat) (hx : AutOk x) (hy : AutOk y) (hk : y.k = x.k) (W : World) (hga : W.heap[ga]? = some (AB x A c B d)) (hgb : W.heap[gb]? = some (AB y X xc Y yc)) (hgk : W.heap[gk]? = some (.cells #[.int .i64 x.k] 3 (0, 0))) (hr : ARd W x A B) (hr' : ARd W y X Y)
    (s : Nat × Nat) (l : Nat) (hs1 : s.1 < x.acc.length) (hs2 : s.2 < y.acc.length) (hl : (l : Int) < x.k) :
    Calls Try.prog 94 #[.agg (ccP s), .int .i64 (l : Int), .pointer (some ⟨ga, 0, none⟩), .pointer (some ⟨gk, 0, none⟩), .pointer (some ⟨gb, 0, none⟩)] W fun e w' => e = .returned (.agg (ccP (pst x y s l))) ∧ Below W.heap.size W w' := by
  obtain ⟨ad, p, L1⟩ := lkN hx hr hs1 hl
  obtain ⟨bd, q, L2⟩ := lkN hy hr' hs2 (by rw [hk]; exact hl)
  have e1 := L1.addr; have e2 := L2.addr
  have m2 := L2.mul
  rw [hk] at m2
  have hC1 := Lib.hid L1.cell; have hC2 := Lib.hid L2.cell
  have hG1 := Lib.hid hga; have hG2 := Lib.hid hgb; have hG3 := Lib.hid hgk
  have hz : ccP (pst x y s l) = #[.int .i64 ((stp x s.1 l : Nat) : Int), .int .i64 ((stp y s.2 l : Nat) : Int)] := rfl
  have hss : ccP s = #[.int .i64 (s.1 : Int), .int .i64 (s.2 : Int)] := rfl
  rw [hz, hss]
  have h00 := ((Hp.start W).alloc (.cells #[.int .i64 (s.1 : Int), .int .i64 (s.2 : Int)] 109)).alloc (.cells #[.int .i64 0, .int .i64 0] 109)
  rw [World.size_alloc] at h00
  have H0 := Lib.hid h00
  have a1 := L1.mul; have a2 := L1.add; have a3 := L1.pos; have a4 := L1.lt; have a5 := L1.nat
  have b2 := L2.add; have b3 := L2.pos; have b4 := L2.lt; have b5 := L2.nat
  generalize stp x s.1 l = z1 at *
  generalize stp y s.2 l = z2 at *
  generalize s.1 = u1 at *
  generalize s.2 = u2 at *
  subst e1
  subst e2
  clear L1 L2 hga hgb hgk hr hr' hx hy hk hs1 hs2 hl hz hss h00
  go_enter Try.func94, Try.ntmps94
  go_wp2
  refine wp_region_held_drew (S := fun w' => Below W.heap.size W w' ∧ w'.heap[W.heap.size]? = some (.cells #[.int .i64 (u1 : Int), .int .i64 (u2 : Int)] 109 (0, 0))) (by kernel_rfl) ⟨H0.out.2.drew, H0.out.at 1 rfl⟩ (fun hS => ?_)
  refine any_take (i := 0) (v := ?v3) rfl (by kernel_rfl) (by kernel_rfl) (by kernel_rfl) (fun _ _ _ h => h) hS (.inl ⟨by rfl, ?y3⟩) ?_
  case y3 => (intro w' h'; go_simp; with_reducible rfl)
  (try simp only [Act.put, List.setIfInBounds_toArray, List.set_cons_zero, List.set_cons_succ])
  refine any_take (i := 1) (v := (.slice (some ad) x.next.length c)) rfl (by kernel_rfl) (by kernel_rfl) (by kernel_rfl) (fun _ _ _ h => h) hS (yi_cell _ _ rfl (by rfl) ⟨ga, 1, none⟩ rfl _ Try.underlying22 rfl (fun w' h' => (by rw [cell_of_row _ _ _ _ _ _ (hp_below' h'.1 hG1.out)]; rfl))) ?_
  (try simp only [Act.put, List.setIfInBounds_toArray, List.set_cons_zero, List.set_cons_succ])
  refine any_take (i := 2) (v := ?v6) rfl (by kernel_rfl) (by kernel_rfl) (by kernel_rfl) (fun _ _ _ h => h) hS (.inl ⟨by rfl, ?y6⟩) ?_
  case y6 => (intro w' h'; go_simp; with_reducible rfl)
  (try simp only [Act.put, List.setIfInBounds_toArray, List.set_cons_zero, List.set_cons_succ])
  refine any_take (i := 3) (v := (.int .i64 (u1 : Int))) rfl (by kernel_rfl) (by kernel_rfl) (by kernel_rfl) (fun _ _ _ h => h) hS (yi_cell _ _ rfl (by rfl) ⟨W.heap.size, 0, none⟩ rfl _ Try.underlying3 rfl (fun w' h' => (by rw [cell_of_row _ _ _ _ _ _ h'.2]; rfl))) ?_
  (try simp only [Act.put, List.setIfInBounds_toArray, List.set_cons_zero, List.set_cons_succ])
  refine any_take (i := 4) (v := (.int .i64 x.k)) rfl (by kernel_rfl) (by kernel_rfl) (by kernel_rfl) (fun _ _ _ h => h) hS (yi_cell _ _ rfl (by rfl) ⟨gk, 0, none⟩ rfl _ Try.underlying3 rfl (fun w' h' => (by rw [cell_of_row _ _ _ _ _ _ (hp_below' h'.1 hG3.out)]; rfl))) ?_
  (try simp only [Act.put, List.setIfInBounds_toArray, List.set_cons_zero, List.set_cons_succ])
  refine any_take (i := 5) (v := (.int .i64 (p : Int))) rfl (by kernel_rfl) (by kernel_rfl) (by kernel_rfl) (fun _ _ _ h => h) hS (yi_val (by rfl) (fun w' h' => ?y9)) ?_
  case y9 => first | rfl | (go_simp; done) | (go_simp; omega)
  (try simp only [Act.put, List.setIfInBounds_toArray, List.set_cons_zero, List.set_cons_succ])
  refine any_take (i := 6) (v := ?v11) rfl (by kernel_rfl) (by kernel_rfl) (by kernel_rfl) (fun _ _ _ h => h) hS (.inl ⟨by rfl, ?y11⟩) ?_
  case y11 => (intro w' h'; go_simp; with_reducible rfl)
  (try simp only [Act.put, List.setIfInBounds_toArray, List.set_cons_zero, List.set_cons_succ])
  refine any_take (i := 7) (v := (.int .i64 ((p : Int) + (l : Int)))) rfl (by kernel_rfl) (by kernel_rfl) (by kernel_rfl) (fun _ _ _ h => h) hS (yi_val (by rfl) (fun w' h' => ?y12)) ?_
  case y12 => first | rfl | (go_simp; done) | (go_simp; omega)
  (try simp only [Act.put, List.setIfInBounds_toArray, List.set_cons_zero, List.set_cons_succ])
  refine any_take (i := 8) (v := (.pointer (some (ad.add (p + l))))) rfl (by kernel_rfl) (by kernel_rfl) (by kernel_rfl) (fun _ _ _ h => h) hS (yi_val (by rfl) (fun w' h' => ?y13)) ?_
  case y13 => first | rfl | (go_simp; done) | (go_simp; omega)
  (try simp only [Act.put, List.setIfInBounds_toArray, List.set_cons_zero, List.set_cons_succ])
  refine any_take (i := 9) (v := (.int .i64 (z1 : Int))) rfl (by kernel_rfl) (by kernel_rfl) (by kernel_rfl) (fun _ _ _ h => h) hS (yi_cell _ _ rfl (by rfl) (ad.add (p + l)) rfl _ Try.underlying3 rfl (fun w' h' => ((h'.1.cell (World.block_lt_of_cell? _ _ hC1.out)).trans hC1.out))) ?_
  (try simp only [Act.put, List.setIfInBounds_toArray, List.set_cons_zero, List.set_cons_succ])
  refine any_take (i := 10) (v := ?v16) rfl (by kernel_rfl) (by kernel_rfl) (by kernel_rfl) (fun _ _ _ h => h) hS (.inl ⟨by rfl, ?y16⟩) ?_
  case y16 => (intro w' h'; go_simp; with_reducible rfl)
  (try simp only [Act.put, List.setIfInBounds_toArray, List.set_cons_zero, List.set_cons_succ])
  refine any_take (i := 11) (v := (.slice (some bd) y.next.length xc)) rfl (by kernel_rfl) (by kernel_rfl) (by kernel_rfl) (fun _ _ _ h => h) hS (yi_cell _ _ rfl (by rfl) ⟨gb, 1, none⟩ rfl _ Try.underlying22 rfl (fun w' h' => (by rw [cell_of_row _ _ _ _ _ _ (hp_below' h'.1 hG2.out)]; rfl))) ?_
  (try simp only [Act.put, List.setIfInBounds_toArray, List.set_cons_zero, List.set_cons_succ])
  refine any_take (i := 12) (v := ?v19) rfl (by kernel_rfl) (by kernel_rfl) (by kernel_rfl) (fun _ _ _ h => h) hS (.inl ⟨by rfl, ?y19⟩) ?_
  case y19 => (intro w' h'; go_simp; with_reducible rfl)
  (try simp only [Act.put, List.setIfInBounds_toArray, List.set_cons_zero, List.set_cons_succ])
  refine any_take (i := 13) (v := (.int .i64 (u2 : Int))) rfl (by kernel_rfl) (by kernel_rfl) (by kernel_rfl) (fun _ _ _ h => h) hS (yi_cell _ _ rfl (by rfl) ⟨W.heap.size, 1, none⟩ rfl _ Try.underlying3 rfl (fun w' h' => (by rw [cell_of_row _ _ _ _ _ _ h'.2]; rfl))) ?_
  (try simp only [Act.put, List.setIfInBounds_toArray, List.set_cons_zero, List.set_cons_succ])
  refine any_take (i := 14) (v := (.int .i64 x.k)) rfl (by kernel_rfl) (by kernel_rfl) (by kernel_rfl) (fun _ _ _ h => h) hS (yi_cell _ _ rfl (by rfl) ⟨gk, 0, none⟩ rfl _ Try.underlying3 rfl (fun w' h' => (by rw [cell_of_row _ _ _ _ _ _ (hp_below' h'.1 hG3.out)]; rfl))) ?_
  (try simp only [Act.put, List.setIfInBounds_toArray, List.set_cons_zero, List.set_cons_succ])
  refine any_take (i := 15) (v := (.int .i64 (q : Int))) rfl (by kernel_rfl) (by kernel_rfl) (by kernel_rfl) (fun _ _ _ h => h) hS (yi_val (by rfl) (fun w' h' => ?y22)) ?_
  case y22 => first | rfl | (go_simp; done) | (go_simp; omega)
  (try simp only [Act.put, List.setIfInBounds_toArray, List.set_cons_zero, List.set_cons_succ])
  refine any_take (i := 16) (v := ?v24) rfl (by kernel_rfl) (by kernel_rfl) (by kernel_rfl) (fun _ _ _ h => h) hS (.inl ⟨by rfl, ?y24⟩) ?_
  case y24 => (intro w' h'; go_simp; with_reducible rfl)
  (try simp only [Act.put, List.setIfInBounds_toArray, List.set_cons_zero, List.set_cons_succ])
  refine any_take (i := 17) (v := (.int .i64 ((q : Int) + (l : Int)))) rfl (by kernel_rfl) (by kernel_rfl) (by kernel_rfl) (fun _ _ _ h => h) hS (yi_val (by rfl) (fun w' h' => ?y25)) ?_
  case y25 => first | rfl | (go_simp; done) | (go_simp; omega)
  (try simp only [Act.put, List.setIfInBounds_toArray, List.set_cons_zero, List.set_cons_succ])
  refine any_take (i := 18) (v := (.pointer (some (bd.add (q + l))))) rfl (by kernel_rfl) (by kernel_rfl) (by kernel_rfl) (fun _ _ _ h => h) hS (yi_val (by rfl) (fun w' h' => ?y26)) ?_
  case y26 => first | rfl | (go_simp; done) | (go_simp; omega)
  (try simp only [Act.put, List.setIfInBounds_toArray, List.set_cons_zero, List.set_cons_succ])
  refine any_take (i := 19) (v := (.int .i64 (z2 : Int))) rfl (by kernel_rfl) (by kernel_rfl) (by kernel_rfl) (fun _ _ _ h => h) hS (yi_cell _ _ rfl (by rfl) (bd.add (q + l)) rfl _ Try.underlying3 rfl (fun w' h' => ((h'.1.cell (World.block_lt_of_cell? _ _ hC2.out)).trans hC2.out))) ?_
  (try simp only [Act.put, List.setIfInBounds_toArray, List.set_cons_zero, List.set_cons_succ])
  refine any_take (i := 20) (v := (.agg #[.int .i64 (z1 : Int), .int .i64 (z2 : Int)])) rfl (by kernel_rfl) (by kernel_rfl) (by kernel_rfl) (fun _ _ _ h => h) hS (yi_val (by rfl) (fun w' h' => ?y28)) ?_
  case y28 => first | rfl | (go_simp; done) | (go_simp; omega)
  (try simp only [Act.put, List.setIfInBounds_toArray, List.set_cons_zero, List.set_cons_succ])
  have hb0 := H0.out.at 0 rfl
  refine any_row (i := 21) rfl (by kernel_rfl) (by rfl) 109 _ _ rfl (W.heap.size + 1) #[.int .i64 (z1 : Int), .int .i64 (z2 : Int)] rfl rfl 109 _ hb0 (by show _ = some 2; kernel_rfl) rfl (by simp [Value.oneCell']) ⟨bl_row hS.1 (by omega) _, hp_row (by omega) hS.2⟩ ?_
  (try simp only [Act.put, List.setIfInBounds_toArray, List.set_cons_zero, List.set_cons_succ])
  refine wpAnyH_done (by kernel_rfl) ?_ _
  have HB2 := Lib.hid (bl_row (g := W.heap.size + 1) hS.1 (by omega) #[.int .i64 (z1 : Int), .int .i64 (z2 : Int)])
  have HB3 := Lib.hid (setRow_heap _ _ _ #[.int .i64 (z1 : Int), .int .i64 (z2 : Int)] _ _ (show (((W.alloc (.cells #[.int .i64 (u1 : Int), .int .i64 (u2 : Int)] 109)).alloc (.cells #[.int .i64 0, .int .i64 0] 109)).drew).heap[W.heap.size + 1]? = _ from hb0))
  clear hS hb0
  go_wp2
  refine bodyPost_ret (v := .agg #[.int .i64 (z1 : Int), .int .i64 (z2 : Int)]) ?_ rfl ⟨rfl, HB2.out⟩
  exact results_cell_row rfl _ _ (W.heap.size + 1) 109 _ _ _ rfl HB3.out Try.underlying109 rfl (by show _ = some 2; kernel_rfl)
set_option maxRecDepth 100000 in
theorem bothG_any (p q : Bool) (w : World) : Calls Try.prog 70 #[.bool p, .bool q] w fun e w' => e = .returned (.bool (p && q)) ∧ Below w.heap.size w w' := by
  cases p <;> cases q <;>
  · go_enter Try.func70, Try.ntmps70
    go_wp2
    go_ret
    exact ⟨rfl, Below.refl _ _⟩
set_option maxRecDepth 100000 in
theorem eitherG_any (p q : Bool) (w : World) : Calls Try.prog 71 #[.bool p, .bool q] w fun e w' => e = .returned (.bool (p || q)) ∧ Below w.heap.size w w' := by
  cases p <;> cases q <;>
  · go_enter Try.func71, Try.ntmps71
    go_wp2
    go_ret
    exact ⟨rfl, Below.refl _ _⟩
set_option maxRecDepth 100000 in
theorem butG_any (p q : Bool) (w : World) : Calls Try.prog 72 #[.bool p, .bool q] w fun e w' => e = .returned (.bool (p && !q)) ∧ Below w.heap.size w w' := by
  cases p <;> cases q <;>
  · go_enter Try.func72, Try.ntmps72
    go_wp2
    go_ret
    exact ⟨rfl, Below.refl _ _⟩
set_option maxRecDepth 100000 in
set_option maxHeartbeats 800000 in
theorem prodG_any (x y : AutV) (A : Option Addr) (c : Nat) (B : Option Addr) (d : Nat) (X : Option Addr) (xc : Nat) (Y : Option Addr) (yc : Nat) (ga gb gf : Nat) (g : Bool → Bool → Bool) (fg : FuncId) (W : World) (hga : W.heap[ga]? = some (AB x A c B d)) (hgb : W.heap[gb]? = some (AB y X xc Y yc)) (hgf : W.heap[gf]? = some (.cells #[.func (.func fg) #[] #[]] 84 (0, 0))) (hr : ARd W x A B) (hr' : ARd W y X Y)
    (heg : ∀ args W, (callFunc fg args).run Try.prog W = .ok (.enter fg args) W) (HG : ∀ (p q : Bool) (W : World), Calls Try.prog fg #[.bool p, .bool q] W fun e w' => e = .returned (.bool (g p q)) ∧ Below W.heap.size W w') (s : Nat × Nat) (hs1 : s.1 < x.acc.length) (hs2 : s.2 < y.acc.length) :
    Calls Try.prog 95 #[.agg (ccP s), .pointer (some ⟨gf, 0, none⟩), .pointer (some ⟨ga, 0, none⟩), .pointer (some ⟨gb, 0, none⟩)] W fun e w' => e = .returned (.bool (pgd g x y s)) ∧ Below W.heap.size W w' := by
  obtain ⟨ad, hA, cA⟩ := Kd.at_bool hr.acc (s.1 : Int) (by omega) (by omega)
  obtain ⟨bd, hB, cB⟩ := Kd.at_bool hr'.acc (s.2 : Int) (by omega) (by omega)
  rw [Int.toNat_natCast] at cA cB
  unfold pgd
  have hss : ccP s = #[.int .i64 (s.1 : Int), .int .i64 (s.2 : Int)] := rfl
  rw [hss]
  generalize rdOf false x.acc (s.1 : Int) = p at *
  generalize rdOf false y.acc (s.2 : Int) = q at *
  generalize s.1 = u1 at *
  generalize s.2 = u2 at *
  subst hA
  subst hB
  have hC1 := Lib.hid cA; have hC2 := Lib.hid cB
  have hG1 := Lib.hid hga; have hG2 := Lib.hid hgb; have hG3 := Lib.hid hgf
  have HGX := Aside0.mk HG
  have H0 := Lib.hid ((Hp.start W).alloc (.cells #[.int .i64 (u1 : Int), .int .i64 (u2 : Int)] 109))
  clear hr hr' hga hgb hgf cA cB HG hss
  go_enter Try.func95, Try.ntmps95
  go_wp2
  refine wp_region_held_drew (S := fun w' => Below W.heap.size W w' ∧ w'.heap[W.heap.size]? = some (.cells #[.int .i64 (u1 : Int), .int .i64 (u2 : Int)] 109 (0, 0))) (by kernel_rfl) ⟨H0.out.2.drew, H0.out.at 0 rfl⟩ (fun hS => ?_)
  refine any_take (i := 0) (v := (.func (.func fg) #[] #[])) rfl (by kernel_rfl) (by kernel_rfl) (by kernel_rfl) (fun _ _ _ h => h) hS (yi_cell _ _ rfl (by rfl) ⟨gf, 0, none⟩ rfl _ Try.underlying84 rfl (fun w' h' => (by rw [cell_of_row _ _ _ _ _ _ (hp_below' h'.1 hG3.out)]; rfl))) ?_
  (try simp only [Act.put, List.setIfInBounds_toArray, List.set_cons_zero, List.set_cons_succ])
  refine any_take (i := 1) (v := ?v33) rfl (by kernel_rfl) (by kernel_rfl) (by kernel_rfl) (fun _ _ _ h => h) hS (.inl ⟨by rfl, ?y33⟩) ?_
  case y33 => (intro w' h'; go_simp; with_reducible rfl)
  (try simp only [Act.put, List.setIfInBounds_toArray, List.set_cons_zero, List.set_cons_succ])
  refine any_take (i := 2) (v := (.slice (some ad) x.acc.length d)) rfl (by kernel_rfl) (by kernel_rfl) (by kernel_rfl) (fun _ _ _ h => h) hS (yi_cell _ _ rfl (by rfl) ⟨ga, 2, none⟩ rfl _ Try.underlying23 rfl (fun w' h' => (by rw [cell_of_row _ _ _ _ _ _ (hp_below' h'.1 hG1.out)]; rfl))) ?_
  (try simp only [Act.put, List.setIfInBounds_toArray, List.set_cons_zero, List.set_cons_succ])
  refine any_take (i := 3) (v := ?v36) rfl (by kernel_rfl) (by kernel_rfl) (by kernel_rfl) (fun _ _ _ h => h) hS (.inl ⟨by rfl, ?y36⟩) ?_
  case y36 => (intro w' h'; go_simp; with_reducible rfl)
  (try simp only [Act.put, List.setIfInBounds_toArray, List.set_cons_zero, List.set_cons_succ])
  refine any_take (i := 4) (v := (.int .i64 (u1 : Int))) rfl (by kernel_rfl) (by kernel_rfl) (by kernel_rfl) (fun _ _ _ h => h) hS (yi_cell _ _ rfl (by rfl) ⟨W.heap.size, 0, none⟩ rfl _ Try.underlying3 rfl (fun w' h' => (by rw [cell_of_row _ _ _ _ _ _ h'.2]; rfl))) ?_
  (try simp only [Act.put, List.setIfInBounds_toArray, List.set_cons_zero, List.set_cons_succ])
  refine any_take (i := 5) (v := ?v39) rfl (by kernel_rfl) (by kernel_rfl) (by kernel_rfl) (fun _ _ _ h => h) hS (.inl ⟨by rfl, ?y39⟩) ?_
  case y39 => (intro w' h'; go_simp; with_reducible rfl)
  (try simp only [Act.put, List.setIfInBounds_toArray, List.set_cons_zero, List.set_cons_succ])
  refine any_take (i := 6) (v := (.bool p)) rfl (by kernel_rfl) (by kernel_rfl) (by kernel_rfl) (fun _ _ _ h => h) hS (yi_cell _ _ rfl (by rfl) (ad.add u1) rfl _ Try.underlying4 rfl (fun w' h' => ((h'.1.cell (World.block_lt_of_cell? _ _ hC1.out)).trans hC1.out))) ?_
  (try simp only [Act.put, List.setIfInBounds_toArray, List.set_cons_zero, List.set_cons_succ])
  refine any_take (i := 7) (v := ?v42) rfl (by kernel_rfl) (by kernel_rfl) (by kernel_rfl) (fun _ _ _ h => h) hS (.inl ⟨by rfl, ?y42⟩) ?_
  case y42 => (intro w' h'; go_simp; with_reducible rfl)
  (try simp only [Act.put, List.setIfInBounds_toArray, List.set_cons_zero, List.set_cons_succ])
  refine any_take (i := 8) (v := (.slice (some bd) y.acc.length yc)) rfl (by kernel_rfl) (by kernel_rfl) (by kernel_rfl) (fun _ _ _ h => h) hS (yi_cell _ _ rfl (by rfl) ⟨gb, 2, none⟩ rfl _ Try.underlying23 rfl (fun w' h' => (by rw [cell_of_row _ _ _ _ _ _ (hp_below' h'.1 hG2.out)]; rfl))) ?_
  (try simp only [Act.put, List.setIfInBounds_toArray, List.set_cons_zero, List.set_cons_succ])
  refine any_take (i := 9) (v := ?v45) rfl (by kernel_rfl) (by kernel_rfl) (by kernel_rfl) (fun _ _ _ h => h) hS (.inl ⟨by rfl, ?y45⟩) ?_
  case y45 => (intro w' h'; go_simp; with_reducible rfl)
  (try simp only [Act.put, List.setIfInBounds_toArray, List.set_cons_zero, List.set_cons_succ])
  refine any_take (i := 10) (v := (.int .i64 (u2 : Int))) rfl (by kernel_rfl) (by kernel_rfl) (by kernel_rfl) (fun _ _ _ h => h) hS (yi_cell _ _ rfl (by rfl) ⟨W.heap.size, 1, none⟩ rfl _ Try.underlying3 rfl (fun w' h' => (by rw [cell_of_row _ _ _ _ _ _ h'.2]; rfl))) ?_
  (try simp only [Act.put, List.setIfInBounds_toArray, List.set_cons_zero, List.set_cons_succ])
  refine any_take (i := 11) (v := ?v48) rfl (by kernel_rfl) (by kernel_rfl) (by kernel_rfl) (fun _ _ _ h => h) hS (.inl ⟨by rfl, ?y48⟩) ?_
  case y48 => (intro w' h'; go_simp; with_reducible rfl)
  (try simp only [Act.put, List.setIfInBounds_toArray, List.set_cons_zero, List.set_cons_succ])
  refine any_take (i := 12) (v := (.bool q)) rfl (by kernel_rfl) (by kernel_rfl) (by kernel_rfl) (fun _ _ _ h => h) hS (yi_cell _ _ rfl (by rfl) (bd.add u2) rfl _ Try.underlying4 rfl (fun w' h' => ((h'.1.cell (World.block_lt_of_cell? _ _ hC2.out)).trans hC2.out))) ?_
  (try simp only [Act.put, List.setIfInBounds_toArray, List.set_cons_zero, List.set_cons_succ])
  refine any_call (i := 13) rfl (by kernel_rfl) (by rfl) fg #[.bool p, .bool q] ?x1 (HGX.out p q _) ?_
  case x1 => (simp [go_sem, heg])
  rintro e w1 ⟨rfl, hb⟩
  have hS1 : Below W.heap.size W w1 ∧ w1.heap[W.heap.size]? = some (.cells #[.int .i64 (u1 : Int), .int .i64 (u2 : Int)] 109 (0, 0)) := ⟨bl_then hS.1 hb, hp_below' hb hS.2⟩
  refine ⟨_, rfl, hS1, ?_⟩
  (try simp only [Act.put, List.setIfInBounds_toArray, List.set_cons_zero, List.set_cons_succ])
  refine any_take (i := 14) (v := ?v53) rfl (by kernel_rfl) (by kernel_rfl) (by kernel_rfl) (fun _ _ _ h => h) hS1 (.inl ⟨by rfl, ?y53⟩) ?_
  case y53 => (intro w' h'; go_simp; with_reducible rfl)
  (try simp only [Act.put, List.setIfInBounds_toArray, List.set_cons_zero, List.set_cons_succ])
  refine wpAnyH_done (by kernel_rfl) ?_ _
  have HF := Lib.hid hS1.1
  clear hS hS1 hb
  go_wp2
  go_ret
  exact ⟨rfl, HF.out⟩
/-- The error of two. -/
noncomputable def twoE (x y : AutV) : Int := if autE x = 0 then (if autE y = 0 then (if x.k = y.k then 0 else 20) else 80) else 80
set_option maxRecDepth 100000 in
set_option maxHeartbeats 400000 in
theorem checkBoth_any (x y : AutV) (A : Option Addr) (c : Nat) (B : Option Addr) (d : Nat) (X : Option Addr) (xc : Nat) (Y : Option Addr) (yc : Nat) (w : World) (hr : ARd w x A B) (hr' : ARd w y X Y) :
    Calls Try.prog 73 #[.agg (ac x A c B d), .agg (ac y X xc Y yc)] w fun e w' => e = .returned (.int .i64 (twoE x y)) ∧ Below w.heap.size w w' := by
  have h00 := ((Hp.start w).alloc (AB x A c B d)).alloc (AB y X xc Y yc)
  rw [World.size_alloc] at h00
  have H0 := Lib.hid h00
  clear h00
  have CX := Aside0.mk (acheck_any x A c B d ((w.alloc (AB x A c B d)).alloc (AB y X xc Y yc)) (hr.below H0.out.2))
  have CY := Aside0.mk (fun (W : World) (h : Below w.heap.size w W) => acheck_any y X xc Y yc W (hr'.below h))
  by_cases h1 : autE x = 0
  · rw [h1] at CX
    by_cases h2 : autE y = 0
    · rw [h2] at CY
      have hE : twoE x y = if x.k = y.k then 0 else 20 := by unfold twoE; rw [if_pos h1, if_pos h2]
      rw [hE]
      by_cases h3 : x.k = y.k
      · rw [if_pos h3]
        have hd : (x.k == y.k) = true := by rw [beq_iff_eq]; exact h3
        clear h1 h2 hE hr hr' h3
        go_enter Try.func73, Try.ntmps73
        go_wp2_with (refine ld_au _ rfl w.heap.size rfl (H0.out.at 1 rfl) rfl ?_)
        refine CX.out.mono ?_
        rintro e w1 ⟨rfl, hb⟩
        have H1 := Lib.hid (H0.out.keep hb)
        clear hb CX H0
        go_wp2_with (refine ld_au _ rfl (w.heap.size + 1) rfl (H1.out.at 0 rfl) rfl ?_)
        refine (CY.out _ H1.out.2).mono ?_
        rintro e w2 ⟨rfl, hb⟩
        have H2 := Lib.hid (H1.out.keep hb)
        have c0 : w2.cell? ⟨w.heap.size, 0, none⟩ = some (.int .i64 x.k) := by rw [cell_of_row _ _ _ _ _ _ (H2.out.at 1 rfl)]; rfl
        have c1 : w2.cell? ⟨w.heap.size + 1, 0, none⟩ = some (.int .i64 y.k) := by rw [cell_of_row _ _ _ _ _ _ (H2.out.at 0 rfl)]; rfl
        clear hb CY H1
        go_wp2
        go_ret
        exact ⟨rfl, H2.out.2⟩
      · rw [if_neg h3]
        have hd : (x.k == y.k) = false := by rw [beq_eq_false_iff_ne]; exact h3
        clear h1 h2 hE hr hr'
        go_enter Try.func73, Try.ntmps73
        go_wp2_with (refine ld_au _ rfl w.heap.size rfl (H0.out.at 1 rfl) rfl ?_)
        refine CX.out.mono ?_
        rintro e w1 ⟨rfl, hb⟩
        have H1 := Lib.hid (H0.out.keep hb)
        clear hb CX H0
        go_wp2_with (refine ld_au _ rfl (w.heap.size + 1) rfl (H1.out.at 0 rfl) rfl ?_)
        refine (CY.out _ H1.out.2).mono ?_
        rintro e w2 ⟨rfl, hb⟩
        have H2 := Lib.hid (H1.out.keep hb)
        have c0 : w2.cell? ⟨w.heap.size, 0, none⟩ = some (.int .i64 x.k) := by rw [cell_of_row _ _ _ _ _ _ (H2.out.at 1 rfl)]; rfl
        have c1 : w2.cell? ⟨w.heap.size + 1, 0, none⟩ = some (.int .i64 y.k) := by rw [cell_of_row _ _ _ _ _ _ (H2.out.at 0 rfl)]; rfl
        clear hb CY H1
        go_wp2
        go_ret
        exact ⟨rfl, H2.out.2⟩
    · have hE : twoE x y = 80 := by unfold twoE; rw [if_pos h1, if_neg h2]
      rw [hE]
      have h80 : autE y = 80 := autE_no (fun h => h2 (autE_ok h))
      rw [h80] at CY
      clear h1 h2 hE hr hr' h80
      go_enter Try.func73, Try.ntmps73
      go_wp2_with (refine ld_au _ rfl w.heap.size rfl (H0.out.at 1 rfl) rfl ?_)
      refine CX.out.mono ?_
      rintro e w1 ⟨rfl, hb⟩
      have H1 := Lib.hid (H0.out.keep hb)
      clear hb CX H0
      go_wp2_with (refine ld_au _ rfl (w.heap.size + 1) rfl (H1.out.at 0 rfl) rfl ?_)
      refine (CY.out _ H1.out.2).mono ?_
      rintro e w2 ⟨rfl, hb⟩
      have H2 := Lib.hid (H1.out.keep hb)
      clear hb CY H1
      go_wp2
      go_ret
      exact ⟨rfl, H2.out.2⟩
  · have hE : twoE x y = 80 := by unfold twoE; rw [if_neg h1]
    rw [hE]
    have h80 : autE x = 80 := autE_no (fun h => h1 (autE_ok h))
    rw [h80] at CX
    clear h1 hE hr hr' h80
    go_enter Try.func73, Try.ntmps73
    go_wp2_with (refine ld_au _ rfl w.heap.size rfl (H0.out.at 1 rfl) rfl ?_)
    refine CX.out.mono ?_
    rintro e w1 ⟨rfl, hb⟩
    have H1 := Lib.hid (H0.out.keep hb)
    clear hb CX H0
    go_wp2
    go_ret
    exact ⟨rfl, H1.out.2⟩
end Go.Proofs.Ytjckidjljkjhfaa
