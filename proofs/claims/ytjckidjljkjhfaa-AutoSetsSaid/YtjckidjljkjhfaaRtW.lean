/- The reference's spaces of sets: from behind (3), again (5). -/
import Derived.Test.YtjckidjljkjhfaaRtP
import Derived.Test.YtjckidjljkjhfaaStY
namespace Go.Proofs.Ytjckidjljkjhfaa
open Go.RowKit Go.Proofs.YtjckidjljkjhfaaW.PrintWords
set_option linter.unusedSimpArgs false
set_option linter.unusedVariables false
/-- The cells of a space over one automaton. -/
def sp1 (kd : Int) (x : AutV) (A : Option Addr) (c : Nat) (B : Option Addr) (d : Nat) : Array Value := #[.int .i64 kd, .int .i64 x.k, .slice A x.next.length c, .slice B x.acc.length d, .int .i64 0, .slice none 0 0, .slice none 0 0]
/-- Flags that are being laid beside a box. -/
structure FlS (cs : Array Value) (n : Nat) (o : Sta) (v : Value) (w wr : World) : Prop where
  box : wr.heap[w.heap.size]? = some (.cells cs 77 (0, 0))
  lst : Kd.R (Kd.int .u8) 5 wr w.heap.size (fun _ => True) v (flI n o)
  bel : Below w.heap.size w wr
section
variable {cs : Array Value} {n : Nat} {o o2 : Sta} {v : Value} {w wr w2 : World}
theorem FlS.keep (h : FlS cs n o v w wr) (hb : Below wr.heap.size wr w2) : FlS cs n o v w w2 := ⟨hp_below' hb h.box, Kd.R_below h.lst hb, bl_then h.bel hb⟩
theorem FlS.drewN (h : FlS cs n o v w wr) (k : Nat) : FlS cs n o v w (wr.drewN k) := ⟨h.box, Kd.R_drewN h.lst k, bl_drewN h.bel k⟩
theorem FlS.drew (h : FlS cs n o v w wr) : FlS cs n o v w wr.drew := ⟨h.box, Kd.R_drewN h.lst 1, h.bel.drew⟩
theorem FlS.put {g cc t : Nat} (h : FlS cs n o (.slice (some ⟨g, 0, none⟩) n cc) w wr) (ht : t < n) (h4 : n ≤ 4096) (hg : w.heap.size ≤ g) : FlS cs n (adS o t) (.slice (some ⟨g, 0, none⟩) n cc) w (wr.setCell ⟨g, t, none⟩ (.int .u8 1)) := by
  have hp := Kd.R_putn h.lst (t : Int) 1
  rw [Int.toNat_natCast, flI_set ht h4] at hp
  have hne : g ≠ w.heap.size := fun e => Kd.R_ne h.lst h.box (by decide) (by rw [e]; rfl)
  exact ⟨(heap_setCell_other _ _ _ _ (fun e => hne e.symm)).trans h.box, hp, bl_cell h.bel (show w.heap.size ≤ (⟨g, t, none⟩ : Addr).block from hg) _⟩
end
set_option maxRecDepth 100000 in
set_option maxHeartbeats 800000 in
theorem rstart3_any (x : AutV) (A : Option Addr) (c : Nat) (B : Option Addr) (d : Nat) (hx : AutOk x) (w : World) (hr : ARd w x A B) :
    Calls Try.prog 89 #[.agg (sp1 3 x A c B d)] w fun e w' => e = .returned (.string (enT x.acc.length (accS x x.acc.length))) ∧ Below w.heap.size w w' := by
  have HR := Aside0.mk hr
  have hn1 := hx.2.2.1; have hn2 := hx.2.2.2.1
  have H0 := Lib.hid ((Hp.start w).alloc (.cells (sp1 3 x A c B d) 77))
  have ST := Aside0.mk (rset_any x.acc.length hn2 (w.alloc (.cells (sp1 3 x A c B d) 77)))
  have c3 : (w.alloc (.cells (sp1 3 x A c B d) 77)).cell? ⟨w.heap.size, 3, none⟩ = some (.slice B x.acc.length d) := by rw [cell_of_row _ _ _ _ _ _ (H0.out.at 0 rfl)]; rfl
  have cs0 : (w.alloc (.cells (sp1 3 x A c B d) 77)).cell? ⟨w.heap.size, 0, none⟩ = some (.int .i64 3) := by rw [cell_of_row _ _ _ _ _ _ (H0.out.at 0 rfl)]; rfl
  clear hr hx
  generalize hcs : sp1 3 x A c B d = cs at *
  have HCS := Lib.hid hcs
  clear hcs
  go_enter Try.func89, Try.ntmps89
  go_wp2_with fail
  refine ST.out.mono ?_
  rintro e w1 ⟨v, rfl, hv, hb⟩
  have hbs : w.heap.size ≤ (w.alloc (.cells cs 77)).heap.size := H0.out.2.size
  have H1 := Lib.hid (show FlS cs x.acc.length (accS x 0) v w w1 from ⟨hp_below' hb (H0.out.at 0 rfl), Kd.R_lower hv hbs, bl_then H0.out.2 hb⟩)
  obtain ⟨g, cc, rfl, hg1, hg2, hg3⟩ := own_form (0 : Int) H1.out.lst (by rw [flI_len]; omega)
  have HG1 := Lib.hid hg1
  clear hg1 hg2 hg3 hv hb hbs H0 ST c3 cs0
  rw [flI_len] at H1 ⊢
  go_wp2_with fail
  go_loopw [4] (fun i wr => ∃ q : Nat, q ≤ x.acc.length ∧ i = .int .i64 q ∧ Hid (FlS cs x.acc.length (accS x q) (.slice (some ⟨g, 0, none⟩) x.acc.length cc) w wr)) (fun i _ => x.acc.length - (intOf i).toNat)
  case atStart => exact ⟨0, by omega, rfl, H1⟩
  case round =>
    obtain ⟨i, hi, rfl, H⟩ := hrel
    clear H1
    by_cases hil : i < x.acc.length
    · obtain ⟨ad, hB, cA⟩ := Kd.at_bool (HR.out.below H.out.bel).acc (i : Int) (by omega) (by omega)
      rw [Int.toNat_natCast] at cA
      have c2 : wr.cell? ⟨w.heap.size, 3, none⟩ = some (.slice B x.acc.length d) := by rw [cell_of_row _ _ _ _ _ _ H.out.box, ← HCS.out]; rfl
      have hnx : accS x (i + 1) = if rdOf false x.acc (i : Int) then adS (accS x i) i else accS x i := rfl
      generalize rdOf false x.acc (i : Int) = b at *
      subst hB
      cases b
      · rw [if_neg (by decide)] at hnx
        rw [← hnx] at H
        clear hnx
        go_wp2
        go_roundw
        case rel => exact ⟨i + 1, by omega, by go_num, H⟩
        case measure => simp [intOf]; omega
      · rw [if_pos rfl] at hnx
        obtain ⟨g', cc', hge, hg1, hg2, hg3⟩ := own_form (0 : Int) H.out.lst (by rw [flI_len]; omega)
        injection hge with hA1 hA3 hA2
        injection hA1 with hA1
        injection hA1 with hA1
        subst hA1
        obtain ⟨q1, q2⟩ := hg3 i (by rw [flI_len]; exact hil)
        have H3 := Lib.hid (H.out.put hil hn2 HG1.out)
        rw [← hnx] at H3
        clear hnx hg1 hg2 hg3 hA2 hA3
        go_wp2
        go_roundw
        case rel => exact ⟨i + 1, by omega, by go_num, H3⟩
        case measure => simp [intOf]; omega
    · have hie : i = x.acc.length := by omega
      rw [hie] at H
      have HC := Aside0.mk (Kd.R_reads' H.out.lst).2.2
      rw [flI_len] at HC
      clear hie
      go_wp2_with ((with_reducible refine gate_conv (s := 73) (t := 9) rfl ?_); refine wpl_conv (n := x.acc.length) (m := accS x x.acc.length) rfl _ rfl rfl HC.out ?_)
      go_ret
      exact ⟨rfl, H.out.bel⟩
/-- A flag of a text. -/
theorem enT_at {n : Nat} {m : Sta} {t : Nat} (h : t < n) : ∀ hh : t < (enT n m).size, (((enT n m)[t]'hh).toNat : Int) = if m.getLsbD t then 1 else 0 := fun hh => by
  have h1 := bt_at (enT n m) (t : Int)
  rw [enT_bt h] at h1
  exact h1 hh
set_option maxRecDepth 100000 in
set_option maxHeartbeats 800000 in
theorem rstep3_any (x : AutV) (A : Option Addr) (c : Nat) (B : Option Addr) (d : Nat) (hx : AutOk x) (m : Sta) (l : Nat) (hl : (l : Int) < x.k) (w : World) (hr : ARd w x A B) :
    Calls Try.prog 90 #[.agg (sp1 3 x A c B d), .string (enT x.acc.length m), .int .i64 (l : Int)] w fun e w' => e = .returned (.string (enT x.acc.length (rvSt x m l))) ∧ Below w.heap.size w w' := by
  have HR := Aside0.mk hr
  have HX := Lib.hid hx
  have hn1 := hx.2.2.1; have hn2 := hx.2.2.2.1
  have H0 := Lib.hid ((Hp.start w).alloc (.cells (sp1 3 x A c B d) 77))
  have ST := Aside0.mk (rset_any x.acc.length hn2 (w.alloc (.cells (sp1 3 x A c B d) 77)))
  have c1 : (w.alloc (.cells (sp1 3 x A c B d) 77)).cell? ⟨w.heap.size, 1, none⟩ = some (.int .i64 x.k) := by rw [cell_of_row _ _ _ _ _ _ (H0.out.at 0 rfl)]; rfl
  have cs0 : (w.alloc (.cells (sp1 3 x A c B d) 77)).cell? ⟨w.heap.size, 0, none⟩ = some (.int .i64 3) := by rw [cell_of_row _ _ _ _ _ _ (H0.out.at 0 rfl)]; rfl
  have HAT := Aside0.mk (fun (t : Nat) (h : t < x.acc.length) => enT_at (m := m) h)
  have hTs := enT_size x.acc.length m
  have hrv : rvSt x m l = rvS x m l x.acc.length := rfl
  rw [hrv]
  clear hr hx hrv
  generalize hcs : sp1 3 x A c B d = cs at *
  have HCS := Lib.hid hcs
  clear hcs
  generalize enT x.acc.length m = T at *
  go_enter Try.func90, Try.ntmps90
  go_wp2_with fail
  refine ST.out.mono ?_
  rintro e w1 ⟨v, rfl, hv, hb⟩
  have hbs : w.heap.size ≤ (w.alloc (.cells cs 77)).heap.size := H0.out.2.size
  have H1 := Lib.hid (show FlS cs x.acc.length (rvS x m l 0) v w w1 from ⟨hp_below' hb (H0.out.at 0 rfl), Kd.R_lower hv hbs, bl_then H0.out.2 hb⟩)
  obtain ⟨g, cc, rfl, hg1, hg2, hg3⟩ := own_form (0 : Int) H1.out.lst (by rw [flI_len]; omega)
  have HG1 := Lib.hid hg1
  clear hg1 hg2 hg3 hv hb hbs H0 ST c1 cs0
  rw [flI_len] at H1 ⊢
  go_wp2_with fail
  go_loopw [9] (fun i wr => ∃ q : Nat, q ≤ x.acc.length ∧ i = .int .i64 q ∧ Hid (FlS cs x.acc.length (rvS x m l q) (.slice (some ⟨g, 0, none⟩) x.acc.length cc) w wr)) (fun i _ => x.acc.length - (intOf i).toNat)
  case atStart => exact ⟨0, by omega, rfl, H1⟩
  case round =>
    obtain ⟨i, hi, rfl, H⟩ := hrel
    clear H1
    by_cases hil : i < x.acc.length
    · obtain ⟨ad, p, L1⟩ := lkT HX.out (HR.out.below H.out.bel) hil hl
      obtain ⟨z1l, _⟩ := stp_lt HX.out hil hl
      have c1 : wr.cell? ⟨w.heap.size, 2, none⟩ = some (.slice A x.next.length c) := by rw [cell_of_row _ _ _ _ _ _ H.out.box, ← HCS.out]; rfl
      have hA := L1.addr; have hcell := L1.cell; have hw5 := L1.mul; have hw11 := L1.add; have hw12 := L1.pos; have hw14 := L1.lt; have hw13 := L1.nat
      have hnx : rvS x m l (i + 1) = if m.getLsbD (stp x i l) then adS (rvS x m l i) i else rvS x m l i := rfl
      have hat := HAT.out (stp x i l) z1l
      generalize stp x i l = t at *
      have hq3 : t < T.size := by rw [hTs]; exact z1l
      subst hA
      clear L1
      cases hm : m.getLsbD t
      · rw [hm, if_neg (by decide)] at hnx
        rw [hm, if_neg (by decide)] at hat
        rw [← hnx] at H
        clear hm hnx
        go_wp2
        go_roundw
        case rel => exact ⟨i + 1, by omega, by go_num, H⟩
        case measure => simp [intOf]; omega
      · rw [hm, if_pos rfl] at hnx
        rw [hm, if_pos rfl] at hat
        obtain ⟨g', cc', hge, hg1, hg2, hg3⟩ := own_form (0 : Int) H.out.lst (by rw [flI_len]; omega)
        injection hge with hA1 hA3 hA2
        injection hA1 with hA1
        injection hA1 with hA1
        subst hA1
        obtain ⟨q1, q2⟩ := hg3 i (by rw [flI_len]; exact hil)
        have H3 := Lib.hid (H.out.put hil hn2 HG1.out)
        rw [← hnx] at H3
        clear hnx hm hg1 hg2 hg3 hA2 hA3
        go_wp2
        go_roundw
        case rel => exact ⟨i + 1, by omega, by go_num, H3⟩
        case measure => simp [intOf]; omega
    · have hie : i = x.acc.length := by omega
      rw [hie] at H
      have HC := Aside0.mk (Kd.R_reads' H.out.lst).2.2
      rw [flI_len] at HC
      clear hie
      go_wp2_with ((with_reducible refine gate_conv (s := 73) (t := 9) rfl ?_); refine wpl_conv (n := x.acc.length) (m := rvS x m l x.acc.length) rfl _ rfl rfl HC.out ?_)
      go_ret
      exact ⟨rfl, H.out.bel⟩
set_option maxRecDepth 100000 in
set_option maxHeartbeats 400000 in
theorem rgood3_any (how : Int) (x : AutV) (A : Option Addr) (c : Nat) (B : Option Addr) (d : Nat) (hx : AutOk x) (m : Sta) (w : World) :
    Calls Try.prog 92 #[.agg (sp1 3 x A c B d), .string (enT x.acc.length m), .int .i64 how] w fun e w' => e = .returned (.bool (rvG m)) ∧ Below w.heap.size w w' := by
  have hn1 := hx.2.2.1
  have HB := Lib.hid (bl_alloc (Below.refl w.heap.size w) (.cells (sp1 3 x A c B d) 77))
  have cs0 : (w.alloc (.cells (sp1 3 x A c B d) 77)).cell? ⟨w.heap.size, 0, none⟩ = some (.int .i64 3) := by rw [cell_of_row _ _ _ _ _ _ (hp_new rfl)]; rfl
  have hat := enT_at (n := x.acc.length) (m := m) (t := 0) (by omega)
  have hTs := enT_size x.acc.length m
  unfold rvG
  generalize sp1 3 x A c B d = cs at *
  generalize enT x.acc.length m = T at *
  have hq3 : 0 < T.size := by rw [hTs]; omega
  generalize m.getLsbD 0 = b at *
  clear hx
  cases b <;>
  · simp only [if_true, if_false, Bool.false_eq_true] at hat
    go_enter Try.func92, Try.ntmps92
    go_wp2
    go_ret
    exact ⟨rfl, HB.out⟩
set_option maxRecDepth 100000 in
set_option maxHeartbeats 400000 in
theorem rstart5_any (x : AutV) (A : Option Addr) (c : Nat) (B : Option Addr) (d : Nat) (hx : AutOk x) (w : World) :
    Calls Try.prog 89 #[.agg (sp1 5 x A c B d)] w fun e w' => e = .returned (.string (enT x.acc.length noS)) ∧ Below w.heap.size w w' := by
  have hn1 := hx.2.2.1; have hn2 := hx.2.2.2.1
  have H0 := Lib.hid ((Hp.start w).alloc (.cells (sp1 5 x A c B d) 77))
  have ST := Aside0.mk (rset_any x.acc.length hn2 (w.alloc (.cells (sp1 5 x A c B d) 77)))
  have c3 : (w.alloc (.cells (sp1 5 x A c B d) 77)).cell? ⟨w.heap.size, 3, none⟩ = some (.slice B x.acc.length d) := by rw [cell_of_row _ _ _ _ _ _ (H0.out.at 0 rfl)]; rfl
  have cs0 : (w.alloc (.cells (sp1 5 x A c B d) 77)).cell? ⟨w.heap.size, 0, none⟩ = some (.int .i64 5) := by rw [cell_of_row _ _ _ _ _ _ (H0.out.at 0 rfl)]; rfl
  clear hx
  generalize sp1 5 x A c B d = cs at *
  go_enter Try.func89, Try.ntmps89
  go_wp2_with fail
  refine ST.out.mono ?_
  rintro e w1 ⟨v, rfl, hv, hb⟩
  obtain ⟨Av, cv, rfl⟩ := Kd.R_slice hv
  have HC := Aside0.mk (Kd.R_reads' hv).2.2
  have HB := Lib.hid (bl_then H0.out.2 hb)
  rw [flI_len] at HC ⊢
  clear hv hb H0 ST c3 cs0
  go_wp2_with ((with_reducible refine gate_conv (s := 73) (t := 9) rfl ?_); refine wpl_conv (n := x.acc.length) (m := noS) rfl _ rfl rfl HC.out ?_)
  go_ret
  exact ⟨rfl, HB.out⟩
end Go.Proofs.Ytjckidjljkjhfaa
