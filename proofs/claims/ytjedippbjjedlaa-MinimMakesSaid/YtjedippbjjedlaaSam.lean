/- The walk of SameAuto: are two automata the same value? -/
import Derived.Test.YtjedippbjjedlaaA3
import Derived.BigQuiet
namespace Go.Proofs.Ytjedippbjjedlaa
open Go.RowKit Go.Proofs.YtjedippbjjedlaaW.PrintWords
set_option linter.unusedSimpArgs false
set_option linter.unusedVariables false
theorem blist_eq {l m : List Bool} (hl : l.length = m.length) (h : ∀ k : Nat, k < l.length → rdOf false l k = rdOf false m k) : l = m := by
  apply List.ext_getElem hl
  intro i h1 h2
  have := h i h1
  simp only [rdOf, Int.toNat_natCast, List.getD_eq_getElem?_getD, List.getElem?_eq_getElem h1, List.getElem?_eq_getElem h2] at this
  exact this
theorem blist_ne {l m : List Bool} {k : Nat} (h : rdOf false l k ≠ rdOf false m k) : l ≠ m := by
  rintro rfl; exact h rfl
/-- One value. -/
def sameV (x y : AutV) : Bool := decide (x.k = y.k ∧ x.next = y.next ∧ x.acc = y.acc)
set_option maxRecDepth 100000 in
set_option maxHeartbeats 1600000 in
theorem samea_any (x y : AutV) (A : Option Addr) (c : Nat) (B : Option Addr) (d : Nat) (X : Option Addr) (xc : Nat) (Y : Option Addr) (yc : Nat) (w : World) (hr : ARd w x A B) (hr' : ARd w y X Y) :
    Calls Try.prog 29 #[.agg (ac x A c B d), .agg (ac y X xc Y yc)] w fun e w' => e = .returned (.bool (sameV x y)) ∧ Below w.heap.size w w' := by
  have HR := Aside0.mk hr; have HR' := Aside0.mk hr'
  have hm1 := Kd.C_max hr.acc
  have H0 := Lib.hid (((Hp.start w).alloc (AB x A c B d)).alloc (AB y X xc Y yc))
  rw [World.size_alloc] at H0
  have SM := Aside0.mk (same_any A c x.next X xc y.next _ (Kd.C_below hr.next H0.out.2) (Kd.C_below hr'.next H0.out.2))
  have e0 := Lib.hid (H0.out.at 1 rfl); have e1 := Lib.hid (H0.out.at 0 rfl)
  have c00 : ((w.alloc (AB x A c B d)).alloc (AB y X xc Y yc)).cell? ⟨w.heap.size, 0, none⟩ = some (.int .i64 x.k) := by rw [cell_of_row _ _ _ _ _ _ e0.out]; rfl
  have c01 : ((w.alloc (AB x A c B d)).alloc (AB y X xc Y yc)).cell? ⟨w.heap.size, 1, none⟩ = some (.slice A x.next.length c) := by rw [cell_of_row _ _ _ _ _ _ e0.out]; rfl
  have c10 : ((w.alloc (AB x A c B d)).alloc (AB y X xc Y yc)).cell? ⟨w.heap.size + 1, 0, none⟩ = some (.int .i64 y.k) := by rw [cell_of_row _ _ _ _ _ _ e1.out]; rfl
  have c11 : ((w.alloc (AB x A c B d)).alloc (AB y X xc Y yc)).cell? ⟨w.heap.size + 1, 1, none⟩ = some (.slice X y.next.length xc) := by rw [cell_of_row _ _ _ _ _ _ e1.out]; rfl
  clear hr hr'
  by_cases h1 : x.k = y.k
  · have hb1 : (x.k != y.k) = false := by rw [bne_eq_false_iff_eq]; exact h1
    by_cases h2 : x.next = y.next
    · rw [decide_eq_true h2] at SM
      by_cases h3 : x.acc.length = y.acc.length
      · have HY : Hid ((∀ k : Nat, k < x.acc.length → rdOf false x.acc k = rdOf false y.acc k) → sameV x y = true) := Lib.hid (fun h => decide_eq_true ⟨h1, h2, blist_eq h3 h⟩)
        have HN : Hid (∀ k : Nat, rdOf false x.acc k ≠ rdOf false y.acc k → sameV x y = false) := Lib.hid (fun k h => decide_eq_false (fun hh => blist_ne h hh.2.2))
        have H3 := Lib.hid h3
        have hb3 : ((x.acc.length : Int) != (y.acc.length : Int)) = false := by rw [bne_eq_false_iff_eq]; omega
        have hb4 : (x.acc.length != y.acc.length) = false := by rw [bne_eq_false_iff_eq]; omega
        generalize sameV x y = b at *
        clear h1 h2 h3
        go_enter Try.func29, Try.ntmps29
        go_wp2_with fail
        refine SM.out.mono ?_
        rintro e w1 ⟨rfl, hb⟩
        have H1 := Lib.hid (H0.out.keep hb)
        have d02 : w1.cell? ⟨w.heap.size, 2, none⟩ = some (.slice B x.acc.length d) := by rw [cell_of_row _ _ _ _ _ _ (H1.out.at 1 rfl)]; rfl
        have d12 : w1.cell? ⟨w.heap.size + 1, 2, none⟩ = some (.slice Y y.acc.length yc) := by rw [cell_of_row _ _ _ _ _ _ (H1.out.at 0 rfl)]; rfl
        clear hb SM c00 c01 c10 c11 e0 e1 H0
        go_wp2
        clear d02 d12
        go_loopw [5] (fun i wr => ∃ k : Nat, k ≤ x.acc.length ∧ i = .int .i64 k ∧ Hid (∀ j : Nat, j < k → rdOf false x.acc j = rdOf false y.acc j) ∧ Hid (Hp [(w.heap.size + 1, AB y X xc Y yc), (w.heap.size, AB x A c B d)] w wr)) (fun i _ => x.acc.length - (intOf i).toNat)
        case atStart => exact ⟨0, by omega, rfl, Lib.hid (fun j hj => absurd hj (by omega)), H1⟩
        case round =>
          obtain ⟨k, hk, rfl, HF, H⟩ := hrel
          have d02 : wr.cell? ⟨w.heap.size, 2, none⟩ = some (.slice B x.acc.length d) := by rw [cell_of_row _ _ _ _ _ _ (H.out.at 1 rfl)]; rfl
          have d12 : wr.cell? ⟨w.heap.size + 1, 2, none⟩ = some (.slice Y y.acc.length yc) := by rw [cell_of_row _ _ _ _ _ _ (H.out.at 0 rfl)]; rfl
          by_cases hkl : k < x.acc.length
          · have hkm : k < y.acc.length := by have := H3.out; omega
            obtain ⟨a1, hA1, k1⟩ := Kd.at_bool (Kd.C_below HR.out.acc H.out.2) (k : Int) (by omega) (by omega)
            obtain ⟨a2, hA2, k2⟩ := Kd.at_bool (Kd.C_below HR'.out.acc H.out.2) (k : Int) (by omega) (by omega)
            rw [Int.toNat_natCast] at k1 k2
            by_cases he : rdOf false x.acc (k : Int) = rdOf false y.acc (k : Int)
            · have HF2 : Hid (∀ j : Nat, j < k + 1 → rdOf false x.acc j = rdOf false y.acc j) := Lib.hid (fun j hj => by
                by_cases hjk : j = k
                · subst hjk; exact he
                · exact HF.out j (by omega))
              rw [← he] at k2
              have hbb : (rdOf false x.acc (k : Int) != rdOf false x.acc (k : Int)) = false := by simp
              clear he
              generalize rdOf false x.acc (k : Int) = p at *
              subst hA1; subst hA2
              go_wp2
              go_quiet (fail)
              go_wp2
              go_roundw
              case rel => exact ⟨k + 1, by omega, by go_num, HF2, Lib.hid (H.out.drewN _)⟩
              case measure => simp [intOf]; omega
            · have HE := Lib.hid (HN.out k he)
              have hbb : (rdOf false x.acc (k : Int) != rdOf false y.acc (k : Int)) = true := by rw [bne_iff_ne]; exact he
              have hb2 : (rdOf false x.acc (k : Int) == rdOf false y.acc (k : Int)) = false := by rw [beq_eq_false_iff_ne]; exact he
              clear he
              generalize rdOf false x.acc (k : Int) = p at *
              generalize rdOf false y.acc (k : Int) = q at *
              subst hA1; subst hA2
              go_wp2
              go_quiet (fail)
              go_wp2
              go_ret
              exact ⟨by rw [HE.out]; rfl, bl_drewN H.out.2 _⟩
          · have hk2 : k = x.acc.length := by omega
            subst hk2
            have HE := Lib.hid (HY.out HF.out)
            go_wp2
            go_ret
            exact ⟨by rw [HE.out]; rfl, H.out.2⟩
      · have HE : Hid (sameV x y = false) := Lib.hid (decide_eq_false (fun hh => h3 (by rw [hh.2.2])))
        have hb3 : ((x.acc.length : Int) != (y.acc.length : Int)) = true := by rw [bne_iff_ne]; omega
        have hb4 : (x.acc.length != y.acc.length) = true := by rw [bne_iff_ne]; omega
        rw [HE.out]
        clear h1 h2 h3
        go_enter Try.func29, Try.ntmps29
        go_wp2_with fail
        refine SM.out.mono ?_
        rintro e w1 ⟨rfl, hb⟩
        have H1 := Lib.hid (H0.out.keep hb)
        have d02 : w1.cell? ⟨w.heap.size, 2, none⟩ = some (.slice B x.acc.length d) := by rw [cell_of_row _ _ _ _ _ _ (H1.out.at 1 rfl)]; rfl
        have d12 : w1.cell? ⟨w.heap.size + 1, 2, none⟩ = some (.slice Y y.acc.length yc) := by rw [cell_of_row _ _ _ _ _ _ (H1.out.at 0 rfl)]; rfl
        clear hb SM c00 c01 c10 c11 e0 e1 H0
        go_wp2
        go_ret
        exact ⟨rfl, H1.out.2⟩
    · rw [decide_eq_false h2] at SM
      have HE : Hid (sameV x y = false) := Lib.hid (decide_eq_false (fun hh => h2 hh.2.1))
      rw [HE.out]
      clear h1 h2
      go_enter Try.func29, Try.ntmps29
      go_wp2_with fail
      refine SM.out.mono ?_
      rintro e w1 ⟨rfl, hb⟩
      have H1 := Lib.hid (H0.out.keep hb)
      clear hb SM c00 c01 c10 c11 e0 e1 H0
      go_wp2
      go_ret
      exact ⟨rfl, H1.out.2⟩
  · have hb1 : (x.k != y.k) = true := by rw [bne_iff_ne]; exact h1
    have HE : Hid (sameV x y = false) := Lib.hid (decide_eq_false (fun hh => h1 hh.1))
    rw [HE.out]
    clear h1 SM
    go_enter Try.func29, Try.ntmps29
    go_wp2
    go_ret
    exact ⟨rfl, H0.out.2⟩
end Go.Proofs.Ytjedippbjjedlaa
