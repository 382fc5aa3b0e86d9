/- SameInts and StayInts. -/
import Derived.Test.YtpebnldoimoahaaLent
namespace Go.Proofs.Ytpebnldoimoahaa
open Go.RowKit Go.Proofs.YtpebnldoimoahaaW.PrintWords Go.Proofs.YtpebnldoimoahaaW.PrintLast Go.Proofs.YtpebnldoimoahaaW.PrintMore
theorem list_ne {l m : List Int} {k : Nat} (h : rd l k ≠ rd m k) : l ≠ m := by
  rintro rfl; exact h rfl
theorem list_eq {l m : List Int} (hl : l.length = m.length) (h : ∀ k : Nat, k < l.length → rd l k = rd m k) : l = m := by
  apply List.ext_getElem hl
  intro i h1 h2
  have := h i h1
  simp only [rd, Int.toNat_natCast, List.getD_eq_getElem?_getD, List.getElem?_eq_getElem h1, List.getElem?_eq_getElem h2] at this
  exact this
set_option maxRecDepth 100000 in
set_option maxHeartbeats 800000 in
theorem same_any (A : Option Addr) (c : Nat) (l : List Int) (B : Option Addr) (d : Nat) (m : List Int) (w : World) (hA : Kd.C (Kd.int .i64) w A l.length l) (hB : Kd.C (Kd.int .i64) w B m.length m) :
    Calls Try.prog 50 #[.slice A l.length c, .slice B m.length d] w fun e w' => e = .returned (.bool (decide (l = m))) ∧ Below w.heap.size w w' := by
  have HA := Aside0.mk hA
  have HB := Aside0.mk hB
  have hmax := Kd.C_max hA
  clear hA hB
  by_cases hlen : l.length = m.length
  · have HE := Lib.hid hlen
    have h1 : ((l.length : Int) != (m.length : Int)) = false := by rw [bne_eq_false_iff_eq]; omega
    have h2 : (l.length != m.length) = false := by rw [bne_eq_false_iff_eq]; omega
    clear hlen
    go_enter Try.func50, Try.ntmps50
    go_wp2
    go_loopw [5] (fun i wr => ∃ k : Nat, k ≤ l.length ∧ i = .int .i64 k ∧ Hid (∀ j : Nat, j < k → rd l j = rd m j) ∧ Hid (Below w.heap.size w wr)) (fun i _ => l.length - (intOf i).toNat)
    case atStart => exact ⟨0, by omega, rfl, Lib.hid (by omega), Lib.hid (Below.refl _ _)⟩
    case round =>
      obtain ⟨k, hk, rfl, HI, H⟩ := hrel
      by_cases hkl : k < l.length
      · obtain ⟨ad, rfl, hcell⟩ := Kd.at_int (Kd.C_below HA.out H.out) k (by omega) (by omega)
        have hkm : k < m.length := by have := HE.out; omega
        obtain ⟨bd, rfl, hcell2⟩ := Kd.at_int (Kd.C_below HB.out H.out) k (by omega) (by omega)
        rw [Int.toNat_natCast] at hcell hcell2
        by_cases hp : rd l k = rd m k
        · have HI2 : Hid (∀ j : Nat, j < k + 1 → rd l j = rd m j) := Lib.hid (fun i hi => by
            by_cases e : i = k
            · subst e; exact hp
            · exact HI.out i (by omega))
          rw [← hp] at hcell2
          have hpb : (rd l k != rd l k) = false := by simp
          clear hp
          generalize rd l k = p at *
          go_wp2
          go_quiet (fail)
          go_wp2
          go_roundw
          case rel => exact ⟨k+1, by omega, by go_num, HI2, Lib.hid (bl_drewN H.out _)⟩
          case measure => simp [intOf]; omega
        · have hpb : (rd l k != rd m k) = true := by rw [bne_iff_ne]; exact hp
          have HN := Lib.hid (list_ne hp)
          clear hp
          generalize rd l k = p at *
          generalize rd m k = q at *
          go_wp2
          go_quiet (fail)
          go_wp2
          go_ret
          exact ⟨by rw [decide_eq_false HN.out]; rfl, bl_drewN H.out _⟩
      · have : k = l.length := by omega
        subst this
        have HN := Lib.hid (list_eq HE.out HI.out)
        go_wp2
        go_ret
        exact ⟨by rw [decide_eq_true HN.out]; rfl, H.out⟩
  · have HN : Hid (l ≠ m) := Lib.hid (fun e => hlen (by rw [e]))
    have h1 : ((l.length : Int) != (m.length : Int)) = true := by rw [bne_iff_ne]; omega
    have h2 : (l.length != m.length) = true := by rw [bne_iff_ne]; omega
    go_enter Try.func50, Try.ntmps50
    go_wp2
    go_ret
    exact ⟨by rw [decide_eq_false HN.out]; rfl, Below.refl _ _⟩
theorem cut_up {P : Program} (t e : TypeId) (kh : IntKind) {i : TypeInfo} (ht : P.underlying t = some (.slice e)) (hi : P.info? e = some i) (A : Option Addr) (n c : Nat) (j : Int) (h0 : 0 ≤ j) (hm : j ≤ c) :
    ∀ W : World, (Instr.slice t (.slice A n c) none (some (.int kh j)) none).run P W = .ok (.slice A j.toNat c) W := by
  intro W
  have hel : P.elem t = e := by simp [Program.elem, ht]
  have hu : P.underlying t = some (.slice (P.elem t)) := by rw [hel]; exact ht
  have ha : (A.map fun x => x.add 0) = A := by cases A <;> simp [Addr.add]
  rw [run_slice_h W t A n c hu kh j h0 (by omega), hel]
  simp [sizeOf, typeInfo, hi, sliced, Result.andThen, ha]
theorem rd_end1 (l : List Int) (a b : Int) : rd (l ++ [a, b]) (l.length : Int) = a := by
  unfold rd
  rw [Int.toNat_natCast, List.getD_eq_getElem?_getD, List.getElem?_append_right (Nat.le_refl _), Nat.sub_self]; rfl
theorem rd_end2 (l : List Int) (a b : Int) : rd (l ++ [a, b]) ((l.length : Int) + 1) = b := by
  unfold rd
  rw [show ((l.length : Int) + 1).toNat = l.length + 1 by omega, List.getD_eq_getElem?_getD, List.getElem?_append_right (by omega), Nat.add_sub_cancel_left]; rfl
/-- What was lent stays: StayInts says so. -/
theorem stay_any (A : Option Addr) (c : Nat) (l : List Int) (B : Option Addr) (d : Nat) (w : World) (hlen : l.length ≤ 17592186043904) (hA : Kd.C (Kd.int .i64) w A (l ++ [(-77), (-78)]).length (l ++ [(-77), (-78)])) (hc : l.length + 2 ≤ c) (hB : Kd.C (Kd.int .i64) w B l.length l) :
    Calls Try.prog 20 #[.slice A l.length c, .slice B l.length d] w fun e w' => e = .returned (.bool true) ∧ Below w.heap.size w w' := by
  have HA := Aside0.mk hA
  have HB := Aside0.mk hB
  clear hA hB
  obtain ⟨i0, hi0, hz1, hz0, hz2⟩ := info_parts info_int
  have hcut1 := cut_up (P := Try.prog) 22 3 .i64 Try.underlying22 hi0 A l.length c ((l.length : Int) + 2) (by omega) (by omega)
  have hcut2 := cut_up (P := Try.prog) 22 3 .i64 Try.underlying22 hi0 A (l.length + 2) c (l.length : Int) (by omega) (by omega)
  rw [show ((l.length : Int) + 2).toNat = l.length + 2 by omega] at hcut1
  rw [Int.toNat_natCast] at hcut2
  clear hi0 hz0 hz1 hz2
  go_enter Try.func20, Try.ntmps20
  go_wp2_with fail
  have hpre : Kd.C (Kd.int .i64) w A l.length l := by
    have := Kd.C_take (m := l.length) HA.out (by simp)
    simpa using this
  refine (same_any A c l B d l _ hpre HB.out).mono ?_
  clear hpre
  rintro e w1 ⟨rfl, hb⟩
  rw [decide_eq_true rfl]
  have hl2 : (l ++ [(-77), (-78)]).length = l.length + 2 := by simp
  obtain ⟨ad, rfl, hcell1⟩ := Kd.at_int (Kd.C_below HA.out hb) l.length (by omega) (by omega)
  obtain ⟨ad2, e2, hcell2⟩ := Kd.at_int (Kd.C_below HA.out hb) ((l.length : Int) + 1) (by omega) (by omega)
  obtain rfl := Option.some.inj e2
  rw [Int.toNat_natCast, rd_end1] at hcell1
  rw [show ((l.length : Int) + 1).toNat = l.length + 1 by omega, rd_end2] at hcell2
  rw [Addr.add, if_neg (by omega)] at hcell2
  have HBL := Lib.hid hb
  clear hb e2 hl2
  go_wp2
  go_ret
  exact ⟨rfl, HBL.out⟩
end Go.Proofs.Ytpebnldoimoahaa
