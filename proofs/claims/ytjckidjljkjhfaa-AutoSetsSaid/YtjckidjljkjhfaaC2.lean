/- Merged by tools/merge2.py out of: XWordA XRun XAcc XLst XPl XPlR XLsA XLiP XSam (a claim bears 60 files at most). -/
import Derived.Test.YtjckidjljkjhfaaA1
import Derived.Laws.RangeAny
import Derived.Laws.RangeString
import Derived.IntWalk
import Derived.BigQuiet
import Derived.Test.YtjckidjljkjhfaaC1
import Derived.Test.YtjckidjljkjhfaaB1
namespace Go.Proofs.Ytjckidjljkjhfaa
open Go.RowKit
set_option linter.unusedSimpArgs false
set_option linter.unusedVariables false
/-- Is each byte one of the first k letters? -/
def letB (k : Int) (s : ByteArray) : Bool := s.data.toList.all fun c => decide (97 ≤ c.toNat) && decide ((c.toNat : Int) < 97 + k)
theorem letB_at {k : Int} {s : ByteArray} (h : letB k s = true) (i : Nat) (hi : i < s.size) : 97 ≤ (s[i]'hi).toNat ∧ ((s[i]'hi).toNat : Int) < 97 + k := by
  unfold letB at h
  rw [List.all_eq_true] at h
  have := h (s[i]'hi) (by
    have : s.data.toList[i]? = some (s[i]'hi) := by
      rw [Array.getElem?_toList, Array.getElem?_eq_getElem hi]; rfl
    exact List.mem_of_getElem? this)
  simpa using this
theorem letB_of {k : Int} {s : ByteArray} (h : ∀ i (hi : i < s.size), 97 ≤ (s[i]'hi).toNat ∧ ((s[i]'hi).toNat : Int) < 97 + k) : letB k s = true := by
  unfold letB
  rw [List.all_eq_true]
  intro c hc
  obtain ⟨i, hi, rfl⟩ := List.mem_iff_getElem.1 hc
  have hi' : i < s.size := by simpa using hi
  have := h i hi'
  have e : s.data.toList[i] = s[i]'hi' := by rw [Array.getElem_toList]; rfl
  rw [e]
  simpa using this
theorem letB_no {k : Int} {s : ByteArray} {i : Nat} (hi : i < s.size) (h : ¬ (97 ≤ (s[i]'hi).toNat ∧ ((s[i]'hi).toNat : Int) < 97 + k)) : letB k s = false := by
  cases hb : letB k s
  · rfl
  · exact absurd (letB_at hb i hi) h
/-- The error of a word over k letters. -/
def wrdE (k : Int) (s : ByteArray) : Int := if k < 1 ∨ 8 < k then 20 else if letB k s then 0 else 21
set_option maxRecDepth 1000000 in
set_option maxHeartbeats 2000000 in
theorem word_any (k : Int) (s : ByteArray) (w : World) :
    Calls Try.prog 62 #[.int .i64 k, .string s] w fun e w' => e = .returned (.int .i64 (wrdE k s)) ∧ Below w.heap.size w w' := by
  by_cases hk : k < 1 ∨ 8 < k
  · have HE : Hid (wrdE k s = 20) := Lib.hid (by unfold wrdE; rw [if_pos hk])
    rcases hk with hk | hk
    · go_enter Try.func62, Try.ntmps62
      go_wp2
      go_ret
      exact ⟨by rw [HE.out]; rfl, Below.refl _ _⟩
    · have hk1 : ¬ k < 1 := by omega
      go_enter Try.func62, Try.ntmps62
      go_wp2
      go_ret
      exact ⟨by rw [HE.out]; rfl, Below.refl _ _⟩
  · have h1 : ¬ k < 1 := by omega
    have h2 : ¬ 8 < k := by omega
    have HY : Hid (letB k s = true → wrdE k s = 0) := Lib.hid (fun h => by unfold wrdE; rw [if_neg hk, h]; rfl)
    have HN : Hid (letB k s = false → wrdE k s = 21) := Lib.hid (fun h => by unfold wrdE; rw [if_neg hk, h]; rfl)
    clear hk
    go_enter Try.func62, Try.ntmps62
    go_wp2
    go_loopw [6] (fun _ w' => ∃ pos : Nat, pos ≤ s.size ∧ w' = w.iter s pos ∧ Hid (∀ i (hi : i < s.size), i < pos → 97 ≤ (s[i]'hi).toNat ∧ ((s[i]'hi).toNat : Int) < 97 + k)) (fun _ w' => s.size - w'.iterPos w.heap.size)
    case atStart => exact ⟨0, by omega, rfl, Lib.hid (fun i hi h => absurd h (by omega))⟩
    case round =>
      obtain ⟨pos, hpos, rfl, HO⟩ := hrel
      have HB : Hid (∀ p, Below w.heap.size w (w.iter s p)) := Lib.hid (fun p => bl_alloc (Below.refl w.heap.size w) (.stringIter s p))
      by_cases hp : pos < s.size
      · by_cases ha : (s[pos]'hp).toNat < 128
        · have hnx : ∀ ty, (Instr.next (.pointer (some ⟨w.heap.size, 0, none⟩)) true ty).run Try.prog (w.iter s pos) = _ := fun ty => run_next_ascii w s pos ty hp ha
          by_cases hc : 97 ≤ (s[pos]'hp).toNat ∧ ((s[pos]'hp).toNat : Int) < 97 + k
          · have HO2 : Hid (∀ i (hi : i < s.size), i < pos + 1 → 97 ≤ (s[i]'hi).toNat ∧ ((s[i]'hi).toNat : Int) < 97 + k) := Lib.hid (fun i hi h => by
              by_cases e : i = pos
              · subst e; exact hc
              · exact HO.out i hi (by omega))
            obtain ⟨hc1, hc2⟩ := hc
            generalize (s[pos]'hp).toNat = c at *
            have hd1 : decide ((c : Int) < 97) = false := by simp; omega
            have hd2 : decide (97 + k ≤ (c : Int)) = false := by simpa using hc2
            have hd3 : decide (c < 97) = false := by simpa using hc1
            go_wp2
            go_roundw
            case rel => exact ⟨pos + 1, by omega, rfl, HO2⟩
            case measure => simp; omega
          · have HE := Lib.hid (HN.out (letB_no hp hc))
            generalize (s[pos]'hp).toNat = c at *
            by_cases hc1 : c < 97
            · have hd1 : decide ((c : Int) < 97) = true := by simp; omega
              have hd3 : decide (c < 97) = true := by simpa using hc1
              go_wp2
              go_ret
              exact ⟨by rw [HE.out]; rfl, HB.out _⟩
            · have hd1 : decide ((c : Int) < 97) = false := by simp; omega
              have hd3 : decide (c < 97) = false := by simpa using hc1
              have hd2 : decide (97 + k ≤ (c : Int)) = true := by simp; omega
              go_wp2
              go_ret
              exact ⟨by rw [HE.out]; rfl, HB.out _⟩
        · have hnx : ∀ ty, (Instr.next (.pointer (some ⟨w.heap.size, 0, none⟩)) true ty).run Try.prog (w.iter s pos) = _ := fun ty => run_next_any w s pos ty hp
          have HE := Lib.hid (HN.out (letB_no hp (fun h => by omega)))
          obtain ⟨hh, _⟩ := decode_high s pos hp (by omega)
          generalize (Utf8.decode s pos).1 = c at *
          generalize (Utf8.decode s pos).2 = wd at *
          have hd1 : decide ((c : Int) < 97) = false := by simp; omega
          have hd2 : decide (97 + k ≤ (c : Int)) = true := by simp; omega
          go_wp2

          go_ret
          exact ⟨by rw [HE.out]; rfl, HB.out _⟩
      · have hnx : ∀ ty, (Instr.next (.pointer (some ⟨w.heap.size, 0, none⟩)) true ty).run Try.prog (w.iter s pos) = _ := fun ty => run_next_end w s pos ty hp
        have HE := Lib.hid (HY.out (letB_of (fun i hi => HO.out i hi (by omega))))
        go_wp2
        go_ret
        exact ⟨by rw [HE.out]; rfl, HB.out _⟩
end Go.Proofs.Ytjckidjljkjhfaa

namespace Go.Proofs.Ytjckidjljkjhfaa
open Go.RowKit Go.Proofs.YtjckidjljkjhfaaW.PrintWords
set_option linter.unusedSimpArgs false
set_option linter.unusedVariables false
/-- Where a word leads. -/
def fol (x : AutV) (s : Nat) (l : List UInt8) : Nat := l.foldl (fun s c => stp x s (c.toNat - 97)) s
theorem fol_snoc (x : AutV) (s : Nat) (l : List UInt8) (c : UInt8) : fol x s (l ++ [c]) = stp x (fol x s l) (c.toNat - 97) := by simp [fol]
theorem byte_take (s : ByteArray) (k : Nat) (h : k < s.size) : s.data.toList.take (k + 1) = s.data.toList.take k ++ [s[k]] := by
  rw [List.take_succ_eq_append_getElem (by simpa using h)]; rfl
theorem fol_lt {x : AutV} (h : AutOk x) {s : Nat} (hs : s < x.acc.length) {w : ByteArray} (hw : letB x.k w = true) : ∀ k, k ≤ w.size → fol x s (w.data.toList.take k) < x.acc.length
  | 0, _ => by simpa [fol] using hs
  | k + 1, hk => by
    rw [byte_take w k (by omega), fol_snoc]
    have := letB_at hw k (by omega)
    exact (stp_lt h (fol_lt h hs hw k (by omega)) (by omega)).1
set_option maxRecDepth 100000 in
set_option maxHeartbeats 4000000 in
theorem follow_any (x : AutV) (A : Option Addr) (c : Nat) (B : Option Addr) (d : Nat) (s : Nat) (v : ByteArray) (w : World) (hr : ARd w x A B) (hx : AutOk x) (hs : s < x.acc.length) (hv : letB x.k v = true) (hsz : v.size ≤ 4611686018427387904) :
    Calls Try.prog 52 #[.agg (ac x A c B d), .int .i64 s, .string v] w fun e w' => e = .returned (.int .i64 ((fol x s v.data.toList : Nat) : Int)) ∧ Below w.heap.size w w' := by
  have HR := Aside0.mk hr
  have HX := Lib.hid hx
  have HV := Lib.hid hv
  have HS := Lib.hid hs
  have HFL := Lib.hid (fun k hk => fol_lt hx hs hv k hk)
  obtain ⟨R, HRR⟩ : ∃ R, Hid (fol x s v.data.toList = R) := ⟨_, Lib.hid rfl⟩
  rw [HRR.out]
  have h4 := hx.2.2.2.1
  clear hr hx hv hs
  go_enter Try.func52, Try.ntmps52
  go_wp2
  go_loopw [10, 1] (fun i q wr => ∃ k : Nat, k ≤ v.size ∧ i = .int .i64 k ∧ q = .int .i64 ((fol x s (v.data.toList.take k) : Nat) : Int) ∧ Hid (wr.heap[w.heap.size]? = some (.cells (ac x A c B d) 25 (0, 0)) ∧ Below w.heap.size w wr)) (fun i _ _ => v.size - (intOf i).toNat)
  case atStart => exact ⟨0, by omega, rfl, rfl, Lib.hid ⟨hp_new rfl, bl_alloc (Below.refl _ _) _⟩⟩
  case round =>
    obtain ⟨k, hk, rfl, rfl, H⟩ := hrel
    by_cases hkv : k < v.size
    · have hq := HFL.out k hk
      have hb := letB_at HV.out k hkv
      have HST : Hid (fol x s (v.data.toList.take (k + 1)) = stp x (fol x s (v.data.toList.take k)) ((v[k]'hkv).toNat - 97)) := Lib.hid (by rw [byte_take v k hkv, fol_snoc])
      generalize hqq : fol x s (v.data.toList.take k) = q at *
      clear hqq
      obtain ⟨hb1, hb2⟩ := hb
      obtain ⟨l, hl⟩ : ∃ l : Nat, l = (v[k]'hkv).toNat - 97 := ⟨_, rfl⟩
      have hlk : (l : Int) < x.k := by omega
      have hcl : ((v[k]'hkv).toNat : Int) = (l : Int) + 97 := by omega
      have hix := stp_idx HX.out hq hlk
      obtain ⟨hz1, hz2⟩ := stp_lt HX.out hq hlk
      rw [← hl] at HST
      have hk8 := HX.out.2.1
      have hk1 := HX.out.1
      have hmul : (q : Int) * x.k = ((q * x.k.toNat : Nat) : Int) := by
        obtain ⟨kk, hkk⟩ := Int.eq_ofNat_of_zero_le (show 0 ≤ x.k by omega)
        rw [hkk, Int.toNat_natCast]; push_cast; rfl
      have hqk : q * x.k.toNat ≤ 40960 := by
        have : q * x.k.toNat ≤ 4096 * 10 := Nat.mul_le_mul (by omega) (by omega)
        omega
      obtain ⟨ad, hA, hcell⟩ := Kd.at_int (Kd.C_below HR.out.next H.out.2) ((q * x.k.toNat + l : Nat) : Int) (by omega) (by omega)
      rw [Int.toNat_natCast, hz2] at hcell
      have HCELL := Lib.hid hcell
      have HMUL := Lib.hid hmul
      have HCL := Lib.hid hcl
      have HSTP : Hid (stp x q l < x.acc.length) := Lib.hid hz1
      rw [hA] at H
      generalize hPP : q * x.k.toNat = P at *
      generalize stp x q l = z at *
      clear hcell hmul hz2 hl hPP hcl hz1
      go_wp2
      refine wp_region_held_drew (S := fun w' => w' = wr.drew) (by kernel_rfl) rfl (fun hS => ?_)
      have hw5 : IntKind.i64.wrap ((q : Int) * x.k) = (P : Int) := by rw [HMUL.out]; exact IntWalk.i64_in _ ⟨by omega, by omega⟩
      have hw10 : IntKind.i64.wrap (l : Int) = (l : Int) := IntWalk.i64_in _ ⟨by omega, by omega⟩
      have hw9 : IntKind.u8.wrap (((v[k]'hkv).toNat : Int) - 97) = (l : Int) := by rw [HCL.out, show (l : Int) + 97 - 97 = l by omega]; exact IntWalk.u8_in _ ⟨by omega, by omega⟩
      have hw11 : IntKind.i64.wrap ((P : Int) + (l : Int)) = (P : Int) + (l : Int) := IntWalk.i64_in _ ⟨by omega, by omega⟩
      have hw12 : 0 ≤ (P : Int) + (l : Int) ∧ (P : Int) + (l : Int) < (x.next.length : Int) := ⟨by omega, by omega⟩
      have hw13 : ((P : Int) + (l : Int)).toNat = P + l := by omega
      refine any_take (i := 0) (v := ?v2) rfl (by kernel_rfl) (by kernel_rfl) (by kernel_rfl) (fun _ _ _ h => h) hS (.inl ⟨by rfl, ?y2⟩) ?_
      case y2 => (intro w' h'; go_simp; with_reducible rfl)
      (try simp only [Act.put, List.setIfInBounds_toArray, List.set_cons_zero, List.set_cons_succ])
      refine any_take (i := 1) (v := .slice (some ad) x.next.length c) rfl (by kernel_rfl) (by kernel_rfl) (by kernel_rfl) (fun _ _ _ h => h) hS (yi_cell _ _ rfl (by rfl) ⟨w.heap.size, 1, none⟩ rfl _ Try.underlying22 rfl (fun w' h' => (by rw [h', cell_of_row _ _ _ _ _ _ (show wr.drew.heap[w.heap.size]? = _ from H.out.1)]; rfl))) ?_
      (try simp only [Act.put, List.setIfInBounds_toArray, List.set_cons_zero, List.set_cons_succ])
      refine any_take (i := 2) (v := ?v5) rfl (by kernel_rfl) (by kernel_rfl) (by kernel_rfl) (fun _ _ _ h => h) hS (.inl ⟨by rfl, ?y5⟩) ?_
      case y5 => (intro w' h'; go_simp; with_reducible rfl)
      (try simp only [Act.put, List.setIfInBounds_toArray, List.set_cons_zero, List.set_cons_succ])
      refine any_take (i := 3) (v := ?v6) rfl (by kernel_rfl) (by kernel_rfl) (by kernel_rfl) (fun _ _ _ h => h) hS (.inl ⟨by rfl, ?y6⟩) ?_
      case y6 => (intro w' h'; go_simp; with_reducible rfl)
      (try simp only [Act.put, List.setIfInBounds_toArray, List.set_cons_zero, List.set_cons_succ])
      refine any_take (i := 4) (v := .int .i64 x.k) rfl (by kernel_rfl) (by kernel_rfl) (by kernel_rfl) (fun _ _ _ h => h) hS (yi_cell _ _ rfl (by rfl) ⟨w.heap.size, 0, none⟩ rfl _ Try.underlying3 rfl (fun w' h' => (by rw [h', cell_of_row _ _ _ _ _ _ (show wr.drew.heap[w.heap.size]? = _ from H.out.1)]; rfl))) ?_
      (try simp only [Act.put, List.setIfInBounds_toArray, List.set_cons_zero, List.set_cons_succ])
      refine any_take (i := 5) (v := .int .i64 (P : Int)) rfl (by kernel_rfl) (by kernel_rfl) (by kernel_rfl) (fun _ _ _ h => h) hS (yi_val (by rfl) (fun w' h' => ?y8)) ?_
      case y8 => first | rfl | (go_simp; done) | (go_simp; omega)
      (try simp only [Act.put, List.setIfInBounds_toArray, List.set_cons_zero, List.set_cons_succ])
      refine any_take (i := 6) (v := ?v10) rfl (by kernel_rfl) (by kernel_rfl) (by kernel_rfl) (fun _ _ _ h => h) hS (.inl ⟨by rfl, ?y10⟩) ?_
      case y10 => (intro w' h'; go_simp; with_reducible rfl)
      (try simp only [Act.put, List.setIfInBounds_toArray, List.set_cons_zero, List.set_cons_succ])
      refine any_take (i := 7) (v := ?v11) rfl (by kernel_rfl) (by kernel_rfl) (by kernel_rfl) (fun _ _ _ h => h) hS (.inl ⟨by rfl, ?y11⟩) ?_
      case y11 => (intro w' h'; go_simp; with_reducible rfl)
      (try simp only [Act.put, List.setIfInBounds_toArray, List.set_cons_zero, List.set_cons_succ])
      refine any_take (i := 8) (v := .int .u8 ((v[k]'hkv).toNat : Int)) rfl (by kernel_rfl) (by kernel_rfl) (by kernel_rfl) (fun _ _ _ h => h) hS (yi_val (by rfl) (fun w' h' => ?y12)) ?_
      case y12 => first | rfl | (go_simp; done) | (go_simp; omega)
      (try simp only [Act.put, List.setIfInBounds_toArray, List.set_cons_zero, List.set_cons_succ])
      refine any_take (i := 9) (v := .int .u8 (l : Int)) rfl (by kernel_rfl) (by kernel_rfl) (by kernel_rfl) (fun _ _ _ h => h) hS (yi_val (by rfl) (fun w' h' => ?y13)) ?_
      case y13 => first | rfl | (go_simp; done) | (go_simp; omega)
      (try simp only [Act.put, List.setIfInBounds_toArray, List.set_cons_zero, List.set_cons_succ])
      refine any_take (i := 10) (v := .int .i64 (l : Int)) rfl (by kernel_rfl) (by kernel_rfl) (by kernel_rfl) (fun _ _ _ h => h) hS (yi_val (by rfl) (fun w' h' => ?y14)) ?_
      case y14 => first | rfl | (go_simp; done) | (go_simp; omega)
      (try simp only [Act.put, List.setIfInBounds_toArray, List.set_cons_zero, List.set_cons_succ])
      refine any_take (i := 11) (v := .int .i64 ((P : Int) + (l : Int))) rfl (by kernel_rfl) (by kernel_rfl) (by kernel_rfl) (fun _ _ _ h => h) hS (yi_val (by rfl) (fun w' h' => ?y15)) ?_
      case y15 => first | rfl | (go_simp; done) | (go_simp; omega)
      (try simp only [Act.put, List.setIfInBounds_toArray, List.set_cons_zero, List.set_cons_succ])
      refine any_take (i := 12) (v := .pointer (some (ad.add (P + l)))) rfl (by kernel_rfl) (by kernel_rfl) (by kernel_rfl) (fun _ _ _ h => h) hS (yi_val (by rfl) (fun w' h' => ?y16)) ?_
      case y16 => first | rfl | (go_simp; done) | (go_simp; omega)
      (try simp only [Act.put, List.setIfInBounds_toArray, List.set_cons_zero, List.set_cons_succ])
      refine any_take (i := 13) (v := .int .i64 (z : Int)) rfl (by kernel_rfl) (by kernel_rfl) (by kernel_rfl) (fun _ _ _ h => h) hS (yi_cell _ _ rfl (by rfl) (ad.add (P + l)) rfl _ Try.underlying3 rfl (fun w' h' => (by rw [h']; exact HCELL.out))) ?_
      (try simp only [Act.put, List.setIfInBounds_toArray, List.set_cons_zero, List.set_cons_succ])
      refine any_take (i := 14) (v := ?v19) rfl (by kernel_rfl) (by kernel_rfl) (by kernel_rfl) (fun _ _ _ h => h) hS (.inl ⟨by rfl, ?y19⟩) ?_
      case y19 => (intro w' h'; go_simp; with_reducible rfl)
      (try simp only [Act.put, List.setIfInBounds_toArray, List.set_cons_zero, List.set_cons_succ])
      refine wpAnyH_done (by kernel_rfl) ?_ _
      clear hS hw5 hw9 hw10 hw11 hw12 hw13
      go_wp2
      go_roundw
      case rel => exact ⟨k + 1, by omega, by go_num, by rw [HST.out], Lib.hid ⟨by rw [hA]; exact H.out.1, H.out.2.drew⟩⟩
      case measure => simp [intOf]; omega
    · have e8 : k = v.size := by omega
      subst e8
      have e9 : v.data.toList.take v.size = v.data.toList := List.take_of_length_le (by simp)
      rw [e9, HRR.out]
      go_wp2
      go_ret
      exact ⟨rfl, H.out.2⟩
section
variable {ops : Array Oper} {rest : List Oper} {o : Oper} {a : Act} {w : World} {Q : Exit → Act → World → Prop}
end
set_option maxRecDepth 100000 in
theorem letters_any (x : AutV) (A : Option Addr) (c : Nat) (B : Option Addr) (d : Nat) (v : ByteArray) (w : World) :
    Calls Try.prog 51 #[.agg (ac x A c B d), .string v] w fun e w' => e = .returned (.int .i64 (wrdE x.k v)) ∧ Below w.heap.size w w' := by
  go_enter Try.func51, Try.ntmps51
  go_wp2_with fail
  refine (word_any x.k v _).mono ?_
  rintro e w1 ⟨rfl, hb⟩
  go_wp2
  go_ret
  exact ⟨rfl, bl_then (bl_alloc (Below.refl _ _) _) hb⟩
/-- What Run answers. -/
noncomputable def runV (x : AutV) (s : Int) (v : ByteArray) : Nat := if autE x = 0 ∧ 0 ≤ s ∧ s < x.acc.length ∧ wrdE x.k v = 0 then fol x s.toNat v.data.toList else 0
noncomputable def runE (x : AutV) (s : Int) (v : ByteArray) : Int := if autE x = 0 then (if 0 ≤ s ∧ s < x.acc.length then wrdE x.k v else 11) else 80
theorem wrdE_ok {k : Int} {v : ByteArray} (h : wrdE k v = 0) : letB k v = true := by
  unfold wrdE at h
  split at h
  · cases h
  · split at h
    · assumption
    · cases h
set_option maxRecDepth 100000 in
set_option maxHeartbeats 4000000 in
theorem run_any (x : AutV) (A : Option Addr) (c : Nat) (B : Option Addr) (d : Nat) (s : Int) (v : ByteArray) (hv : v.size ≤ 4611686018427387904) (w : World) (hr : ARd w x A B) :
    Calls Try.prog 13 #[.agg (ac x A c B d), .int .i64 s, .string v] w fun e w' => e = .returned (.tuple #[.int .i64 ((runV x s v : Nat) : Int), .int .i64 (runE x s v)]) ∧ Below w.heap.size w w' := by
  have HR := Aside0.mk hr
  have HV := Lib.hid hv
  have H0 := Lib.hid (hp_new (w := w) (o := AB x A c B d) rfl)
  have HB0 := Lib.hid (bl_alloc (Below.refl w.heap.size w) (AB x A c B d))
  have CK := Aside0.mk (acheck_any x A c B d (w.alloc (AB x A c B d)) (hr.below (bl_alloc (Below.refl _ _) _)))
  clear hr hv
  by_cases h0 : autE x = 0
  · have HX := Lib.hid (autE_is h0)
    rw [h0] at CK
    by_cases h1 : 0 ≤ s ∧ s < x.acc.length
    · obtain ⟨h10, h11⟩ := h1
      have hd1 : decide (s < 0) = false := by simp; omega
      have hd2 : decide ((x.acc.length : Int) ≤ s) = false := by simp; omega
      by_cases h2 : wrdE x.k v = 0
      · have e1 : runV x s v = fol x s.toNat v.data.toList := by unfold runV; rw [if_pos ⟨h0, h10, h11, h2⟩]
        have e2 : runE x s v = 0 := by unfold runE; rw [if_pos h0, if_pos ⟨h10, h11⟩, h2]
        rw [e1, e2]
        obtain ⟨q, rfl⟩ := Int.eq_ofNat_of_zero_le h10
        rw [Int.toNat_natCast]
        have LT := Aside0.mk (letters_any x A c B d v)
        rw [h2] at LT
        have FO := Aside0.mk (fun (W : World) (hR : ARd W x A B) => follow_any x A c B d q v W hR HX.out (by omega) (wrdE_ok h2) HV.out)
        generalize fol x q v.data.toList = f at *
        clear h0 h2 e1 e2
        go_enter Try.func13, Try.ntmps13
        go_wp2_with (refine ld_au _ rfl w.heap.size rfl H0.out rfl ?_)
        refine CK.out.mono ?_
        rintro e w1 ⟨rfl, hb⟩
        have H1 := Lib.hid (hp_below' hb H0.out); have HB1 := Lib.hid (bl_then HB0.out hb)
        have c1 : w1.cell? ⟨w.heap.size, 2, none⟩ = some (.slice B x.acc.length d) := by rw [cell_of_row _ _ _ _ _ _ H1.out]; rfl
        clear hb CK
        go_wp2_with (refine ld_au _ rfl w.heap.size rfl H1.out rfl ?_)
        refine (LT.out _).mono ?_
        rintro e w2 ⟨rfl, hb⟩
        have H2 := Lib.hid (hp_below' hb H1.out); have HB2 := Lib.hid (bl_then HB1.out hb)
        clear hb LT c1
        go_wp2_with (refine ld_au _ rfl w.heap.size rfl H2.out rfl ?_)
        refine (FO.out _ (HR.out.below HB2.out)).mono ?_
        rintro e w3 ⟨rfl, hb⟩
        have HB3 := Lib.hid (bl_then HB2.out hb)
        clear hb FO
        go_wp2
        go_ret2
        exact ⟨rfl, HB3.out⟩
      · have e1 : runV x s v = 0 := by unfold runV; rw [if_neg (fun h => h2 h.2.2.2)]
        have e2 : runE x s v = wrdE x.k v := by unfold runE; rw [if_pos h0, if_pos ⟨h10, h11⟩]
        rw [e1, e2]
        have LT := Aside0.mk (letters_any x A c B d v)
        have hne : (wrdE x.k v != 0) = true := by rw [bne_iff_ne]; exact h2
        generalize wrdE x.k v = we at *
        clear h0 h2 e1 e2
        go_enter Try.func13, Try.ntmps13
        go_wp2_with (refine ld_au _ rfl w.heap.size rfl H0.out rfl ?_)
        refine CK.out.mono ?_
        rintro e w1 ⟨rfl, hb⟩
        have H1 := Lib.hid (hp_below' hb H0.out); have HB1 := Lib.hid (bl_then HB0.out hb)
        have c1 : w1.cell? ⟨w.heap.size, 2, none⟩ = some (.slice B x.acc.length d) := by rw [cell_of_row _ _ _ _ _ _ H1.out]; rfl
        clear hb CK
        go_wp2_with (refine ld_au _ rfl w.heap.size rfl H1.out rfl ?_)
        refine (LT.out _).mono ?_
        rintro e w2 ⟨rfl, hb⟩
        have HB2 := Lib.hid (bl_then HB1.out hb)
        clear hb LT c1
        go_wp2
        go_ret2
        exact ⟨rfl, HB2.out⟩
    · have e1 : runV x s v = 0 := by unfold runV; rw [if_neg (fun h => h1 ⟨h.2.1, h.2.2.1⟩)]
      have e2 : runE x s v = 11 := by unfold runE; rw [if_pos h0, if_neg h1]
      rw [e1, e2]
      clear h0 e1 e2
      have hd : (decide (s < 0) = true) ∨ (decide (s < 0) = false ∧ decide ((x.acc.length : Int) ≤ s) = true) := by
        by_cases h : s < 0
        · exact .inl (by simpa using h)
        · exact .inr ⟨by simpa using h, by simp; omega⟩
      rcases hd with hd | ⟨hd, hd2⟩
      all_goals
        go_enter Try.func13, Try.ntmps13
        go_wp2_with (refine ld_au _ rfl w.heap.size rfl H0.out rfl ?_)
        refine CK.out.mono ?_
        rintro e w1 ⟨rfl, hb⟩
        have H1 := Lib.hid (hp_below' hb H0.out); have HB1 := Lib.hid (bl_then HB0.out hb)
        have c1 : w1.cell? ⟨w.heap.size, 2, none⟩ = some (.slice B x.acc.length d) := by rw [cell_of_row _ _ _ _ _ _ H1.out]; rfl
        clear hb
        go_wp2
        go_ret2
        exact ⟨rfl, HB1.out⟩
  · have h80 : autE x = 80 := autE_no (fun h => h0 (autE_ok h))
    have e1 : runV x s v = 0 := by unfold runV; rw [if_neg (fun h => h0 h.1)]
    have e2 : runE x s v = 80 := by unfold runE; rw [if_neg h0]
    rw [h80] at CK
    rw [e1, e2]
    clear h0 h80 e1 e2
    go_enter Try.func13, Try.ntmps13
    go_wp2_with (refine ld_au _ rfl w.heap.size rfl H0.out rfl ?_)
    refine CK.out.mono ?_
    rintro e w1 ⟨rfl, hb⟩
    have HB1 := Lib.hid (bl_then HB0.out hb)
    clear hb CK
    go_wp2
    go_ret2
    exact ⟨rfl, HB1.out⟩
end Go.Proofs.Ytjckidjljkjhfaa

namespace Go.Proofs.Ytjckidjljkjhfaa
open Go.RowKit Go.Proofs.YtjckidjljkjhfaaW.PrintWords
set_option linter.unusedSimpArgs false
set_option linter.unusedVariables false
/-- What Accepts answers. -/
noncomputable def acsV (x : AutV) (v : ByteArray) : Bool := if runE x 0 v = 0 then rdOf false x.acc (runV x 0 v : Int) else false
theorem run_lt {x : AutV} {v : ByteArray} (h : runE x 0 v = 0) : autE x = 0 ∧ wrdE x.k v = 0 ∧ runV x 0 v = fol x 0 v.data.toList ∧ runV x 0 v < x.acc.length := by
  unfold runE at h
  by_cases h0 : autE x = 0
  · have hx := autE_is h0
    have hn := hx.2.2.1
    rw [if_pos h0, if_pos (by omega)] at h
    have e : runV x 0 v = fol x 0 v.data.toList := by unfold runV; rw [if_pos ⟨h0, by omega, by omega, h⟩]; rfl
    have := fol_lt hx (s := 0) (by omega) (wrdE_ok h) v.size (Nat.le_refl _)
    rw [List.take_of_length_le (by simp)] at this
    exact ⟨h0, h, e, by rw [e]; exact this⟩
  · rw [if_neg h0] at h; cases h
set_option maxRecDepth 100000 in
set_option maxHeartbeats 400000 in
theorem accepts_any (x : AutV) (A : Option Addr) (c : Nat) (B : Option Addr) (d : Nat) (v : ByteArray) (hv : v.size ≤ 4611686018427387904) (w : World) (hr : ARd w x A B) :
    Calls Try.prog 15 #[.agg (ac x A c B d), .string v] w fun e w' => e = .returned (.tuple #[.bool (acsV x v), .int .i64 (runE x 0 v)]) ∧ Below w.heap.size w w' := by
  have HR := Aside0.mk hr
  have H0 := Lib.hid ((Hp.start w).alloc (AB x A c B d))
  have RN := Aside0.mk (run_any x A c B d 0 v hv (w.alloc (AB x A c B d)) (hr.below H0.out.2))
  clear hr
  by_cases h : runE x 0 v = 0
  · obtain ⟨q1, q2, q3, h4⟩ := run_lt h
    clear q1 q2 q3
    have hA : acsV x v = rdOf false x.acc (runV x 0 v : Int) := by unfold acsV; rw [if_pos h]
    rw [hA]
    rw [h] at RN ⊢
    generalize runV x 0 v = s at *
    clear h hA
    obtain ⟨b, hbb⟩ : ∃ b, b = rdOf false x.acc (s : Int) := ⟨_, rfl⟩
    rw [← hbb]
    have HBB := Lib.hid hbb
    clear hbb
    go_enter Try.func15, Try.ntmps15
    go_wp2_with (refine ld_au _ rfl w.heap.size rfl (H0.out.at 0 rfl) rfl ?_)
    refine RN.out.mono ?_
    rintro e w1 ⟨rfl, hb⟩
    have H1 := Lib.hid (H0.out.keep hb)
    have c2 : w1.cell? ⟨w.heap.size, 2, none⟩ = some (.slice B x.acc.length d) := by rw [cell_of_row _ _ _ _ _ _ (H1.out.at 0 rfl)]; rfl
    obtain ⟨ad, hB, hcell⟩ := Kd.at_bool (HR.out.below H1.out.2).acc (s : Int) (by omega) (by omega)
    rw [Int.toNat_natCast, ← HBB.out] at hcell
    subst hB
    clear hb RN H0
    go_wp2
    go_ret2
    exact ⟨rfl, H1.out.2⟩
  · have hA : acsV x v = false := by unfold acsV; rw [if_neg h]
    rw [hA]
    have hb1 : (runE x 0 v == 0) = false := by rw [beq_eq_false_iff_ne]; exact h
    generalize runE x 0 v = r at *
    clear hA
    go_enter Try.func15, Try.ntmps15
    go_wp2_with (refine ld_au _ rfl w.heap.size rfl (H0.out.at 0 rfl) rfl ?_)
    refine RN.out.mono ?_
    rintro e w1 ⟨rfl, hb⟩
    have H1 := Lib.hid (H0.out.keep hb)
    clear hb RN H0
    go_wp2
    go_ret2
    exact ⟨rfl, H1.out.2⟩
end Go.Proofs.Ytjckidjljkjhfaa

namespace Go.Proofs.Ytjckidjljkjhfaa
section
variable {σ : Type} [DecidableEq σ] {k : Nat} {step : σ → Nat → σ} {first : σ}
/-- Found at place i, with none found ahead of it: the answer, wherever the search closes. -/
theorem fnd_at (hk : 0 < k) {good : σ → Bool} {n i m : Nat} (h : Closed k step first n) {w : List Nat} (hi : (bw k step first m)[i]? = some w) (hg : good (rn step first w) = true)
    (hb : ∀ j, j < i → ∀ u, (bw k step first m)[j]? = some u → good (rn step first u) = false) : fnd k step first good n = some w := by
  have hall : ∀ j u, (bw k step first m)[j]? = some u → (bw k step first (n * k))[j]? = some u := fun j u hj => by
    by_cases hm : m ≤ n * k
    · exact bw_keep hm hj
    · rw [bw_stay hk (Nat.le_of_eq h) (by omega)] at hj
      exact hj
  have hwi := hall i w hi
  obtain ⟨hlt, he⟩ := List.getElem?_eq_some_iff.1 hwi
  have him := (List.getElem?_eq_some_iff.1 hi).1
  refine List.find?_eq_some_iff_getElem.2 ⟨hg, i, hlt, he, fun j hj => ?_⟩
  have hjm : j < (bw k step first m).length := by omega
  have hj1 := List.getElem?_eq_getElem hjm
  have hj2 := hall j _ hj1
  have hj3 := (List.getElem?_eq_some_iff.1 hj2).2
  rw [hj3, hb j hj _ hj1]
  rfl
/-- None found at the search's end: none. -/
theorem fnd_end {good : σ → Bool} {n : Nat} (h : Closed k step first n) (hb : ∀ j, j < n → ∀ u, (bw k step first (n * k))[j]? = some u → good (rn step first u) = false) : fnd k step first good n = none := by
  refine List.find?_eq_none.2 fun u hu => ?_
  obtain ⟨j, hj⟩ := List.mem_iff_getElem?.1 hu
  have hjl := (List.getElem?_eq_some_iff.1 hj).1
  rw [h] at hjl
  rw [hb j hjl u hj]
  simp
end
/-- A word as bytes. -/
def wb (l : List Nat) : ByteArray := ⟨(l.map fun c => UInt8.ofNat (97 + c)).toArray⟩
theorem wb_snoc (l : List Nat) (c : Nat) : wb (l ++ [c]) = wb l ++ ⟨#[UInt8.ofNat (97 + c)]⟩ := by
  apply ByteArray.ext
  simp [wb]
theorem wb_size (l : List Nat) : (wb l).size = l.length := by simp [wb, ByteArray.size]
end Go.Proofs.Ytjckidjljkjhfaa

namespace Go.Proofs.Ytjckidjljkjhfaa
open Go.Proofs.YtjckidjljkjhfaaW.PrintWords
def plainV : AutV := ⟨2, [1, 0, 1, 1], [true, false]⟩
theorem plain_ok : AutOk plainV := by
  refine ⟨by decide, by decide, by decide, by decide, by decide, fun i hi => ?_⟩
  have : i = 0 ∨ i = 1 ∨ i = 2 ∨ i = 3 := by simp [plainV] at hi; omega
  rcases this with rfl | rfl | rfl | rfl <;> decide
theorem not_plain : fromV plainV 0 (fun s => !rdOf false plainV.acc (s : Int)) = ⟨2, [1, 0, 1, 1], [false, true]⟩ := by
  have hc : Closed 2 (stp plainV) 0 2 := by unfold Closed; decide +kernel
  obtain ⟨e1, e2⟩ := sr_of_closed (k := 2) (by decide) (n := 2) (by decide) hc
  have h0 : srE 2 (stp plainV) 0 = 0 := by unfold srE; rw [e2]; rfl
  unfold fromV
  rw [if_pos (autE_ok plain_ok), show plainV.k.toNat = 2 from rfl, srV_ok _ h0, e2, e1]
  have n1 : (nx 2 (stp plainV) 0 (2 * 2)).map (fun (n : Nat) => (n : Int)) = [1, 0, 1, 1] := by decide +kernel
  have n2 : (bs 2 (stp plainV) 0 (2 * 2)).map (fun (s : Nat) => !rdOf false plainV.acc (s : Int)) = [false, true] := by decide +kernel
  rw [n1, n2]
  rfl
end Go.Proofs.Ytjckidjljkjhfaa

namespace Go.Proofs.Ytjckidjljkjhfaa
open Go.Proofs.YtjckidjljkjhfaaW.PrintWords
theorem run_plain : runV plainV 0 ⟨#[98, 98, 97]⟩ = 1 ∧ runE plainV 0 ⟨#[98, 98, 97]⟩ = 0 := by
  have hw : wrdE plainV.k ⟨#[98, 98, 97]⟩ = 0 := by decide +kernel
  have h0 := autE_ok plain_ok
  constructor
  · unfold runV
    rw [if_pos ⟨h0, by decide, by decide, hw⟩]
    decide +kernel
  · unfold runE
    rw [if_pos h0, if_pos ⟨by decide, by decide⟩, hw]
end Go.Proofs.Ytjckidjljkjhfaa

namespace Go.Proofs.Ytjckidjljkjhfaa
open Go.RowKit Go.Proofs.YtjckidjljkjhfaaW.PrintWords
set_option linter.unusedSimpArgs false
set_option linter.unusedVariables false
/-- A word of letters as a text. -/
def encW (l : List Nat) : Value := .string (wb l)
/-- Lists of words. -/
abbrev wdK : Kd (List Nat) := Kd.scalar encW (fun _ => rfl)
/-- Is a state accepted? -/
abbrev gdA (x : AutV) (s : Nat) : Bool := rdOf false x.acc (s : Int)
/-- The least word. -/
def lstO (x : AutV) : Option (List Nat) := fnd x.k.toNat (stp x) 0 (gdA x) 4096
noncomputable def lstB (x : AutV) : Bool := if autE x = 0 then (lstO x).isSome else false
noncomputable def lstS (x : AutV) : ByteArray := if autE x = 0 then wb ((lstO x).getD []) else ByteArray.empty
/-- The marks of the states met. -/
def mtl (x : AutV) (k m : Nat) : List Bool := (List.range x.acc.length).map fun s => decide (s ∈ bs k (stp x) 0 m)
theorem mtl_len (x : AutV) (k m : Nat) : (mtl x k m).length = x.acc.length := by simp [mtl]
theorem mtl_get (x : AutV) (k m s : Nat) (h : s < x.acc.length) : (mtl x k m).getD s false = decide (s ∈ bs k (stp x) 0 m) := by
  simp [mtl, List.getD_eq_getElem?_getD, h]
theorem mtl_set {x : AutV} {k m m' s : Nat} (h : bs k (stp x) 0 m' = bs k (stp x) 0 m ++ [s]) : (mtl x k m).set s true = mtl x k m' := by
  apply List.ext_getElem (by simp [mtl])
  intro i h1 h2
  simp only [mtl, List.getElem_set, List.getElem_map, List.getElem_range, h, List.mem_append, List.mem_singleton]
  by_cases e : s = i
  · subst e; simp
  · rw [if_neg e]
    have : ¬ i = s := fun he => e he.symm
    simp [this]
theorem mtl_zero (x : AutV) (k : Nat) : (List.replicate x.acc.length false).set 0 true = mtl x k 0 := by
  apply List.ext_getElem (by simp [mtl])
  intro i h1 h2
  simp only [mtl, List.getElem_set, List.getElem_replicate, List.getElem_map, List.getElem_range, bs, bw, rn, List.map_cons, List.map_nil, List.foldl_nil, List.mem_singleton]
  by_cases e : 0 = i
  · subst e; simp
  · rw [if_neg e]
    have : ¬ i = 0 := fun he => e he.symm
    simp [this]
theorem mtl_keep {x : AutV} {k m m' : Nat} (h : bs k (stp x) 0 m' = bs k (stp x) 0 m) : mtl x k m' = mtl x k m := by unfold mtl; rw [h]
/-- One letter of one place's word. -/
theorem bw_step {σ : Type} [DecidableEq σ] {k : Nat} {step : σ → Nat → σ} {first : σ} {i c : Nat} {wd : List Nat} (hc : c < k) (hi : (bw k step first (i * k + c))[i]? = some wd) :
    bw k step first (i * k + (c + 1)) = if step (rn step first wd) c ∈ bs k step first (i * k + c) then bw k step first (i * k + c) else bw k step first (i * k + c) ++ [wd ++ [c]] := by
  have e1 : (i * k + c) / k = i := by rw [Nat.add_comm, Nat.add_mul_div_right _ _ (by omega), Nat.div_eq_of_lt hc, Nat.zero_add]
  have e2 : (i * k + c) % k = c := by rw [Nat.add_comm, Nat.add_mul_mod_self_right, Nat.mod_eq_of_lt hc]
  have h1 := bw_some (k := k) (step := step) (first := first) (m := i * k + c) (w := wd) (by rw [e1]; exact hi)
  rw [e2, rn_snoc] at h1
  exact h1
theorem bs_of_bw {σ : Type} [DecidableEq σ] {k : Nat} {step : σ → Nat → σ} {first : σ} {m m' : Nat} {wd : List Nat} (h : bw k step first m' = bw k step first m ++ [wd]) : bs k step first m' = bs k step first m ++ [rn step first wd] := by
  unfold bs; rw [h, List.map_append]; rfl
theorem fnd_stay {σ : Type} [DecidableEq σ] {k : Nat} {step : σ → Nat → σ} {first : σ} (hk : 0 < k) (good : σ → Bool) {n N : Nat} (h : Closed k step first n) (hn : n ≤ N) : fnd k step first good N = fnd k step first good n := by
  unfold fnd; rw [bw_stay hk (Nat.le_of_eq h) (Nat.mul_le_mul_right k hn)]
/-- Where Least stands. -/
structure LeS (x : AutV) (k : Nat) (A : Option Addr) (c : Nat) (B : Option Addr) (d : Nat) (w wr : World) (mb mc : Nat) (v u : Value) (m m2 : Nat) : Prop where
  box : wr.heap[w.heap.size]? = some (AB x A c B d)
  met : Kd.R Kd.bool 4 wr w.heap.size (fun _ => True) (.slice (some ⟨mb, 0, none⟩) x.acc.length mc) (mtl x k m2)
  lst : Kd.R natK 3 wr w.heap.size (fun _ => True) v (bs k (stp x) 0 m)
  wds : Kd.R wdK 9 wr w.heap.size (fun _ => True) u (bw k (stp x) 0 m)
  bel : Below w.heap.size w wr
  mbb : w.heap.size ≤ mb
section
variable {x : AutV} {k : Nat} {A : Option Addr} {c : Nat} {B : Option Addr} {d : Nat} {w wr : World} {mb mc : Nat} {v u : Value} {m m2 : Nat}
theorem LeS.drewN (h : LeS x k A c B d w wr mb mc v u m m2) (n : Nat) : LeS x k A c B d w (wr.drewN n) mb mc v u m m2 := ⟨h.box, Kd.R_drewN h.met n, Kd.R_drewN h.lst n, Kd.R_drewN h.wds n, bl_drewN h.bel n, h.mbb⟩
theorem LeS.drew (h : LeS x k A c B d w wr mb mc v u m m2) : LeS x k A c B d w wr.drew mb mc v u m m2 := ⟨h.box, Kd.R_drewN h.met 1, Kd.R_drewN h.lst 1, Kd.R_drewN h.wds 1, h.bel.drew, h.mbb⟩
theorem LeS.stay (h : LeS x k A c B d w wr mb mc v u m m) {m' : Nat} (hb : bw k (stp x) 0 m' = bw k (stp x) 0 m) : LeS x k A c B d w wr mb mc v u m' m' := by
  have hs : bs k (stp x) 0 m' = bs k (stp x) 0 m := by unfold bs; rw [hb]
  exact ⟨h.box, by rw [mtl_keep hs]; exact h.met, by rw [hs]; exact h.lst, by rw [hb]; exact h.wds, h.bel, h.mbb⟩
theorem LeS.mark (h : LeS x k A c B d w wr mb mc v u m m) {m' s : Nat} (hs : bs k (stp x) 0 m' = bs k (stp x) 0 m ++ [s]) : LeS x k A c B d w (wr.setCell ⟨mb, s, none⟩ (.bool true)) mb mc v u m m' := by
  have hne : mb ≠ w.heap.size := fun he => Kd.R_ne h.met h.box (by decide) (by rw [he]; rfl)
  have hp := (Kd.R_putn h.met (s : Int) true)
  rw [Int.toNat_natCast, mtl_set hs] at hp
  exact ⟨(heap_setCell_other _ _ _ _ (fun e => hne e.symm)).trans h.box, hp, own_cellS h.lst (sep_type h.lst h.met (by decide)) rfl _ _, own_cellS h.wds (sep_type h.wds h.met (by decide)) rfl _ _, bl_cell h.bel (show w.heap.size ≤ (⟨mb, s, none⟩ : Addr).block from h.mbb) _, h.mbb⟩
theorem LeS.both (h : LeS x k A c B d w wr mb mc v u m m2) {lb i : Nat} {cv v1 u1 : Value} {w1 : World} {s : Nat} {wd : List Nat} (hb : bw k (stp x) 0 m2 = bw k (stp x) 0 m ++ [wd]) (hw : rn (stp x) 0 wd = s)
    (hm : Mid encI (fun _ => rfl) 3 encW (fun _ => rfl) 9 w wr v u lb i cv v1 (bs k (stp x) 0 m ++ [s]) u1 (bw k (stp x) 0 m ++ [wd]) w1) : LeS x k A c B d w w1 mb mc v1 u1 m2 m2 := by
  have hs : bs k (stp x) 0 m2 = bs k (stp x) 0 m ++ [s] := by rw [bs_of_bw hb, hw]
  refine ⟨(hm.off.2 _ (hp_lt h.box) (Kd.R_ne h.lst h.box (by decide)) (Kd.R_ne h.wds h.box (by decide))).trans h.box, ?_, by rw [hs]; exact hm.A, by rw [hb]; exact hm.B, hm.bel, h.mbb⟩
  exact R_flat rfl (Kd.R_move (R_flat (ok' := fun k => (Value.slice (some ⟨mb, 0, none⟩) x.acc.length mc).ownBlock = some k) rfl h.met (fun k hk => hk)) (fun q hq => hm.off.2 q (Kd.R_lt h.met q hq) (fun e => sep_type h.met h.lst (by decide) q hq e.symm) (fun e => sep_type h.met h.wds (by decide) q hq e.symm))) h.met.1
end
theorem conv_rune (w : World) (c : Nat) (h : c < 8) : (convert 21 9 (.int .i32 (97 + c))).run Try.prog w = .ok (.string ⟨#[UInt8.ofNat (97 + c)]⟩) w := by
  have hc : c = 0 ∨ c = 1 ∨ c = 2 ∨ c = 3 ∨ c = 4 ∨ c = 5 ∨ c = 6 ∨ c = 7 := by omega
  simp only [convert, Sem.run_bind, run_underlying Try.underlying21, run_underlying Try.underlying9, Result.andThen_ok, Conv.intToString]
  rcases hc with rfl | rfl | rfl | rfl | rfl | rfl | rfl | rfl <;> rfl
set_option maxRecDepth 100000 in
set_option maxHeartbeats 1600000 in
theorem least_any (x : AutV) (A : Option Addr) (c : Nat) (B : Option Addr) (d : Nat) (w : World) (hr : ARd w x A B) :
    Calls Try.prog 22 #[.agg (ac x A c B d)] w fun e w' => e = .returned (.tuple #[.string (lstS x), .bool (lstB x), .int .i64 (autE x)]) ∧ Below w.heap.size w w' := by
  have HR := Aside0.mk hr
  have h00 := (Hp.start w).alloc (AB x A c B d)
  have H0 := Lib.hid h00
  clear h00
  have CK := Aside0.mk (acheck_any x A c B d (w.alloc (AB x A c B d)) (hr.below H0.out.2))
  by_cases h0 : autE x = 0
  · have hx := autE_is h0
    have HX := Lib.hid hx
    have eS : lstS x = wb ((lstO x).getD []) := by unfold lstS; rw [if_pos h0]
    have eB : lstB x = (lstO x).isSome := by unfold lstB; rw [if_pos h0]
    rw [eS, eB]
    rw [h0] at CK ⊢
    obtain ⟨hk1, hk2, hn1, hn2, hnl, hn6⟩ := hx
    obtain ⟨k, hk⟩ : ∃ k : Nat, x.k = (k : Int) := Int.eq_ofNat_of_zero_le (by omega)
    have HK := Lib.hid hk
    have hkn : x.k.toNat = k := by omega
    have HKN := Lib.hid hkn
    clear eS eB h0 hr hnl hkn hn6
    go_enter Try.func22, Try.ntmps22
    go_wp2_with (refine ld_au _ rfl w.heap.size rfl (H0.out.at 0 rfl) rfl ?_)
    refine CK.out.mono ?_
    rintro e w1 ⟨rfl, hb⟩
    have H1 := Lib.hid (H0.out.keep hb)
    clear hb CK H0
    have c2 : w1.cell? ⟨w.heap.size, 2, none⟩ = some (.slice B x.acc.length d) := by rw [cell_of_row _ _ _ _ _ _ (H1.out.at 0 rfl)]; rfl
    go_wp2_with (refine Kd.R_make Kd.bool (w0 := w) w.heap.size 4 rfl rfl 23 _ _ rfl (x.acc.length : Int) rfl rfl Try.underlying23 (.bool false) 1 info_bool rfl (by decide) (by decide) false (ok := fun _ => True) (okp := fun _ => False) rfl (fun _ h => h.elim) trivial (by omega) (by omega) H1.out.2 H1.out.2.size ?_)
    rintro v1 w2 hm hb hg b0 hb1 hb2
    obtain ⟨mb, mc, rfl, hmb, hmbs, hmcell⟩ := own_form false hm (by rw [List.length_replicate]; omega)
    obtain ⟨q1, q2⟩ := hmcell 0 (by rw [List.length_replicate]; omega)
    have hput := (Kd.R_put hm 0 true).1
    rw [Int.toNat_zero, mtl_zero x k] at hput
    have hmt : (List.replicate x.acc.length false).length = x.acc.length := by simp
    rw [hmt] at hput
    have hlen : (List.replicate x.acc.length false).length = x.acc.length := by simp
    have HPT := Lib.hid hput
    have hbx : w2.heap[w.heap.size]? = some (AB x A c B d) := (hg.block _ (hp_lt (H1.out.at 0 rfl)) (by simp)).trans (H1.out.at 0 rfl)
    have hmne : mb ≠ w.heap.size := fun he => by
      have := Kd.R_ne hm hbx (by decide)
      exact this (by rw [he]; rfl)
    have HBX := Lib.hid (show (w2.setCell ⟨mb, 0, none⟩ (.bool true)).heap[w.heap.size]? = some (AB x A c B d) from (heap_setCell_other _ _ _ _ (fun e => hmne e.symm)).trans hbx)
    have HBL := Lib.hid (bl_cell hb (show w.heap.size ≤ (⟨mb, 0, none⟩ : Addr).block from hmb) (.bool true))
    have q3 : ((0 : Int) < ((List.replicate x.acc.length false).length : Int)) := by rw [hlen]; omega
    rw [hlen]
    clear hput hg hb hm hmcell hbx hmne c2 H1 hb1 hb2 b0
    go_wp2
    have hz3 : (w2.setCell ⟨mb, 0, none⟩ (.bool true)).heap.size = w2.heap.size := by simp
    have HZ3 := Lib.hid hz3
    clear hz3
    generalize w2.setCell ⟨mb, 0, none⟩ (.bool true) = w3 at *
    have SI : Hid (LeS x k A c B d w ((w3.alloc (.cells #[.int .i64 0] 3)).alloc (.cells #[.string ByteArray.empty] 9)) mb mc (.slice (some ⟨w3.heap.size, 0, none⟩) 1 1) (.slice (some ⟨w3.heap.size + 1, 0, none⟩) 1 1) (0 * k) (0 * k)) := by
      rw [Nat.zero_mul]
      have e0 : bs k (stp x) 0 0 = [0] := rfl
      have e1 : bw k (stp x) 0 0 = [[]] := rfl
      have g1 := World.grownBy_alloc w3 (.cells #[.int .i64 0] 3) none
      have g2 := World.grownBy_alloc (w3.alloc (.cells #[.int .i64 0] 3)) (.cells #[.string ByteArray.empty] 9) none
      refine ⟨hp_old (hp_old HBX.out), Kd.R_grown (Kd.R_grown HPT.out g1 (fun _ _ => by simp)) g2 (fun _ _ => by simp), ?_, ?_, bl_alloc (bl_alloc HBL.out _) _, hmb⟩
      · rw [e0]
        refine Kd.R_of_own ⟨by simp [encs], .inr ⟨w3.heap.size, 1, _, rfl, HBL.out.size, hp_old (hp_new rfl), Nat.le_refl _, by unfold maxLen; omega, rfl, rfl⟩⟩ (fun _ _ => trivial)
      · rw [e1]
        refine Kd.R_of_own ⟨by simp [encs], .inr ⟨w3.heap.size + 1, 1, _, rfl, by have := HBL.out.size; omega, by rw [← World.size_alloc w3 (.cells #[.int .i64 0] 3)]; exact hp_new rfl, Nat.le_refl _, by unfold maxLen; omega, rfl, rfl⟩⟩ (fun _ _ => trivial)
    rw [HZ3.out] at SI
    have hk0 : 0 < k := by omega
    have HD : Hid (∀ m, ∀ s ∈ bs k (stp x) 0 m, s < x.acc.length) := Lib.hid (fun m => bs_all hk0 (fun s => s < x.acc.length) (by omega) (fun s c hs hc => (stp_lt HX.out hs (by omega)).1) m)
    have HLN : Hid (∀ m, (bs k (stp x) 0 m).length ≤ x.acc.length) := Lib.hid (fun m => nodup_le (bs_nodup m) (HD.out m))
    have HFE : Hid (∀ n, Closed k (stp x) 0 n → lstO x = fnd k (stp x) 0 (gdA x) n) := Lib.hid (fun n hn => by
      unfold lstO
      rw [HKN.out]
      refine fnd_stay hk0 _ hn ?_
      have h1 := HLN.out (n * k)
      rw [bs_len, hn] at h1
      omega)
    clear HBX HPT HBL hmb hmbs q1 q2 q3 hmt hlen
    go_loopw [7, 8, 9] (fun v u i wr => ∃ q : Nat, i = .int .i64 q ∧ Hid (q ≤ (bs k (stp x) 0 (q * k)).length) ∧ Hid (∀ j, j < q → ∀ s, (bs k (stp x) 0 (q * k))[j]? = some s → gdA x s = false) ∧ Hid (LeS x k A c B d w wr mb mc v u (q * k) (q * k))) (fun _ _ i _ => 4097 - (intOf i).toNat)
    case atStart => exact ⟨0, rfl, Lib.hid (Nat.zero_le _), Lib.hid (fun j hj => absurd hj (Nat.not_lt_zero j)), SI⟩
    case round =>
      obtain ⟨i, rfl, HQ, HN, H⟩ := hrel
      have hq := HQ.out
      have hql := HLN.out (i * k)
      obtain ⟨lb, lc, rfl, hlb, hlbs, hlcell⟩ := own_form (0 : Nat) H.out.lst (by rw [bs_len]; exact bw_len_pos _)
      obtain ⟨ub, uc, rfl, hub, hubs, hucell⟩ := own_form ([] : List Nat) H.out.wds (bw_len_pos _)
      by_cases hil : i < (bs k (stp x) 0 (i * k)).length
      · have hil2 : i < (bw k (stp x) 0 (i * k)).length := by rw [← bs_len]; exact hil
        obtain ⟨wd, hwd⟩ : ∃ wd, (bw k (stp x) 0 (i * k))[i]? = some wd := ⟨_, List.getElem?_eq_getElem hil2⟩
        obtain ⟨s, hs⟩ : ∃ s, s = rn (stp x) 0 wd := ⟨_, rfl⟩
        have hbs : (bs k (stp x) 0 (i * k))[i]? = some s := by rw [bs_get, hwd, hs]; rfl
        have hsd := HD.out _ s (List.mem_of_getElem? hbs)
        have cl1 := (hlcell i hil).1
        rw [List.getD_eq_getElem?_getD, hbs] at cl1
        replace cl1 : wr.cell? ⟨lb, i, none⟩ = some (.int .i64 (s : Int)) := cl1
        have cu1 := (hucell i hil2).1
        rw [List.getD_eq_getElem?_getD, hwd] at cu1
        replace cu1 : wr.cell? ⟨ub, i, none⟩ = some (.string (wb wd)) := cu1
        have c2 : wr.cell? ⟨w.heap.size, 2, none⟩ = some (.slice B x.acc.length d) := by rw [cell_of_row _ _ _ _ _ _ H.out.box]; rfl
        obtain ⟨ad, hB, hcell⟩ := Kd.at_bool (HR.out.below H.out.bel).acc (s : Int) (by omega) (by omega)
        rw [Int.toNat_natCast] at hcell
        obtain ⟨b, hb⟩ : ∃ b, b = gdA x s := ⟨_, rfl⟩
        replace hcell : wr.cell? (ad.add s) = some (.bool b) := by rw [hb]; exact hcell
        have HWD := Lib.hid hwd; have HS := Lib.hid hs; have HBS := Lib.hid hbs; have HBB := Lib.hid hb
        have hull : (bw k (stp x) 0 (i * k)).length = (bs k (stp x) 0 (i * k)).length := (bs_len _).symm
        rw [hull] at hil2 ⊢
        have HANS : Hid (b = false ∨ lstO x = some wd) := Lib.hid (by
          by_cases hbf : b = false
          · exact .inl hbf
          have hbt : b = true := by simpa using hbf
          right
          obtain ⟨n, _, hn⟩ := closed_of HLN.out
          rw [HFE.out n hn]
          refine fnd_at hk0 hn (m := i * k) hwd (by rw [← hs, ← hb]; exact hbt) (fun j hj u hu => HN.out j hj _ ?_)
          rw [bs_get, hu]; rfl)
        clear hwd hs hbs hb hlcell hucell
        generalize hL : (bs k (stp x) 0 (i * k)).length = L at *
        have HL := Lib.hid hL
        clear hL
        subst hB
        cases b
        · have c0 : wr.cell? ⟨w.heap.size, 0, none⟩ = some (.int .i64 (k : Int)) := by rw [cell_of_row _ _ _ _ _ _ H.out.box, ← HK.out]; rfl
          go_wp2
          go_quiet (fail)
          have G := Lib.hid (H.out.drewN nq)
          go_wp2
          generalize wr.drewN nq = w5 at *
          rw [hull] at G
          clear c0 c2 cl1 cu1 hcell H
          go_loopw [7, 8, 45] (fun v u l wi => ∃ c' : Nat, c' ≤ k ∧ l = .int .i64 c' ∧ Hid (LeS x k A c (some ad) d w wi mb mc v u (i * k + c') (i * k + c'))) (fun _ _ l _ => k - (intOf l).toNat)
          case atStart => exact ⟨0, by omega, rfl, G⟩
          case round =>
            obtain ⟨c', hc, rfl, G⟩ := hrel
            by_cases hck : c' < k
            · have hwq : (bw k (stp x) 0 (i * k + c'))[i]? = some wd := bw_keep (Nat.le_add_right _ _) HWD.out
              have hsq : (bs k (stp x) 0 (i * k + c'))[i]? = some s := bs_keep (Nat.le_add_right _ _) HBS.out
              have hll := HLN.out (i * k + c')
              have hbl2 : (bs k (stp x) 0 (i * k + c')).length = (bw k (stp x) 0 (i * k + c')).length := bs_len _
              obtain ⟨lb2, lc2, rfl, hlb2, hlbs2, hlcell2⟩ := own_form (0 : Nat) G.out.lst (by rw [bs_len]; exact bw_len_pos _)
              obtain ⟨ub2, uc2, rfl, hub2, hubs2, hucell2⟩ := own_form ([] : List Nat) G.out.wds (bw_len_pos _)
              have hi2 := (List.getElem?_eq_some_iff.1 hsq).1
              have hi3 := (List.getElem?_eq_some_iff.1 hwq).1
              have cl1 := (hlcell2 i hi2).1
              rw [List.getD_eq_getElem?_getD, hsq] at cl1
              replace cl1 : wr.cell? ⟨lb2, i, none⟩ = some (.int .i64 (s : Int)) := cl1
              have cu1 := (hucell2 i hi3).1
              rw [List.getD_eq_getElem?_getD, hwq] at cu1
              replace cu1 : wr.cell? ⟨ub2, i, none⟩ = some (.string (wb wd)) := cu1
              have c0 : wr.cell? ⟨w.heap.size, 0, none⟩ = some (.int .i64 (k : Int)) := by rw [cell_of_row _ _ _ _ _ _ G.out.box, ← HK.out]; rfl
              have c1 : wr.cell? ⟨w.heap.size, 1, none⟩ = some (.slice A x.next.length c) := by rw [cell_of_row _ _ _ _ _ _ G.out.box]; rfl
              have hck3 : (c' : Int) < x.k := by omega
              obtain ⟨z1, z2⟩ := stp_lt HX.out hsd hck3
              have hix := stp_idx HX.out hsd hck3
              have hxl : x.next.length ≤ 32768 := by
                have h1 := aut_mul hk1 hk2 hn2
                have h2 := HX.out.2.2.2.2.1
                omega
              obtain ⟨ad2, hA, hcell⟩ := Kd.at_int (HR.out.below G.out.bel).next ((s * x.k.toNat + c' : Nat) : Int) (by omega) (by omega)
              rw [Int.toNat_natCast, z2] at hcell
              rw [HKN.out] at hcell hix
              obtain ⟨t, ht⟩ : ∃ t, t = stp x s c' := ⟨_, rfl⟩
              rw [← ht] at hcell z1
              have hml : (mtl x k (i * k + c')).length = x.acc.length := mtl_len _ _ _
              obtain ⟨hm1, hm2⟩ := Kd.R_celln false G.out.met (t : Int) (by omega) (by omega)
              unfold rdOf at hm1
              rw [Int.toNat_natCast, mtl_get x k _ t z1] at hm1
              rw [Int.toNat_natCast] at hm2
              have htw : stp x (rn (stp x) 0 wd) c' = t := by rw [ht, ← HS.out]
              have hbwn := bw_step (step := stp x) hck hwq
              rw [htw] at hbwn
              have hmul : (s : Int) * (k : Int) = ((s * k : Nat) : Int) := by push_cast; rfl
              have hP : s * k ≤ 40960 := by
                have : s * k ≤ 4096 * 10 := Nat.mul_le_mul (by omega) (by omega)
                omega
              have HMUL := Lib.hid hmul
              have htw2 : stp x (rn (stp x) 0 wd) c' = t := htw
              clear hmul ht htw hlcell2 hucell2 hsq hck3 z2 hml
              generalize s * k = p at *
              subst hA
              have hw5 : IntKind.i64.wrap ((s : Int) * (k : Int)) = (p : Int) := by rw [HMUL.out]; exact IntWalk.i64_in _ ⟨by omega, by omega⟩
              have hw11 : IntKind.i64.wrap ((p : Int) + (c' : Int)) = (p : Int) + (c' : Int) := IntWalk.i64_in _ ⟨by omega, by omega⟩
              have hw12 : 0 ≤ (p : Int) + (c' : Int) := by omega
              have hw14 : (p : Int) + (c' : Int) < (x.next.length : Int) := by omega
              have hw13 : ((p : Int) + (c' : Int)).toNat = p + c' := by omega
              by_cases hm : t ∈ bs k (stp x) 0 (i * k + c')
              · rw [decide_eq_true hm] at hm1
                rw [if_pos hm] at hbwn
                have G2 := Lib.hid (G.out.stay hbwn)
                clear hbwn hm hwq
                go_wp2
                go_quiet (fail)
                go_wp2
                go_roundw
                case rel => exact ⟨c' + 1, by omega, by go_num, Lib.hid (G2.out.drewN _)⟩
                case measure => simp [intOf]; omega
              · rw [decide_eq_false hm] at hm1
                rw [if_neg hm] at hbwn
                have HTW : Hid (rn (stp x) 0 (wd ++ [c']) = t) := Lib.hid (by rw [rn_snoc]; exact htw2)
                have hbsn := bs_of_bw hbwn
                rw [HTW.out] at hbsn
                have HBW := Lib.hid hbwn; have HBN := Lib.hid hbsn
                have hlbw : (bw k (stp x) 0 (i * k + c')).length ≤ 4096 := by omega
                clear hm hwq hbwn hbsn htw2 hbl2
                go_wp2
                go_quiet (fail)
                have G2 := Lib.hid (G.out.drewN nq)
                go_wp2
                have G3 := Lib.hid (G2.out.mark HBN.out)
                have cu2 : ((wr.drewN nq).setCell ⟨mb, t, none⟩ (.bool true)).cell? ⟨ub2, i, none⟩ = some (.string (wb wd)) := by
                  rw [World.cell?_setCell_other]
                  · exact cu1
                  · intro e
                    injection e with e _
                    exact sep_type G2.out.wds G2.out.met (by decide) ub2 rfl (by rw [← e]; rfl)
                clear G G2 c0 c1 cl1 cu1 hcell hm1 hm2
                generalize (wr.drewN nq).setCell ⟨mb, t, none⟩ (.bool true) = w6 at *
                have G4 := Lib.hid G3.out.drew
                have CU := Lib.hid cu2
                have hw97 : IntKind.i64.wrap (97 + (c' : Int)) = 97 + (c' : Int) := IntWalk.i64_in _ ⟨by omega, by omega⟩
                have hw98 : IntKind.i32.wrap (97 + (c' : Int)) = 97 + (c' : Int) := by
                  have := (show c' = 0 ∨ c' = 1 ∨ c' = 2 ∨ c' = 3 ∨ c' = 4 ∨ c' = 5 ∨ c' = 6 ∨ c' = 7 by omega)
                  rcases this with rfl | rfl | rfl | rfl | rfl | rfl | rfl | rfl <;> rfl
                refine wp_region_held_drew (S := fun w' => w'.cell? ⟨ub2, i, none⟩ = some (.string (wb wd))) (by kernel_rfl) cu2 (fun hS => ?_)
                refine any_take (i := 0) (v := ?v3) rfl (by kernel_rfl) (by kernel_rfl) (by kernel_rfl) (fun _ _ _ h => h) hS (.inl ⟨by rfl, ?y3⟩) ?_
                case y3 => (intro w' h'; go_simp; with_reducible rfl)
                (try simp only [Act.put, List.setIfInBounds_toArray, List.set_cons_zero, List.set_cons_succ])
                refine any_take (i := 1) (v := ?v4) rfl (by kernel_rfl) (by kernel_rfl) (by kernel_rfl) (fun _ _ _ h => h) hS (.inl ⟨by rfl, ?y4⟩) ?_
                case y4 => (intro w' h'; go_simp; with_reducible rfl)
                (try simp only [Act.put, List.setIfInBounds_toArray, List.set_cons_zero, List.set_cons_succ])
                refine any_take (i := 4) (v := ?v5) rfl (by kernel_rfl) (by kernel_rfl) (by kernel_rfl) (fun _ _ _ h => h) hS (.inl ⟨by rfl, ?y5⟩) ?_
                case y5 => (intro w' h'; go_simp; with_reducible rfl)
                (try simp only [Act.put, List.setIfInBounds_toArray, List.set_cons_zero, List.set_cons_succ])
                refine any_take (i := 5) (v := ?v6) rfl (by kernel_rfl) (by kernel_rfl) (by kernel_rfl) (fun _ _ _ h => h) hS (.inl ⟨by rfl, ?y6⟩) ?_
                case y6 => (intro w' h'; go_simp; with_reducible rfl)
                (try simp only [Act.put, List.setIfInBounds_toArray, List.set_cons_zero, List.set_cons_succ])
                refine any_take (i := 6) (v := ?v7) rfl (by kernel_rfl) (by kernel_rfl) (by kernel_rfl) (fun _ _ _ h => h) hS (.inl ⟨by rfl, ?y7⟩) ?_
                case y7 => (intro w' h'; go_simp; with_reducible rfl)
                (try simp only [Act.put, List.setIfInBounds_toArray, List.set_cons_zero, List.set_cons_succ])
                refine any_take (i := 7) (v := ?v8) rfl (by kernel_rfl) (by kernel_rfl) (by kernel_rfl) (fun _ _ _ h => h) hS (.inl ⟨by rfl, ?y8⟩) ?_
                case y8 => (intro w' h'; go_simp; with_reducible rfl)
                (try simp only [Act.put, List.setIfInBounds_toArray, List.set_cons_zero, List.set_cons_succ])
                refine any_take (i := 8) (v := (.string (wb wd))) rfl (by kernel_rfl) (by kernel_rfl) (by kernel_rfl) (fun _ _ _ h => h) hS (yi_cell _ _ rfl (by rfl) ⟨ub2, i, none⟩ rfl _ Try.underlying9 rfl (fun w' h' => h')) ?_
                (try simp only [Act.put, List.setIfInBounds_toArray, List.set_cons_zero, List.set_cons_succ])
                refine any_take (i := 9) (v := ?v11) rfl (by kernel_rfl) (by kernel_rfl) (by kernel_rfl) (fun _ _ _ h => h) hS (.inl ⟨by rfl, ?y11⟩) ?_
                case y11 => (intro w' h'; go_simp; with_reducible rfl)
                (try simp only [Act.put, List.setIfInBounds_toArray, List.set_cons_zero, List.set_cons_succ])
                refine any_take (i := 10) (v := (.int .i64 (97 + (c' : Int)))) rfl (by kernel_rfl) (by kernel_rfl) (by kernel_rfl) (fun _ _ _ h => h) hS (yi_val (by rfl) (fun w' h' => ?y12)) ?_
                case y12 => first | rfl | (go_simp; done) | (go_simp; omega)
                (try simp only [Act.put, List.setIfInBounds_toArray, List.set_cons_zero, List.set_cons_succ])
                refine any_take (i := 11) (v := (.int .i32 (97 + (c' : Int)))) rfl (by kernel_rfl) (by kernel_rfl) (by kernel_rfl) (fun _ _ _ h => h) hS (yi_val (by rfl) (fun w' h' => ?y13)) ?_
                case y13 => first | rfl | (go_simp; done) | (go_simp; omega)
                (try simp only [Act.put, List.setIfInBounds_toArray, List.set_cons_zero, List.set_cons_succ])
                refine any_take (i := 12) (v := .string ⟨#[UInt8.ofNat (97 + c')]⟩) rfl (by kernel_rfl) (by kernel_rfl) (by kernel_rfl) (fun _ _ _ h => h) hS (yi_val (by rfl) (fun w' h' => ?y12)) ?_
                case y12 =>
                  unfold execOp
                  simp only [Sem.run_bind]
                  have := conv_rune w' c' (by omega)
                  exact (congrArg (fun r => Result.andThen r _) this).trans rfl
                (try simp only [Act.put, List.setIfInBounds_toArray, List.set_cons_zero, List.set_cons_succ])
                have hws : (wb wd).size ≤ 4096 := by
                  rw [wb_size]
                  have := bw_short hk0 HWD.out
                  omega
                refine any_take (i := 13) (v := (.string (wb wd ++ ⟨#[UInt8.ofNat (97 + c')]⟩))) rfl (by kernel_rfl) (by kernel_rfl) (by kernel_rfl) (fun _ _ _ h => h) hS (yi_val (by rfl) (fun w' h' => ?y15)) ?_
                case y15 => first | rfl | (go_simp; done) | (go_simp; omega)
                (try simp only [Act.put, List.setIfInBounds_toArray, List.set_cons_zero, List.set_cons_succ])
                rw [← wb_snoc]
                have hlbl : (bs k (stp x) 0 (i * k + c')).length ≤ 4096 := by omega
                refine any_apps2 (i1 := 2) (i2 := 3) (j1 := 14) (j2 := 15) (n1 := 71) (n2 := 72) (n3 := 83) (n4 := 84) (w0 := w) (lb := ub2) (i := i) (cv := .string (wb wd)) (encA := encI) (e1A := fun _ => rfl) (encB := encW) (e1B := fun _ => rfl) (eA := 3) (eB := 9)
                  (v := .slice (some ⟨lb2, 0, none⟩) (bs k (stp x) 0 (i * k + c')).length lc2) (u := .slice (some ⟨ub2, 0, none⟩) (bw k (stp x) 0 (i * k + c')).length uc2) (xs := bs k (stp x) 0 (i * k + c')) (ys := bw k (stp x) 0 (i * k + c'))
                  rfl rfl rfl rfl rfl rfl rfl rfl rfl rfl rfl rfl (by decide) (by decide) (by decide) (by decide) (by decide) (by decide) (by decide) (by decide) (by decide) (by decide) (show 71 < 86 by decide) (show 83 < 86 by decide)
                  (by kernel_rfl) (by kernel_rfl) (by kernel_rfl) (by kernel_rfl) (by kernel_rfl) (by kernel_rfl)
                  22 (.int .i64 0) 8 72 (.string ByteArray.empty) 16 rfl rfl rfl rfl (by simp) (by simp) (by simp) (by simp) (by simp) (by simp) (by simp) (by simp) (by simp) (by simp)
                  Try.underlying22 info_int rfl (by decide) Try.underlying72 info_str rfl (by decide) (by decide) t (wd ++ [c']) rfl rfl rfl rfl rfl rfl rfl ?lt (by omega) (by omega) (by omega) G4.out.lst G4.out.wds G4.out.bel hS (fun v1 u1 w7 p1 q1 hmid => ?fin)
                case lt => exact World.block_lt_of_cell? _ _ hS
                case fin =>
                  (try simp only [Act.put, List.setIfInBounds_toArray, List.set_cons_zero, List.set_cons_succ])
                  refine any_take (i := 16) (v := ?v19) rfl (by kernel_rfl) (by kernel_rfl) (by kernel_rfl) (fun _ _ _ h => h) hmid.cell (.inl ⟨by rfl, ?y19⟩) ?_
                  case y19 => (intro w' h'; go_simp; with_reducible rfl)
                  (try simp only [Act.put, List.setIfInBounds_toArray, List.set_cons_zero, List.set_cons_succ])
                  refine any_take (i := 17) (v := ?v20) rfl (by kernel_rfl) (by kernel_rfl) (by kernel_rfl) (fun _ _ _ h => h) hmid.cell (.inl ⟨by rfl, ?y20⟩) ?_
                  case y20 => (intro w' h'; go_simp; with_reducible rfl)
                  (try simp only [Act.put, List.setIfInBounds_toArray, List.set_cons_zero, List.set_cons_succ])
                  refine wpAnyH_done (by kernel_rfl) ?_ _
                  have G5 := Lib.hid (G4.out.both HBW.out HTW.out hmid)
                  clear hmid hS cu2
                  go_wp2
                  go_roundw
                  case rel => exact ⟨c' + 1, by omega, by go_num, G5⟩
                  case measure => simp [intOf]; omega
            · have hce : c' = k := by omega
              have hmm : i * k + c' = (i + 1) * k := by rw [Nat.succ_mul, hce]
              have hle : (bs k (stp x) 0 (i * k)).length ≤ (bs k (stp x) 0 ((i + 1) * k)).length := by
                rw [bs_len, bs_len]; exact bw_le (Nat.mul_le_mul_right k (Nat.le_succ i))
              have HQ2 : Hid (i + 1 ≤ (bs k (stp x) 0 ((i + 1) * k)).length) := Lib.hid (by have := HL.out; omega)
              have HN2 : Hid (∀ j, j < i + 1 → ∀ s, (bs k (stp x) 0 ((i + 1) * k))[j]? = some s → gdA x s = false) := Lib.hid (by
                intro j hj s' hs'
                by_cases hji : j < i
                · have hjl : j < (bs k (stp x) 0 (i * k)).length := by have := HL.out; omega
                  have h1 := bs_keep (k := k) (step := stp x) (first := 0) (Nat.mul_le_mul_right k (Nat.le_succ i)) (List.getElem?_eq_getElem hjl)
                  have h2 := hs'.symm.trans h1
                  injection h2 with h2
                  rw [h2]
                  exact HN.out j hji _ (List.getElem?_eq_getElem hjl)
                · obtain rfl : j = i := by omega
                  have h1 := bs_keep (k := k) (step := stp x) (first := 0) (Nat.mul_le_mul_right k (Nat.le_succ j)) HBS.out
                  have h2 := hs'.symm.trans h1
                  injection h2 with h2
                  rw [h2]
                  exact HBB.out.symm)
              rw [hmm] at G
              have HLT : Hid (i < 4096) := Lib.hid (by omega)
              clear hle
              go_wp2
              go_roundw
              case rel => exact ⟨i + 1, by go_num, HQ2, HN2, G⟩
              case measure => have := HLT.out; simp [intOf]; omega
        · go_wp2
          go_quiet (fail)
          go_wp2
          go_ret3
          rcases HANS.out with hh | hh
          · cases hh
          · exact ⟨by rw [hh]; rfl, bl_drewN H.out.bel _⟩
      · have hcl : Closed k (stp x) 0 i := by unfold Closed; rw [← bs_len]; omega
        have hno : lstO x = none := by
          rw [HFE.out i hcl]
          refine fnd_end hcl (fun j hj u hu => HN.out j hj _ ?_)
          rw [bs_get, hu]; rfl
        have HNO := Lib.hid hno
        clear hno hcl hlcell hucell
        go_wp2
        go_ret3
        exact ⟨by rw [HNO.out]; rfl, H.out.bel⟩
  · have h80 : autE x = 80 := autE_no (fun h => h0 (autE_ok h))
    have eS : lstS x = ByteArray.empty := by unfold lstS; rw [if_neg h0]
    have eB : lstB x = false := by unfold lstB; rw [if_neg h0]
    rw [eS, eB]
    rw [h80] at CK ⊢
    clear eS eB h0 h80 hr
    go_enter Try.func22, Try.ntmps22
    go_wp2_with (refine ld_au _ rfl w.heap.size rfl (H0.out.at 0 rfl) rfl ?_)
    refine CK.out.mono ?_
    rintro e w1 ⟨rfl, hb⟩
    have H1 := Lib.hid (H0.out.keep hb)
    clear hb CK H0
    go_wp2
    go_ret3
    exact ⟨rfl, H1.out.2⟩
end Go.Proofs.Ytjckidjljkjhfaa

namespace Go.Proofs.Ytjckidjljkjhfaa
open Go.RowKit Go.Proofs.YtjckidjljkjhfaaW.PrintWords
set_option linter.unusedSimpArgs false
set_option linter.unusedVariables false
theorem C_blk {α : Type} {en : α → Value} {e1 : ∀ x, (en x).oneCell' = true} (z : α) {w : World} {g : Nat} {cs : Array Value} {t : TypeId} {fr : Nat × Nat} (l : List α) (h : w.heap[g]? = some (.cells cs t fr)) (hmax : l.length ≤ 9223372036854775807)
    (hc : ∀ j, j < l.length → cs[j]? = some (en (l.getD j z))) : (Kd.scalar en e1).C w (some ⟨g, 0, none⟩) l.length l := by
  refine Kd.C_of_reads (enc := en) (d := z) (h1 := e1) ⟨rfl, hmax, fun _ => ⟨⟨g, 0, none⟩, rfl, fun j hj => ?_⟩⟩
  rw [add_plain, cell_of_row _ _ _ _ _ _ h, hc j hj]
set_option maxRecDepth 100000 in
set_option maxHeartbeats 400000 in
theorem num8_any (n : Int) (w : World) : Calls Try.prog 17 #[.int .i64 n] w fun e w' => e = .returned (.int .i64 n) ∧ w = w' := by
  go_enter Try.func17, Try.ntmps17
  go_wp2
  go_ret
  exact ⟨rfl, rfl⟩
set_option maxRecDepth 100000 in
set_option maxHeartbeats 400000 in
theorem plain_any (w : World) : Calls Try.prog 56 #[] w fun e w' => ∃ A B, e = .returned (.agg (ac plainV A 4 B 2)) ∧ ARd w' plainV A B ∧ Below w.heap.size w w' := by
  have h0 := (((Hp.start w).alloc (.cells #[.int .i64 0, .slice none 0 0, .slice none 0 0] 25)).alloc (.cells #[.int .i64 1, .int .i64 0, .int .i64 1, .int .i64 1] 3)).alloc (.cells #[.bool true, .bool false] 4)
  rw [World.size_alloc, World.size_alloc] at h0
  have H0 := Lib.hid h0
  clear h0
  go_enter Try.func56, Try.ntmps56
  go_wp2_with ((with_reducible refine gate_st (t := 25) rfl ?_); refine wpList_store_row rfl 25 _ _ rfl w.heap.size (ac plainV (some ⟨w.heap.size + 1, 0, none⟩) 4 (some ⟨w.heap.size + 1 + 1, 0, none⟩) 2) rfl rfl 25 _ (H0.out.at 2 rfl) (by show _ = some 3; kernel_rfl) rfl (by simp [Value.oneCell']) ?_)
  have k1 : ((((w.alloc (.cells #[.int .i64 0, .slice none 0 0, .slice none 0 0] 25)).alloc (.cells #[.int .i64 1, .int .i64 0, .int .i64 1, .int .i64 1] 3)).alloc (.cells #[.bool true, .bool false] 4)).setRow w.heap.size (ac plainV (some ⟨w.heap.size + 1, 0, none⟩) 4 (some ⟨w.heap.size + 1 + 1, 0, none⟩) 2)).heap[w.heap.size + 1]? = _ := hp_row (by omega) (H0.out.at 1 rfl)
  have k2 : ((((w.alloc (.cells #[.int .i64 0, .slice none 0 0, .slice none 0 0] 25)).alloc (.cells #[.int .i64 1, .int .i64 0, .int .i64 1, .int .i64 1] 3)).alloc (.cells #[.bool true, .bool false] 4)).setRow w.heap.size (ac plainV (some ⟨w.heap.size + 1, 0, none⟩) 4 (some ⟨w.heap.size + 1 + 1, 0, none⟩) 2)).heap[w.heap.size + 1 + 1]? = _ := hp_row (by omega) (H0.out.at 0 rfl)
  refine bodyPost_ret (v := .agg (ac plainV (some ⟨w.heap.size + 1, 0, none⟩) 4 (some ⟨w.heap.size + 1 + 1, 0, none⟩) 2)) ?_ rfl ⟨_, _, rfl, ⟨C_blk (0 : Int) plainV.next k1 (by decide) (fun j hj => ?_), C_blk false plainV.acc k2 (by decide) (fun j hj => ?_)⟩, bl_row H0.out.2 (Nat.le_refl _) _⟩
  · exact results_cell_row rfl _ _ w.heap.size 25 _ _ _ rfl (setRow_heap _ _ _ _ _ _ (H0.out.at 2 rfl)) Try.underlying25 rfl (by show _ = some 3; kernel_rfl)
  · have : j < 4 := hj
    have h : j = 0 ∨ j = 1 ∨ j = 2 ∨ j = 3 := by omega
    rcases h with rfl | rfl | rfl | rfl <;> rfl
  · have : j < 2 := hj
    have h : j = 0 ∨ j = 1 := by omega
    rcases h with rfl | rfl <;> rfl
/-- The words over two letters that are not in b*: the least one. -/
def notV : AutV := ⟨2, [1, 0, 1, 1], [false, true]⟩
theorem notV_ok : AutOk notV := by
  refine ⟨by decide, by decide, by decide, by decide, by decide, fun i hi => ?_⟩
  have : i = 0 ∨ i = 1 ∨ i = 2 ∨ i = 3 := by simp [notV] at hi; omega
  rcases this with rfl | rfl | rfl | rfl <;> decide
theorem least_not : lstS notV = ⟨#[97]⟩ ∧ lstB notV = true := by
  have hc : Closed 2 (stp notV) 0 2 := by unfold Closed; decide +kernel
  have e : lstO notV = some [0] := by
    unfold lstO
    rw [show notV.k.toNat = 2 from rfl, fnd_stay (by decide) _ hc (by decide)]
    decide +kernel
  unfold lstS lstB
  rw [if_pos (autE_ok notV_ok), if_pos (autE_ok notV_ok), e]
  exact ⟨rfl, rfl⟩
set_option maxRecDepth 100000 in
set_option maxHeartbeats 400000 in
theorem live8_any (w : World) : Calls Try.prog 21 #[] w fun e w' => e = .returned (.bool true) ∧ Below w.heap.size w w' := by
  go_enter Try.func21, Try.ntmps21
  go_wp2_with fail
  refine (plain_any _).mono ?_
  rintro e w1 ⟨A1, B1, rfl, r1, hb1⟩
  have R1 := Aside0.mk r1; have HB1 := Lib.hid hb1
  clear r1 hb1
  go_wp2_with fail
  have RN := run_any plainV A1 4 B1 2 0 ⟨#[98, 98, 97]⟩ (by decide) w1 R1.out
  rw [run_plain.1, run_plain.2] at RN
  refine RN.mono ?_
  rintro e w2 ⟨rfl, hb2⟩
  have HB2 := Lib.hid (bl_then HB1.out hb2)
  clear hb2 RN HB1
  go_wp2_with fail
  refine (plain_any _).mono ?_
  rintro e w3 ⟨A2, B2, rfl, r2, hb3⟩
  have R2 := Aside0.mk r2; have HB3 := Lib.hid (bl_then HB2.out hb3)
  clear r2 hb3 HB2
  go_wp2_with fail
  have NT := not_any plainV A2 4 B2 2 w3 R2.out
  rw [not_plain, autE_ok plain_ok] at NT
  refine NT.mono ?_
  rintro e w4 ⟨vn, va, rfl, hn, ha, hb4⟩
  clear NT
  obtain ⟨An, cn, rfl, ln, hCn⟩ := Kd.R_reads hn
  obtain ⟨Aa, ca, rfl, la, hCa⟩ := Kd.R_reads ha
  have HB5 := Lib.hid (bl_alloc (bl_then HB3.out hb4) (AB notV An cn Aa ca))
  have HN5 := Lib.hid (hp_new (w := w4) (o := AB notV An cn Aa ca) rfl)
  have HR5 := Aside0.mk (ARd.below (x := notV) ⟨hCn, hCa⟩ (bl_alloc (Below.refl _ _) (AB notV An cn Aa ca)))
  clear hb4 hn ha hCn hCa HB3
  go_wp2_with (first | ((with_reducible refine gate_st (t := 25) rfl ?_); refine st_au_new (y := notV) (A := An) (c := cn) (B := Aa) (d := ca) _ _ rfl rfl rfl rfl rfl ?_) | ((with_reducible refine gate_ld (t := 25) rfl ?_); refine ld_au (y := notV) _ rfl w4.heap.size rfl HN5.out rfl ?_))
  have LE := least_any notV An cn Aa ca _ HR5.out
  rw [least_not.1, least_not.2, autE_ok notV_ok] at LE
  refine LE.mono ?_
  rintro e w5 ⟨rfl, hb5⟩
  have HB6 := Lib.hid (bl_then HB5.out hb5)
  clear hb5 LE HB5
  go_wp2_with fail
  refine (num8_any _ _).mono ?_
  rintro e w' ⟨rfl, rfl⟩
  go_wp2_with fail
  refine (num8_any _ _).mono ?_
  rintro e w' ⟨rfl, rfl⟩
  go_wp2_with fail
  refine (num8_any _ _).mono ?_
  rintro e w' ⟨rfl, rfl⟩
  go_wp2
  go_ret
  exact ⟨rfl, HB6.out⟩
end Go.Proofs.Ytjckidjljkjhfaa

namespace Go.Proofs.Ytjckidjljkjhfaa
open Go.RowKit Go.Proofs.YtjckidjljkjhfaaW.PrintWords
set_option linter.unusedSimpArgs false
set_option linter.unusedVariables false
theorem blist_eq {l m : List Bool} (hl : l.length = m.length) (h : ∀ k : Nat, k < l.length → rdOf false l k = rdOf false m k) : l = m := by
  apply List.ext_getElem hl
  intro i h1 h2
  have := h i h1
  simp only [rdOf, Int.toNat_natCast, List.getD_eq_getElem?_getD, List.getElem?_eq_getElem h1, List.getElem?_eq_getElem h2] at this
  exact this
theorem blist_ne {l m : List Bool} {k : Nat} (h : rdOf false l k ≠ rdOf false m k) : l ≠ m := by
  rintro rfl; exact h rfl
/-- One value. -/
def sameV (x y : AutV) : Bool := decide (x.k = y.k ∧ x.next = y.next ∧ x.acc = y.acc)
set_option maxRecDepth 100000 in
set_option maxHeartbeats 1600000 in
theorem samea_any (x y : AutV) (A : Option Addr) (c : Nat) (B : Option Addr) (d : Nat) (X : Option Addr) (xc : Nat) (Y : Option Addr) (yc : Nat) (w : World) (hr : ARd w x A B) (hr' : ARd w y X Y) :
    Calls Try.prog 28 #[.agg (ac x A c B d), .agg (ac y X xc Y yc)] w fun e w' => e = .returned (.bool (sameV x y)) ∧ Below w.heap.size w w' := by
  have HR := Aside0.mk hr; have HR' := Aside0.mk hr'
  have hm1 := Kd.C_max hr.acc
  have H0 := Lib.hid (((Hp.start w).alloc (AB x A c B d)).alloc (AB y X xc Y yc))
  rw [World.size_alloc] at H0
  have SM := Aside0.mk (same_any A c x.next X xc y.next _ (Kd.C_below hr.next H0.out.2) (Kd.C_below hr'.next H0.out.2))
  have e0 := Lib.hid (H0.out.at 1 rfl); have e1 := Lib.hid (H0.out.at 0 rfl)
  have c00 : ((w.alloc (AB x A c B d)).alloc (AB y X xc Y yc)).cell? ⟨w.heap.size, 0, none⟩ = some (.int .i64 x.k) := by rw [cell_of_row _ _ _ _ _ _ e0.out]; rfl
  have c01 : ((w.alloc (AB x A c B d)).alloc (AB y X xc Y yc)).cell? ⟨w.heap.size, 1, none⟩ = some (.slice A x.next.length c) := by rw [cell_of_row _ _ _ _ _ _ e0.out]; rfl
  have c10 : ((w.alloc (AB x A c B d)).alloc (AB y X xc Y yc)).cell? ⟨w.heap.size + 1, 0, none⟩ = some (.int .i64 y.k) := by rw [cell_of_row _ _ _ _ _ _ e1.out]; rfl
  have c11 : ((w.alloc (AB x A c B d)).alloc (AB y X xc Y yc)).cell? ⟨w.heap.size + 1, 1, none⟩ = some (.slice X y.next.length xc) := by rw [cell_of_row _ _ _ _ _ _ e1.out]; rfl
  clear hr hr'
  by_cases h1 : x.k = y.k
  · have hb1 : (x.k != y.k) = false := by rw [bne_eq_false_iff_eq]; exact h1
    by_cases h2 : x.next = y.next
    · rw [decide_eq_true h2] at SM
      by_cases h3 : x.acc.length = y.acc.length
      · have HY : Hid ((∀ k : Nat, k < x.acc.length → rdOf false x.acc k = rdOf false y.acc k) → sameV x y = true) := Lib.hid (fun h => decide_eq_true ⟨h1, h2, blist_eq h3 h⟩)
        have HN : Hid (∀ k : Nat, rdOf false x.acc k ≠ rdOf false y.acc k → sameV x y = false) := Lib.hid (fun k h => decide_eq_false (fun hh => blist_ne h hh.2.2))
        have H3 := Lib.hid h3
        have hb3 : ((x.acc.length : Int) != (y.acc.length : Int)) = false := by rw [bne_eq_false_iff_eq]; omega
        have hb4 : (x.acc.length != y.acc.length) = false := by rw [bne_eq_false_iff_eq]; omega
        generalize sameV x y = b at *
        clear h1 h2 h3
        go_enter Try.func28, Try.ntmps28
        go_wp2_with fail
        refine SM.out.mono ?_
        rintro e w1 ⟨rfl, hb⟩
        have H1 := Lib.hid (H0.out.keep hb)
        have d02 : w1.cell? ⟨w.heap.size, 2, none⟩ = some (.slice B x.acc.length d) := by rw [cell_of_row _ _ _ _ _ _ (H1.out.at 1 rfl)]; rfl
        have d12 : w1.cell? ⟨w.heap.size + 1, 2, none⟩ = some (.slice Y y.acc.length yc) := by rw [cell_of_row _ _ _ _ _ _ (H1.out.at 0 rfl)]; rfl
        clear hb SM c00 c01 c10 c11 e0 e1 H0
        go_wp2
        clear d02 d12
        go_loopw [5] (fun i wr => ∃ k : Nat, k ≤ x.acc.length ∧ i = .int .i64 k ∧ Hid (∀ j : Nat, j < k → rdOf false x.acc j = rdOf false y.acc j) ∧ Hid (Hp [(w.heap.size + 1, AB y X xc Y yc), (w.heap.size, AB x A c B d)] w wr)) (fun i _ => x.acc.length - (intOf i).toNat)
        case atStart => exact ⟨0, by omega, rfl, Lib.hid (fun j hj => absurd hj (by omega)), H1⟩
        case round =>
          obtain ⟨k, hk, rfl, HF, H⟩ := hrel
          have d02 : wr.cell? ⟨w.heap.size, 2, none⟩ = some (.slice B x.acc.length d) := by rw [cell_of_row _ _ _ _ _ _ (H.out.at 1 rfl)]; rfl
          have d12 : wr.cell? ⟨w.heap.size + 1, 2, none⟩ = some (.slice Y y.acc.length yc) := by rw [cell_of_row _ _ _ _ _ _ (H.out.at 0 rfl)]; rfl
          by_cases hkl : k < x.acc.length
          · have hkm : k < y.acc.length := by have := H3.out; omega
            obtain ⟨a1, hA1, k1⟩ := Kd.at_bool (Kd.C_below HR.out.acc H.out.2) (k : Int) (by omega) (by omega)
            obtain ⟨a2, hA2, k2⟩ := Kd.at_bool (Kd.C_below HR'.out.acc H.out.2) (k : Int) (by omega) (by omega)
            rw [Int.toNat_natCast] at k1 k2
            by_cases he : rdOf false x.acc (k : Int) = rdOf false y.acc (k : Int)
            · have HF2 : Hid (∀ j : Nat, j < k + 1 → rdOf false x.acc j = rdOf false y.acc j) := Lib.hid (fun j hj => by
                by_cases hjk : j = k
                · subst hjk; exact he
                · exact HF.out j (by omega))
              rw [← he] at k2
              have hbb : (rdOf false x.acc (k : Int) != rdOf false x.acc (k : Int)) = false := by simp
              clear he
              generalize rdOf false x.acc (k : Int) = p at *
              subst hA1; subst hA2
              go_wp2
              go_quiet (fail)
              go_wp2
              go_roundw
              case rel => exact ⟨k + 1, by omega, by go_num, HF2, Lib.hid (H.out.drewN _)⟩
              case measure => simp [intOf]; omega
            · have HE := Lib.hid (HN.out k he)
              have hbb : (rdOf false x.acc (k : Int) != rdOf false y.acc (k : Int)) = true := by rw [bne_iff_ne]; exact he
              have hb2 : (rdOf false x.acc (k : Int) == rdOf false y.acc (k : Int)) = false := by rw [beq_eq_false_iff_ne]; exact he
              clear he
              generalize rdOf false x.acc (k : Int) = p at *
              generalize rdOf false y.acc (k : Int) = q at *
              subst hA1; subst hA2
              go_wp2
              go_quiet (fail)
              go_wp2
              go_ret
              exact ⟨by rw [HE.out]; rfl, bl_drewN H.out.2 _⟩
          · have hk2 : k = x.acc.length := by omega
            subst hk2
            have HE := Lib.hid (HY.out HF.out)
            go_wp2
            go_ret
            exact ⟨by rw [HE.out]; rfl, H.out.2⟩
      · have HE : Hid (sameV x y = false) := Lib.hid (decide_eq_false (fun hh => h3 (by rw [hh.2.2])))
        have hb3 : ((x.acc.length : Int) != (y.acc.length : Int)) = true := by rw [bne_iff_ne]; omega
        have hb4 : (x.acc.length != y.acc.length) = true := by rw [bne_iff_ne]; omega
        rw [HE.out]
        clear h1 h2 h3
        go_enter Try.func28, Try.ntmps28
        go_wp2_with fail
        refine SM.out.mono ?_
        rintro e w1 ⟨rfl, hb⟩
        have H1 := Lib.hid (H0.out.keep hb)
        have d02 : w1.cell? ⟨w.heap.size, 2, none⟩ = some (.slice B x.acc.length d) := by rw [cell_of_row _ _ _ _ _ _ (H1.out.at 1 rfl)]; rfl
        have d12 : w1.cell? ⟨w.heap.size + 1, 2, none⟩ = some (.slice Y y.acc.length yc) := by rw [cell_of_row _ _ _ _ _ _ (H1.out.at 0 rfl)]; rfl
        clear hb SM c00 c01 c10 c11 e0 e1 H0
        go_wp2
        go_ret
        exact ⟨rfl, H1.out.2⟩
    · rw [decide_eq_false h2] at SM
      have HE : Hid (sameV x y = false) := Lib.hid (decide_eq_false (fun hh => h2 hh.2.1))
      rw [HE.out]
      clear h1 h2
      go_enter Try.func28, Try.ntmps28
      go_wp2_with fail
      refine SM.out.mono ?_
      rintro e w1 ⟨rfl, hb⟩
      have H1 := Lib.hid (H0.out.keep hb)
      clear hb SM c00 c01 c10 c11 e0 e1 H0
      go_wp2
      go_ret
      exact ⟨rfl, H1.out.2⟩
  · have hb1 : (x.k != y.k) = true := by rw [bne_iff_ne]; exact h1
    have HE : Hid (sameV x y = false) := Lib.hid (decide_eq_false (fun hh => h1 hh.1))
    rw [HE.out]
    clear h1 SM
    go_enter Try.func28, Try.ntmps28
    go_wp2
    go_ret
    exact ⟨rfl, H0.out.2⟩
end Go.Proofs.Ytjckidjljkjhfaa

