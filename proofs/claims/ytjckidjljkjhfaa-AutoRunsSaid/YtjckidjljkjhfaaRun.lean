/- The walks of follow, letters and Run. -/
import Derived.Test.YtjckidjljkjhfaaWordA
import Derived.IntWalk
namespace Go.Proofs.Ytjckidjljkjhfaa
open Go.RowKit Go.Proofs.YtjckidjljkjhfaaW.PrintWords
set_option linter.unusedSimpArgs false
set_option linter.unusedVariables false
/-- Where a word leads. -/
def fol (x : AutV) (s : Nat) (l : List UInt8) : Nat := l.foldl (fun s c => stp x s (c.toNat - 97)) s
theorem fol_snoc (x : AutV) (s : Nat) (l : List UInt8) (c : UInt8) : fol x s (l ++ [c]) = stp x (fol x s l) (c.toNat - 97) := by simp [fol]
theorem byte_take (s : ByteArray) (k : Nat) (h : k < s.size) : s.data.toList.take (k + 1) = s.data.toList.take k ++ [s[k]] := by
  rw [List.take_succ_eq_append_getElem (by simpa using h)]; rfl
theorem fol_lt {x : AutV} (h : AutOk x) {s : Nat} (hs : s < x.acc.length) {w : ByteArray} (hw : letB x.k w = true) : ∀ k, k ≤ w.size → fol x s (w.data.toList.take k) < x.acc.length
  | 0, _ => by simpa [fol] using hs
  | k + 1, hk => by
    rw [byte_take w k (by omega), fol_snoc]
    have := letB_at hw k (by omega)
    exact (stp_lt h (fol_lt h hs hw k (by omega)) (by omega)).1
set_option maxRecDepth 100000 in
set_option maxHeartbeats 4000000 in
theorem follow_any (x : AutV) (A : Option Addr) (c : Nat) (B : Option Addr) (d : Nat) (s : Nat) (v : ByteArray) (w : World) (hr : ARd w x A B) (hx : AutOk x) (hs : s < x.acc.length) (hv : letB x.k v = true) (hsz : v.size ≤ 4611686018427387904) :
    Calls Try.prog 52 #[.agg (ac x A c B d), .int .i64 s, .string v] w fun e w' => e = .returned (.int .i64 ((fol x s v.data.toList : Nat) : Int)) ∧ Below w.heap.size w w' := by
  have HR := Aside0.mk hr
  have HX := Lib.hid hx
  have HV := Lib.hid hv
  have HS := Lib.hid hs
  have HFL := Lib.hid (fun k hk => fol_lt hx hs hv k hk)
  obtain ⟨R, HRR⟩ : ∃ R, Hid (fol x s v.data.toList = R) := ⟨_, Lib.hid rfl⟩
  rw [HRR.out]
  have h4 := hx.2.2.2.1
  clear hr hx hv hs
  go_enter Try.func52, Try.ntmps52
  go_wp2
  go_loopw [10, 1] (fun i q wr => ∃ k : Nat, k ≤ v.size ∧ i = .int .i64 k ∧ q = .int .i64 ((fol x s (v.data.toList.take k) : Nat) : Int) ∧ Hid (wr.heap[w.heap.size]? = some (.cells (ac x A c B d) 25 (0, 0)) ∧ Below w.heap.size w wr)) (fun i _ _ => v.size - (intOf i).toNat)
  case atStart => exact ⟨0, by omega, rfl, rfl, Lib.hid ⟨hp_new rfl, bl_alloc (Below.refl _ _) _⟩⟩
  case round =>
    obtain ⟨k, hk, rfl, rfl, H⟩ := hrel
    by_cases hkv : k < v.size
    · have hq := HFL.out k hk
      have hb := letB_at HV.out k hkv
      have HST : Hid (fol x s (v.data.toList.take (k + 1)) = stp x (fol x s (v.data.toList.take k)) ((v[k]'hkv).toNat - 97)) := Lib.hid (by rw [byte_take v k hkv, fol_snoc])
      generalize hqq : fol x s (v.data.toList.take k) = q at *
      clear hqq
      obtain ⟨hb1, hb2⟩ := hb
      obtain ⟨l, hl⟩ : ∃ l : Nat, l = (v[k]'hkv).toNat - 97 := ⟨_, rfl⟩
      have hlk : (l : Int) < x.k := by omega
      have hcl : ((v[k]'hkv).toNat : Int) = (l : Int) + 97 := by omega
      have hix := stp_idx HX.out hq hlk
      obtain ⟨hz1, hz2⟩ := stp_lt HX.out hq hlk
      rw [← hl] at HST
      have hk8 := HX.out.2.1
      have hk1 := HX.out.1
      have hmul : (q : Int) * x.k = ((q * x.k.toNat : Nat) : Int) := by
        obtain ⟨kk, hkk⟩ := Int.eq_ofNat_of_zero_le (show 0 ≤ x.k by omega)
        rw [hkk, Int.toNat_natCast]; push_cast; rfl
      have hqk : q * x.k.toNat ≤ 40960 := by
        have : q * x.k.toNat ≤ 4096 * 10 := Nat.mul_le_mul (by omega) (by omega)
        omega
      obtain ⟨ad, hA, hcell⟩ := Kd.at_int (Kd.C_below HR.out.next H.out.2) ((q * x.k.toNat + l : Nat) : Int) (by omega) (by omega)
      rw [Int.toNat_natCast, hz2] at hcell
      have HCELL := Lib.hid hcell
      have HMUL := Lib.hid hmul
      have HCL := Lib.hid hcl
      have HSTP : Hid (stp x q l < x.acc.length) := Lib.hid hz1
      rw [hA] at H
      generalize hPP : q * x.k.toNat = P at *
      generalize stp x q l = z at *
      clear hcell hmul hz2 hl hPP hcl hz1
      go_wp2
      refine wp_region_held_drew (S := fun w' => w' = wr.drew) (by kernel_rfl) rfl (fun hS => ?_)
      have hw5 : IntKind.i64.wrap ((q : Int) * x.k) = (P : Int) := by rw [HMUL.out]; exact IntWalk.i64_in _ ⟨by omega, by omega⟩
      have hw10 : IntKind.i64.wrap (l : Int) = (l : Int) := IntWalk.i64_in _ ⟨by omega, by omega⟩
      have hw9 : IntKind.u8.wrap (((v[k]'hkv).toNat : Int) - 97) = (l : Int) := by rw [HCL.out, show (l : Int) + 97 - 97 = l by omega]; exact IntWalk.u8_in _ ⟨by omega, by omega⟩
      have hw11 : IntKind.i64.wrap ((P : Int) + (l : Int)) = (P : Int) + (l : Int) := IntWalk.i64_in _ ⟨by omega, by omega⟩
      have hw12 : 0 ≤ (P : Int) + (l : Int) ∧ (P : Int) + (l : Int) < (x.next.length : Int) := ⟨by omega, by omega⟩
      have hw13 : ((P : Int) + (l : Int)).toNat = P + l := by omega
      refine any_take (i := 0) (v := ?v2) rfl (by kernel_rfl) (by kernel_rfl) (by kernel_rfl) (fun _ _ _ h => h) hS (.inl ⟨by rfl, ?y2⟩) ?_
      case y2 => (intro w' h'; go_simp; with_reducible rfl)
      (try simp only [Act.put, List.setIfInBounds_toArray, List.set_cons_zero, List.set_cons_succ])
      refine any_take (i := 1) (v := .slice (some ad) x.next.length c) rfl (by kernel_rfl) (by kernel_rfl) (by kernel_rfl) (fun _ _ _ h => h) hS (yi_cell _ _ rfl (by rfl) ⟨w.heap.size, 1, none⟩ rfl _ Try.underlying22 rfl (fun w' h' => (by rw [h', cell_of_row _ _ _ _ _ _ (show wr.drew.heap[w.heap.size]? = _ from H.out.1)]; rfl))) ?_
      (try simp only [Act.put, List.setIfInBounds_toArray, List.set_cons_zero, List.set_cons_succ])
      refine any_take (i := 2) (v := ?v5) rfl (by kernel_rfl) (by kernel_rfl) (by kernel_rfl) (fun _ _ _ h => h) hS (.inl ⟨by rfl, ?y5⟩) ?_
      case y5 => (intro w' h'; go_simp; with_reducible rfl)
      (try simp only [Act.put, List.setIfInBounds_toArray, List.set_cons_zero, List.set_cons_succ])
      refine any_take (i := 3) (v := ?v6) rfl (by kernel_rfl) (by kernel_rfl) (by kernel_rfl) (fun _ _ _ h => h) hS (.inl ⟨by rfl, ?y6⟩) ?_
      case y6 => (intro w' h'; go_simp; with_reducible rfl)
      (try simp only [Act.put, List.setIfInBounds_toArray, List.set_cons_zero, List.set_cons_succ])
      refine any_take (i := 4) (v := .int .i64 x.k) rfl (by kernel_rfl) (by kernel_rfl) (by kernel_rfl) (fun _ _ _ h => h) hS (yi_cell _ _ rfl (by rfl) ⟨w.heap.size, 0, none⟩ rfl _ Try.underlying3 rfl (fun w' h' => (by rw [h', cell_of_row _ _ _ _ _ _ (show wr.drew.heap[w.heap.size]? = _ from H.out.1)]; rfl))) ?_
      (try simp only [Act.put, List.setIfInBounds_toArray, List.set_cons_zero, List.set_cons_succ])
      refine any_take (i := 5) (v := .int .i64 (P : Int)) rfl (by kernel_rfl) (by kernel_rfl) (by kernel_rfl) (fun _ _ _ h => h) hS (yi_val (by rfl) (fun w' h' => ?y8)) ?_
      case y8 => first | rfl | (go_simp; done) | (go_simp; omega)
      (try simp only [Act.put, List.setIfInBounds_toArray, List.set_cons_zero, List.set_cons_succ])
      refine any_take (i := 6) (v := ?v10) rfl (by kernel_rfl) (by kernel_rfl) (by kernel_rfl) (fun _ _ _ h => h) hS (.inl ⟨by rfl, ?y10⟩) ?_
      case y10 => (intro w' h'; go_simp; with_reducible rfl)
      (try simp only [Act.put, List.setIfInBounds_toArray, List.set_cons_zero, List.set_cons_succ])
      refine any_take (i := 7) (v := ?v11) rfl (by kernel_rfl) (by kernel_rfl) (by kernel_rfl) (fun _ _ _ h => h) hS (.inl ⟨by rfl, ?y11⟩) ?_
      case y11 => (intro w' h'; go_simp; with_reducible rfl)
      (try simp only [Act.put, List.setIfInBounds_toArray, List.set_cons_zero, List.set_cons_succ])
      refine any_take (i := 8) (v := .int .u8 ((v[k]'hkv).toNat : Int)) rfl (by kernel_rfl) (by kernel_rfl) (by kernel_rfl) (fun _ _ _ h => h) hS (yi_val (by rfl) (fun w' h' => ?y12)) ?_
      case y12 => first | rfl | (go_simp; done) | (go_simp; omega)
      (try simp only [Act.put, List.setIfInBounds_toArray, List.set_cons_zero, List.set_cons_succ])
      refine any_take (i := 9) (v := .int .u8 (l : Int)) rfl (by kernel_rfl) (by kernel_rfl) (by kernel_rfl) (fun _ _ _ h => h) hS (yi_val (by rfl) (fun w' h' => ?y13)) ?_
      case y13 => first | rfl | (go_simp; done) | (go_simp; omega)
      (try simp only [Act.put, List.setIfInBounds_toArray, List.set_cons_zero, List.set_cons_succ])
      refine any_take (i := 10) (v := .int .i64 (l : Int)) rfl (by kernel_rfl) (by kernel_rfl) (by kernel_rfl) (fun _ _ _ h => h) hS (yi_val (by rfl) (fun w' h' => ?y14)) ?_
      case y14 => first | rfl | (go_simp; done) | (go_simp; omega)
      (try simp only [Act.put, List.setIfInBounds_toArray, List.set_cons_zero, List.set_cons_succ])
      refine any_take (i := 11) (v := .int .i64 ((P : Int) + (l : Int))) rfl (by kernel_rfl) (by kernel_rfl) (by kernel_rfl) (fun _ _ _ h => h) hS (yi_val (by rfl) (fun w' h' => ?y15)) ?_
      case y15 => first | rfl | (go_simp; done) | (go_simp; omega)
      (try simp only [Act.put, List.setIfInBounds_toArray, List.set_cons_zero, List.set_cons_succ])
      refine any_take (i := 12) (v := .pointer (some (ad.add (P + l)))) rfl (by kernel_rfl) (by kernel_rfl) (by kernel_rfl) (fun _ _ _ h => h) hS (yi_val (by rfl) (fun w' h' => ?y16)) ?_
      case y16 => first | rfl | (go_simp; done) | (go_simp; omega)
      (try simp only [Act.put, List.setIfInBounds_toArray, List.set_cons_zero, List.set_cons_succ])
      refine any_take (i := 13) (v := .int .i64 (z : Int)) rfl (by kernel_rfl) (by kernel_rfl) (by kernel_rfl) (fun _ _ _ h => h) hS (yi_cell _ _ rfl (by rfl) (ad.add (P + l)) rfl _ Try.underlying3 rfl (fun w' h' => (by rw [h']; exact HCELL.out))) ?_
      (try simp only [Act.put, List.setIfInBounds_toArray, List.set_cons_zero, List.set_cons_succ])
      refine any_take (i := 14) (v := ?v19) rfl (by kernel_rfl) (by kernel_rfl) (by kernel_rfl) (fun _ _ _ h => h) hS (.inl ⟨by rfl, ?y19⟩) ?_
      case y19 => (intro w' h'; go_simp; with_reducible rfl)
      (try simp only [Act.put, List.setIfInBounds_toArray, List.set_cons_zero, List.set_cons_succ])
      refine wpAnyH_done (by kernel_rfl) ?_ _
      clear hS hw5 hw9 hw10 hw11 hw12 hw13
      go_wp2
      go_roundw
      case rel => exact ⟨k + 1, by omega, by go_num, by rw [HST.out], Lib.hid ⟨by rw [hA]; exact H.out.1, H.out.2.drew⟩⟩
      case measure => simp [intOf]; omega
    · have e8 : k = v.size := by omega
      subst e8
      have e9 : v.data.toList.take v.size = v.data.toList := List.take_of_length_le (by simp)
      rw [e9, HRR.out]
      go_wp2
      go_ret
      exact ⟨rfl, H.out.2⟩
section
variable {ops : Array Oper} {rest : List Oper} {o : Oper} {a : Act} {w : World} {Q : Exit → Act → World → Prop}
end
set_option maxRecDepth 100000 in
theorem letters_any (x : AutV) (A : Option Addr) (c : Nat) (B : Option Addr) (d : Nat) (v : ByteArray) (w : World) :
    Calls Try.prog 51 #[.agg (ac x A c B d), .string v] w fun e w' => e = .returned (.int .i64 (wrdE x.k v)) ∧ Below w.heap.size w w' := by
  go_enter Try.func51, Try.ntmps51
  go_wp2_with fail
  refine (word_any x.k v _).mono ?_
  rintro e w1 ⟨rfl, hb⟩
  go_wp2
  go_ret
  exact ⟨rfl, bl_then (bl_alloc (Below.refl _ _) _) hb⟩
/-- What Run answers. -/
noncomputable def runV (x : AutV) (s : Int) (v : ByteArray) : Nat := if autE x = 0 ∧ 0 ≤ s ∧ s < x.acc.length ∧ wrdE x.k v = 0 then fol x s.toNat v.data.toList else 0
noncomputable def runE (x : AutV) (s : Int) (v : ByteArray) : Int := if autE x = 0 then (if 0 ≤ s ∧ s < x.acc.length then wrdE x.k v else 11) else 80
theorem wrdE_ok {k : Int} {v : ByteArray} (h : wrdE k v = 0) : letB k v = true := by
  unfold wrdE at h
  split at h
  · cases h
  · split at h
    · assumption
    · cases h
set_option maxRecDepth 100000 in
set_option maxHeartbeats 4000000 in
theorem run_any (x : AutV) (A : Option Addr) (c : Nat) (B : Option Addr) (d : Nat) (s : Int) (v : ByteArray) (hv : v.size ≤ 4611686018427387904) (w : World) (hr : ARd w x A B) :
    Calls Try.prog 13 #[.agg (ac x A c B d), .int .i64 s, .string v] w fun e w' => e = .returned (.tuple #[.int .i64 ((runV x s v : Nat) : Int), .int .i64 (runE x s v)]) ∧ Below w.heap.size w w' := by
  have HR := Aside0.mk hr
  have HV := Lib.hid hv
  have H0 := Lib.hid (hp_new (w := w) (o := AB x A c B d) rfl)
  have HB0 := Lib.hid (bl_alloc (Below.refl w.heap.size w) (AB x A c B d))
  have CK := Aside0.mk (acheck_any x A c B d (w.alloc (AB x A c B d)) (hr.below (bl_alloc (Below.refl _ _) _)))
  clear hr hv
  by_cases h0 : autE x = 0
  · have HX := Lib.hid (autE_is h0)
    rw [h0] at CK
    by_cases h1 : 0 ≤ s ∧ s < x.acc.length
    · obtain ⟨h10, h11⟩ := h1
      have hd1 : decide (s < 0) = false := by simp; omega
      have hd2 : decide ((x.acc.length : Int) ≤ s) = false := by simp; omega
      by_cases h2 : wrdE x.k v = 0
      · have e1 : runV x s v = fol x s.toNat v.data.toList := by unfold runV; rw [if_pos ⟨h0, h10, h11, h2⟩]
        have e2 : runE x s v = 0 := by unfold runE; rw [if_pos h0, if_pos ⟨h10, h11⟩, h2]
        rw [e1, e2]
        obtain ⟨q, rfl⟩ := Int.eq_ofNat_of_zero_le h10
        rw [Int.toNat_natCast]
        have LT := Aside0.mk (letters_any x A c B d v)
        rw [h2] at LT
        have FO := Aside0.mk (fun (W : World) (hR : ARd W x A B) => follow_any x A c B d q v W hR HX.out (by omega) (wrdE_ok h2) HV.out)
        generalize fol x q v.data.toList = f at *
        clear h0 h2 e1 e2
        go_enter Try.func13, Try.ntmps13
        go_wp2_with (refine ld_au _ rfl w.heap.size rfl H0.out rfl ?_)
        refine CK.out.mono ?_
        rintro e w1 ⟨rfl, hb⟩
        have H1 := Lib.hid (hp_below' hb H0.out); have HB1 := Lib.hid (bl_then HB0.out hb)
        have c1 : w1.cell? ⟨w.heap.size, 2, none⟩ = some (.slice B x.acc.length d) := by rw [cell_of_row _ _ _ _ _ _ H1.out]; rfl
        clear hb CK
        go_wp2_with (refine ld_au _ rfl w.heap.size rfl H1.out rfl ?_)
        refine (LT.out _).mono ?_
        rintro e w2 ⟨rfl, hb⟩
        have H2 := Lib.hid (hp_below' hb H1.out); have HB2 := Lib.hid (bl_then HB1.out hb)
        clear hb LT c1
        go_wp2_with (refine ld_au _ rfl w.heap.size rfl H2.out rfl ?_)
        refine (FO.out _ (HR.out.below HB2.out)).mono ?_
        rintro e w3 ⟨rfl, hb⟩
        have HB3 := Lib.hid (bl_then HB2.out hb)
        clear hb FO
        go_wp2
        go_ret2
        exact ⟨rfl, HB3.out⟩
      · have e1 : runV x s v = 0 := by unfold runV; rw [if_neg (fun h => h2 h.2.2.2)]
        have e2 : runE x s v = wrdE x.k v := by unfold runE; rw [if_pos h0, if_pos ⟨h10, h11⟩]
        rw [e1, e2]
        have LT := Aside0.mk (letters_any x A c B d v)
        have hne : (wrdE x.k v != 0) = true := by rw [bne_iff_ne]; exact h2
        generalize wrdE x.k v = we at *
        clear h0 h2 e1 e2
        go_enter Try.func13, Try.ntmps13
        go_wp2_with (refine ld_au _ rfl w.heap.size rfl H0.out rfl ?_)
        refine CK.out.mono ?_
        rintro e w1 ⟨rfl, hb⟩
        have H1 := Lib.hid (hp_below' hb H0.out); have HB1 := Lib.hid (bl_then HB0.out hb)
        have c1 : w1.cell? ⟨w.heap.size, 2, none⟩ = some (.slice B x.acc.length d) := by rw [cell_of_row _ _ _ _ _ _ H1.out]; rfl
        clear hb CK
        go_wp2_with (refine ld_au _ rfl w.heap.size rfl H1.out rfl ?_)
        refine (LT.out _).mono ?_
        rintro e w2 ⟨rfl, hb⟩
        have HB2 := Lib.hid (bl_then HB1.out hb)
        clear hb LT c1
        go_wp2
        go_ret2
        exact ⟨rfl, HB2.out⟩
    · have e1 : runV x s v = 0 := by unfold runV; rw [if_neg (fun h => h1 ⟨h.2.1, h.2.2.1⟩)]
      have e2 : runE x s v = 11 := by unfold runE; rw [if_pos h0, if_neg h1]
      rw [e1, e2]
      clear h0 e1 e2
      have hd : (decide (s < 0) = true) ∨ (decide (s < 0) = false ∧ decide ((x.acc.length : Int) ≤ s) = true) := by
        by_cases h : s < 0
        · exact .inl (by simpa using h)
        · exact .inr ⟨by simpa using h, by simp; omega⟩
      rcases hd with hd | ⟨hd, hd2⟩
      all_goals
        go_enter Try.func13, Try.ntmps13
        go_wp2_with (refine ld_au _ rfl w.heap.size rfl H0.out rfl ?_)
        refine CK.out.mono ?_
        rintro e w1 ⟨rfl, hb⟩
        have H1 := Lib.hid (hp_below' hb H0.out); have HB1 := Lib.hid (bl_then HB0.out hb)
        have c1 : w1.cell? ⟨w.heap.size, 2, none⟩ = some (.slice B x.acc.length d) := by rw [cell_of_row _ _ _ _ _ _ H1.out]; rfl
        clear hb
        go_wp2
        go_ret2
        exact ⟨rfl, HB1.out⟩
  · have h80 : autE x = 80 := autE_no (fun h => h0 (autE_ok h))
    have e1 : runV x s v = 0 := by unfold runV; rw [if_neg (fun h => h0 h.1)]
    have e2 : runE x s v = 80 := by unfold runE; rw [if_neg h0]
    rw [h80] at CK
    rw [e1, e2]
    clear h0 h80 e1 e2
    go_enter Try.func13, Try.ntmps13
    go_wp2_with (refine ld_au _ rfl w.heap.size rfl H0.out rfl ?_)
    refine CK.out.mono ?_
    rintro e w1 ⟨rfl, hb⟩
    have HB1 := Lib.hid (bl_then HB0.out hb)
    clear hb CK
    go_wp2
    go_ret2
    exact ⟨rfl, HB1.out⟩
end Go.Proofs.Ytjckidjljkjhfaa
