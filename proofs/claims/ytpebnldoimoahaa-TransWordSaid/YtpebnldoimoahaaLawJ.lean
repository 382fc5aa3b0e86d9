/- The walk of the statement TransWord. Printed by gen_word.py. -/
import Derived.Test.YtpebnldoimoahaaAutAll
import Derived.Test.YtpebnldoimoahaaGoodC
namespace Go.Proofs.Ytpebnldoimoahaa
open Go.RowKit Go.Proofs.YtpebnldoimoahaaW.PrintWords
set_option linter.unusedSimpArgs false
set_option linter.unusedVariables false
theorem letB_add (k : Int) (u v : ByteArray) : letB k (u ++ v) = (letB k u && letB k v) := by unfold letB; rw [ByteArray.data_append, Array.toList_append, List.all_append]
theorem fol_add (x : AutV) (s : Nat) (u v : ByteArray) : fol x s (u ++ v).data.toList = fol x (fol x s u.data.toList) v.data.toList := by
  rw [ByteArray.data_append, Array.toList_append]; unfold fol; rw [List.foldl_append]
theorem fol_in {x : AutV} (h : AutOk x) {s : Nat} (hs : s < x.acc.length) {w : ByteArray} (hw : letB x.k w = true) : fol x s w.data.toList < x.acc.length := by
  have := fol_lt h hs hw w.size (Nat.le_refl _)
  rwa [List.take_of_length_le (by simp)] at this
theorem wL_len (x : AutV) (v : ByteArray) : (wL x v).length = x.acc.length := by simp [wL]
theorem wL_getD (x : AutV) (v : ByteArray) (i : Nat) (h : i < x.acc.length) : (wL x v).getD i 0 = fol x i v.data.toList := by simp [wL, List.getD_eq_getElem?_getD, h]
theorem wL_gd {x : AutV} (h : AutOk x) (hm : x.acc.length ≤ 64) {v : ByteArray} (hv : letB x.k v = true) : Gd x.acc.length (wL x v) :=
  ⟨h.2.2.1, hm, wL_len _ _, fun i hi => by rw [wL_getD _ _ _ hi]; exact fol_in h hi hv⟩
theorem wL_add {x : AutV} (h : AutOk x) (hm : x.acc.length ≤ 64) {u v : ByteArray} (hu : letB x.k u = true) (hv : letB x.k v = true) : thn (wL x u) (wL x v) = wL x (u ++ v) := by
  have ha : letB x.k (u ++ v) = true := by rw [letB_add, hu, hv]; rfl
  refine ((wL_gd h hm hu).thn (wL_gd h hm hv)).ext (wL_gd h hm ha) fun i hi => ?_
  rw [thn_getD _ _ _ (by rw [wL_len]; exact hi), wL_getD _ _ _ hi, wL_getD _ _ _ hi, wL_getD _ _ _ (fol_in h hi hu), fol_add]
theorem owE_is {x : AutV} (h : AutOk x) (v : ByteArray) : owE x v = if 64 < x.acc.length then 81 else if letB x.k v then 0 else 21 := by
  unfold owE; rw [if_pos (autE_ok h), wrdE_in h]
theorem owE_add {x : AutV} (h : AutOk x) (u v : ByteArray) : (owE x u = 0 ∧ owE x v = 0) ↔ owE x (u ++ v) = 0 := by
  rw [owE_is h, owE_is h, owE_is h, letB_add]
  by_cases hm : 64 < x.acc.length
  · simp [hm]
  · cases letB x.k u <;> cases letB x.k v <;> simp [hm]
theorem ow_good {x : AutV} (h : AutOk x) {v : ByteArray} (h0 : owE x v = 0) : x.acc.length ≤ 64 ∧ letB x.k v = true := by
  rw [owE_is h] at h0
  split at h0
  · cases h0
  · split at h0
    · exact ⟨by omega, by assumption⟩
    · cases h0

set_option maxRecDepth 100000 in
set_option maxHeartbeats 4000000 in
theorem transWord_any (w : World) (x : AutV) (A : Option Addr) (c : Nat) (B : Option Addr) (d : Nat) (hr : ARd w x A B) (u : ByteArray) (hu : u.size ≤ 140737488351232) (v : ByteArray) (hv : v.size ≤ 140737488351232) :
    Calls Try.prog 11 #[.agg (ac x A c B d), .string u, .string v] w fun e w' => e = .returned (.bool true) ∧ Below w.heap.size w w' := by
  have HR := Aside0.mk hr
  have H0 := Lib.hid ((Hp.start w).alloc (AB x A c B d))
  have CK := Aside0.mk (racheck_any x A c B d)
  clear hr
  by_cases h0 : autE x = 0
  · have hx := autE_is h0
    rw [h0] at CK
    have U1 := Aside0.mk (ofword_any x A c B d u (by omega)); have U2 := Aside0.mk (ofword_any x A c B d v (by omega)); have U3 := Aside0.mk (ofword_any x A c B d (u ++ v) (by rw [ByteArray.size_append]; omega))
    have hadd := owE_add hx u v
    have l1 := Lib.hid (owW_len x u); have l2 := Lib.hid (owW_len x v); have l3 := Lib.hid (owW_len x (u ++ v))
    by_cases hE : owE x u = 0
    · by_cases hF : owE x v = 0
      · have hG := hadd.1 ⟨hE, hF⟩
        obtain ⟨hm, k1⟩ := ow_good hx hE
        have k2 := (ow_good hx hF).2
        have CP := compose_g (wL_gd hx hm k1) (wL_gd hx hm k2)
        rw [wL_add hx hm k1 k2] at CP
        have CP := Aside0.mk CP
        have z1 : owW x u = pks (wL x u) x.acc.length := by unfold owW; rw [if_pos hE]
        have z2 : owW x v = pks (wL x v) x.acc.length := by unfold owW; rw [if_pos hF]
        have z3 : owW x (u ++ v) = pks (wL x (u ++ v)) x.acc.length := by unfold owW; rw [if_pos hG]
        have n1 : owN x u = x.acc.length := by unfold owN; rw [if_pos hE]
        have n2 : owN x v = x.acc.length := by unfold owN; rw [if_pos hF]
        have n3 : owN x (u ++ v) = x.acc.length := by unfold owN; rw [if_pos hG]
        rw [z1] at l1 U1; rw [z2] at l2 U2; rw [z3] at l3 U3
        rw [n1, hE] at U1; rw [n2, hF] at U2; rw [n3, hG] at U3
        clear z1 z2 z3 n1 n2 n3 hE hF hG hadd k1 k2 hm hx h0
        generalize pks (wL x u) x.acc.length = qu at *
        generalize pks (wL x v) x.acc.length = qv at *
        generalize pks (wL x (u ++ v)) x.acc.length = qw at *
        go_enter Try.func11, Try.ntmps11
        go_wp2_with (refine ld_au _ rfl w.heap.size rfl (H0.out.at 0 rfl) rfl ?_)
        refine (CK.out _ (HR.out.below H0.out.2)).mono ?_
        rintro e w1 ⟨rfl, hb⟩
        have H1 := Lib.hid (H0.out.keep hb)
        clear hb H0
        go_wp2_with fail
        refine (knows_any _).mono ?_
        rintro e w2 ⟨rfl, hb⟩
        have H2 := Lib.hid (H1.out.keep hb)
        clear hb H1
        go_wp2_with (refine ld_au _ rfl w.heap.size rfl (H2.out.at 0 rfl) rfl ?_)
        refine (U1.out _ (HR.out.below H2.out.2)).mono ?_
        rintro e w3 ⟨rfl, hb⟩
        have H3 := Lib.hid (H2.out.keep hb)
        clear hb H2
        go_wp2_with (first | (refine st2 _ _ rfl rfl rfl rfl l1.out rfl ?_) | (refine ld_au _ rfl w.heap.size rfl ((H3.out.alloc _).at 1 rfl) rfl ?_))
        refine (U2.out _ (HR.out.below (H3.out.alloc _).2)).mono ?_
        rintro e w4 ⟨rfl, hb⟩
        have H4 := Lib.hid ((H3.out.alloc _).keep hb)
        clear hb H3
        go_wp2_with (first | (refine st2 _ _ rfl rfl rfl rfl l2.out rfl ?_) | (refine ld_au _ rfl w.heap.size rfl ((H4.out.alloc _).at 2 rfl) rfl ?_))
        refine (U3.out _ (HR.out.below (H4.out.alloc _).2)).mono ?_
        rintro e w5 ⟨rfl, hb⟩
        have H5 := Lib.hid ((H4.out.alloc _).keep hb)
        clear hb H4
        go_wp2_with (refine st2 _ _ rfl rfl rfl rfl l3.out rfl ?_)
        refine (num_any _ _).mono ?_
        rintro e w' ⟨rfl, rfl⟩
        go_wp2_with fail
        refine (num_any _ _).mono ?_
        rintro e w' ⟨rfl, rfl⟩
        go_wp2_with (first | (refine ld2 _ rfl w3.heap.size rfl l1.out ((H5.out.alloc _).at 2 rfl) rfl ?_) | (refine ld2 _ rfl w4.heap.size rfl l2.out ((H5.out.alloc _).at 1 rfl) rfl ?_))
        refine (CP.out _).mono ?_
        rintro e w6 ⟨rfl, hb⟩
        have H6 := Lib.hid ((H5.out.alloc _).keep hb)
        clear hb H5
        go_wp2_with (refine st2 _ _ rfl rfl rfl rfl l3.out rfl ?_)
        refine (num_any _ _).mono ?_
        rintro e w' ⟨rfl, rfl⟩
        go_wp2_with fail
        refine (num_any _ _).mono ?_
        rintro e w' ⟨rfl, rfl⟩
        go_wp2_with (first | (refine ld2 _ rfl w5.heap.size rfl l3.out ((H6.out.alloc _).at 1 rfl) rfl ?_) | (refine ld2 _ rfl w6.heap.size rfl l3.out ((H6.out.alloc _).at 0 rfl) rfl ?_) | (refine eq2 _ _ _ rfl true (sameT_dec _ _) rfl rfl l3.out l3.out rfl ?_))
        go_ret
        exact ⟨rfl, (H6.out.alloc _).2⟩
      · have hG : ¬ owE x (u ++ v) = 0 := fun h => hF (hadd.2 h).2
        rw [hE] at U1
        clear hE hadd hx h0
        generalize owE x v = eF at *
        generalize owE x (u ++ v) = eG at *
        generalize owW x u = qu at *
        generalize owW x v = qv at *
        generalize owW x (u ++ v) = qw at *
        go_enter Try.func11, Try.ntmps11
        go_wp2_with (refine ld_au _ rfl w.heap.size rfl (H0.out.at 0 rfl) rfl ?_)
        refine (CK.out _ (HR.out.below H0.out.2)).mono ?_
        rintro e w1 ⟨rfl, hb⟩
        have H1 := Lib.hid (H0.out.keep hb)
        clear hb H0
        go_wp2_with fail
        refine (knows_any _).mono ?_
        rintro e w2 ⟨rfl, hb⟩
        have H2 := Lib.hid (H1.out.keep hb)
        clear hb H1
        go_wp2_with (refine ld_au _ rfl w.heap.size rfl (H2.out.at 0 rfl) rfl ?_)
        refine (U1.out _ (HR.out.below H2.out.2)).mono ?_
        rintro e w3 ⟨rfl, hb⟩
        have H3 := Lib.hid (H2.out.keep hb)
        clear hb H2
        go_wp2_with (first | (refine st2 _ _ rfl rfl rfl rfl l1.out rfl ?_) | (refine ld_au _ rfl w.heap.size rfl ((H3.out.alloc _).at 1 rfl) rfl ?_))
        refine (U2.out _ (HR.out.below (H3.out.alloc _).2)).mono ?_
        rintro e w4 ⟨rfl, hb⟩
        have H4 := Lib.hid ((H3.out.alloc _).keep hb)
        clear hb H3
        go_wp2_with (first | (refine st2 _ _ rfl rfl rfl rfl l2.out rfl ?_) | (refine ld_au _ rfl w.heap.size rfl ((H4.out.alloc _).at 2 rfl) rfl ?_))
        refine (U3.out _ (HR.out.below (H4.out.alloc _).2)).mono ?_
        rintro e w5 ⟨rfl, hb⟩
        have H5 := Lib.hid ((H4.out.alloc _).keep hb)
        clear hb H4
        go_wp2_with (refine st2 _ _ rfl rfl rfl rfl l3.out rfl ?_)
        refine (num_any _ _).mono ?_
        rintro e w' ⟨rfl, rfl⟩
        go_wp2
        go_ret
        exact ⟨by simp [hG], (H5.out.alloc _).2⟩
    · have hG : ¬ owE x (u ++ v) = 0 := fun h => hE (hadd.2 h).1
      clear hadd hx h0
      generalize owE x u = eE at *
      generalize owE x v = eF at *
      generalize owE x (u ++ v) = eG at *
      generalize owW x u = qu at *
      generalize owW x v = qv at *
      generalize owW x (u ++ v) = qw at *
      go_enter Try.func11, Try.ntmps11
      go_wp2_with (refine ld_au _ rfl w.heap.size rfl (H0.out.at 0 rfl) rfl ?_)
      refine (CK.out _ (HR.out.below H0.out.2)).mono ?_
      rintro e w1 ⟨rfl, hb⟩
      have H1 := Lib.hid (H0.out.keep hb)
      clear hb H0
      go_wp2_with fail
      refine (knows_any _).mono ?_
      rintro e w2 ⟨rfl, hb⟩
      have H2 := Lib.hid (H1.out.keep hb)
      clear hb H1
      go_wp2_with (refine ld_au _ rfl w.heap.size rfl (H2.out.at 0 rfl) rfl ?_)
      refine (U1.out _ (HR.out.below H2.out.2)).mono ?_
      rintro e w3 ⟨rfl, hb⟩
      have H3 := Lib.hid (H2.out.keep hb)
      clear hb H2
      go_wp2_with (first | (refine st2 _ _ rfl rfl rfl rfl l1.out rfl ?_) | (refine ld_au _ rfl w.heap.size rfl ((H3.out.alloc _).at 1 rfl) rfl ?_))
      refine (U2.out _ (HR.out.below (H3.out.alloc _).2)).mono ?_
      rintro e w4 ⟨rfl, hb⟩
      have H4 := Lib.hid ((H3.out.alloc _).keep hb)
      clear hb H3
      go_wp2_with (first | (refine st2 _ _ rfl rfl rfl rfl l2.out rfl ?_) | (refine ld_au _ rfl w.heap.size rfl ((H4.out.alloc _).at 2 rfl) rfl ?_))
      refine (U3.out _ (HR.out.below (H4.out.alloc _).2)).mono ?_
      rintro e w5 ⟨rfl, hb⟩
      have H5 := Lib.hid ((H4.out.alloc _).keep hb)
      clear hb H4
      go_wp2_with (refine st2 _ _ rfl rfl rfl rfl l3.out rfl ?_)
      refine (num_any _ _).mono ?_
      rintro e w' ⟨rfl, rfl⟩
      go_wp2
      go_ret
      exact ⟨by simp [hG], (H5.out.alloc _).2⟩
  · have h80 : autE x = 80 := autE_no (fun h => h0 (autE_ok h))
    rw [h80] at CK
    clear h0 h80
    go_enter Try.func11, Try.ntmps11
    go_wp2_with (refine ld_au _ rfl w.heap.size rfl (H0.out.at 0 rfl) rfl ?_)
    refine (CK.out _ (HR.out.below H0.out.2)).mono ?_
    rintro e w1 ⟨rfl, hb⟩
    have H1 := Lib.hid (H0.out.keep hb)
    clear hb H0
    go_wp2_with fail
    refine (knows_any _).mono ?_
    rintro e w2 ⟨rfl, hb⟩
    have H2 := Lib.hid (H1.out.keep hb)
    clear hb H1
    go_wp2
    go_ret
    exact ⟨rfl, H2.out.2⟩
end Go.Proofs.Ytpebnldoimoahaa
