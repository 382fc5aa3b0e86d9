/- The walks of auto.Ahead and auto.Behind. -/
import Derived.Test.YtjckidjljkjhfaaQtP
namespace Go.Proofs.Ytjckidjljkjhfaa
open Go.RowKit Go.Proofs.YtjckidjljkjhfaaW.PrintWords
set_option linter.unusedSimpArgs false
set_option linter.unusedVariables false
set_option maxRecDepth 100000 in
set_option maxHeartbeats 400000 in
theorem aheadG_any (x : AutV) (A : Option Addr) (c : Nat) (B : Option Addr) (d : Nat) (g : Nat) (W : World) (hg : W.heap[g]? = some (AB x A c B d)) (hr : ARd W x A B) (s : Nat) (hs : s < x.acc.length) :
    Calls Try.prog 66 #[.int .i64 (s : Int), .pointer (some ⟨g, 0, none⟩)] W fun e w' => e = .returned (.bool (rdOf false x.acc (s : Int))) ∧ Below W.heap.size W w' := by
  obtain ⟨ad, hA, hcell⟩ := Kd.at_bool hr.acc (s : Int) (by omega) (by omega)
  rw [Int.toNat_natCast] at hcell
  have c1 : W.cell? ⟨g, 2, none⟩ = some (.slice B x.acc.length d) := by rw [cell_of_row _ _ _ _ _ _ hg]; rfl
  generalize rdOf false x.acc (s : Int) = b at *
  subst hA
  clear hr hg
  go_enter Try.func66, Try.ntmps66
  go_wp2
  go_ret
  exact ⟨rfl, Below.refl _ _⟩
set_option maxRecDepth 100000 in
set_option maxHeartbeats 800000 in
theorem ahead_any (x : AutV) (A : Option Addr) (c : Nat) (B : Option Addr) (d : Nat) (v : ByteArray) (hv : v.size ≤ 4611686018427387904) (w : World) (hr : ARd w x A B) :
    Calls Try.prog 32 #[.agg (ac x A c B d), .string v] w fun e w' => ∃ vn va, e = .returned (.tuple #[.agg #[.int .i64 (ahV x v).k, vn, va], .int .i64 (runE x 0 v)]) ∧
      Own w' w.heap.size vn (ahV x v).next ∧ Kd.R Kd.bool 4 w' w.heap.size (fun _ => True) va (ahV x v).acc ∧ Below w.heap.size w w' := by
  have HR := Aside0.mk hr
  have h00 := ((Hp.start w).alloc (AB x A c B d)).alloc (.cells #[.int .i64 0, .slice none 0 0, .slice none 0 0] 25)
  rw [World.size_alloc] at h00
  have H0 := Lib.hid h00
  clear h00
  have RN := Aside0.mk (run_any x A c B d 0 v hv ((w.alloc (AB x A c B d)).alloc (.cells #[.int .i64 0, .slice none 0 0, .slice none 0 0] 25)) (hr.below H0.out.2))
  by_cases h0 : runE x 0 v = 0
  · obtain ⟨hx, wv, rv, lv⟩ := run_is h0
    have FR := Aside0.mk (fun (W : World) (H : Hp [(w.heap.size + 1, .cells #[.int .i64 0, .slice none 0 0, .slice none 0 0] 25), (w.heap.size, AB x A c B d)] w W) => from_any x A c B d hx (runV x 0 v) lv (fun s => rdOf false x.acc (s : Int)) 66 #[.pointer (some ⟨w.heap.size, 0, none⟩)] W (HR.out.below H.2) (fun args W => by kernel_rfl)
      (fun s hs W2 hb => aheadG_any x A c B d w.heap.size W2 (hp_below' hb (H.at 1 rfl)) ((HR.out.below H.2).below hb) s hs))
    rw [ah_of h0]
    rw [h0] at RN ⊢
    have hg : gdA x = fun (s : Nat) => rdOf false x.acc (s : Int) := rfl
    rw [hg]
    generalize srV x.k.toNat (stp x) (runV x 0 v) (fun s => rdOf false x.acc (s : Int)) = V at *
    generalize runV x 0 v = rs at *
    clear hg hx hr h0 wv rv lv
    go_enter Try.func32, Try.ntmps32
    go_wp2_with (refine ld_au _ rfl w.heap.size rfl (H0.out.at 1 rfl) rfl ?_)
    refine RN.out.mono ?_
    rintro e w1 ⟨rfl, hb⟩
    have H1 := Lib.hid (H0.out.keep hb)
    clear hb RN H0
    go_wp2_with (refine ld_au _ rfl w.heap.size rfl (H1.out.at 1 rfl) rfl ?_)
    refine (FR.out w1 H1.out).mono ?_
    rintro e w3 ⟨vn, va, rfl, hn, ha, hb⟩
    obtain ⟨An, cn, rfl⟩ := Kd.R_slice hn
    obtain ⟨Aa, ca, rfl⟩ := Kd.R_slice ha
    have H2 := Lib.hid (H1.out.keep hb)
    have HS := Lib.hid (show w3.heap[w.heap.size + 1]? = some (.cells #[.int .i64 0, .slice none 0 0, .slice none 0 0] 25 (0, 0)) from H2.out.at 0 rfl)
    have HN := Aside0.mk (Kd.R_lower hn H1.out.2.size)
    have HA := Aside0.mk (Kd.R_lower ha H1.out.2.size)
    clear hn ha hb FR H1
    go_wp2_with ((with_reducible refine gate_st (t := 25) rfl ?_); refine wpList_store_row rfl 25 _ _ rfl (w.heap.size + 1) (ac V An cn Aa ca) rfl rfl 25 _ HS.out (by show _ = some 3; kernel_rfl) rfl (by simp [Value.oneCell']) ?_)
    refine bodyPost_ret (v := .tuple #[.agg (ac V An cn Aa ca), .int .i64 0]) ?_ rfl ⟨_, _, rfl, own_rowT HS.out HN.out (by decide) rfl _, own_rowT HS.out HA.out (by decide) rfl _, bl_row H2.out.2 (by omega) _⟩
    refine (results_cell_tmp (p := 4) (t := 5) (by rfl) _ _ (w.heap.size + 1) 25 _ _ _ ?_ (setRow_heap _ _ _ _ _ _ HS.out) Try.underlying25 rfl (by show _ = some 3; kernel_rfl)).trans ?_ <;> rfl
  · have hV : ahV x v = noV := by unfold ahV; rw [if_neg h0]
    rw [hV]
    have hb1 : (runE x 0 v == 0) = false := by rw [beq_eq_false_iff_ne]; exact h0
    generalize runE x 0 v = r at *
    generalize runV x 0 v = rs at *
    clear hV hr h0
    go_enter Try.func32, Try.ntmps32
    go_wp2_with (refine ld_au _ rfl w.heap.size rfl (H0.out.at 1 rfl) rfl ?_)
    refine RN.out.mono ?_
    rintro e w1 ⟨rfl, hb⟩
    have H1 := Lib.hid (H0.out.keep hb)
    have HS := Lib.hid (show w1.heap[w.heap.size + 1]? = some (.cells #[.int .i64 0, .slice none 0 0, .slice none 0 0] 25 (0, 0)) from H1.out.at 0 rfl)
    clear hb RN H0
    go_wp2_with ((with_reducible refine gate_st (t := 25) rfl ?_); refine wpList_store_row rfl 25 _ _ rfl (w.heap.size + 1) #[.int .i64 0, .slice none 0 0, .slice none 0 0] rfl rfl 25 _ HS.out (by show _ = some 3; kernel_rfl) rfl (by simp [Value.oneCell']) ?_)
    refine bodyPost_ret (v := .tuple #[.agg #[.int .i64 0, .slice none 0 0, .slice none 0 0], .int .i64 r]) ?_ rfl ⟨_, _, rfl, Kd.R_nil _ _ _ _ _, Kd.R_nil _ _ _ _ _, bl_row H1.out.2 (by omega) _⟩
    refine (results_cell_tmp (p := 4) (t := 5) (by rfl) _ _ (w.heap.size + 1) 25 _ _ _ ?_ (setRow_heap _ _ _ _ _ _ HS.out) Try.underlying25 rfl (by show _ = some 3; kernel_rfl)).trans ?_ <;> rfl
set_option maxRecDepth 100000 in
set_option maxHeartbeats 400000 in
theorem behindG_any (x : AutV) (A : Option Addr) (c : Nat) (B : Option Addr) (d : Nat) (v : ByteArray) (hx : AutOk x) (hw : wrdE x.k v = 0) (hv : v.size ≤ 4611686018427387904) (g g2 : Nat) (W : World) (hg : W.heap[g]? = some (AB x A c B d)) (hg2 : W.heap[g2]? = some (.cells #[.string v] 9 (0, 0))) (hr : ARd W x A B) (s : Nat) (hs : s < x.acc.length) :
    Calls Try.prog 68 #[.int .i64 (s : Int), .pointer (some ⟨g, 0, none⟩), .pointer (some ⟨g2, 0, none⟩)] W fun e w' => e = .returned (.bool (gdA x (fol x s v.data.toList))) ∧ Below W.heap.size W w' := by
  have hl := fol_lt hx hs (wrdE_ok hw) v.size (Nat.le_refl _)
  rw [List.take_of_length_le (by simp)] at hl
  obtain ⟨ad, hB, hcell⟩ := Kd.at_bool hr.acc ((fol x s v.data.toList : Nat) : Int) (by omega) (by omega)
  rw [Int.toNat_natCast] at hcell
  have FO := Aside0.mk (fun (W' : World) (hR : ARd W' x A B) => follow_any x A c B d s v W' hR hx hs (wrdE_ok hw) hv)
  have HR := Aside0.mk hr
  obtain ⟨b, hbb⟩ : ∃ b, b = gdA x (fol x s v.data.toList) := ⟨_, rfl⟩
  replace hcell : W.cell? (ad.add (fol x s v.data.toList)) = some (.bool b) := by rw [hbb]; exact hcell
  rw [← hbb]
  generalize fol x s v.data.toList = q at *
  subst hB
  have hS0 : W.heap[g]? = some (AB x A c (some ad) d) ∧ W.heap[g2]? = some (.cells #[.string v] 9 (0, 0)) ∧ W.cell? (ad.add q) = some (.bool b) ∧ Below W.heap.size W W := ⟨hg, hg2, hcell, Below.refl _ _⟩
  have HS0 := Lib.hid hS0
  clear hg hg2 hr hx hw hbb hcell hS0
  go_enter Try.func68, Try.ntmps68
  go_wp2
  refine wp_region_held_drew (S := fun w' => w'.heap[g]? = some (AB x A c (some ad) d) ∧ w'.heap[g2]? = some (.cells #[.string v] 9 (0, 0)) ∧ w'.cell? (ad.add q) = some (.bool b) ∧ Below W.heap.size W w') (by kernel_rfl) ⟨HS0.out.1, HS0.out.2.1, HS0.out.2.2.1, HS0.out.2.2.2.drew⟩ (fun hS => ?_)
  refine any_take (i := 0) (v := ?v3) rfl (by kernel_rfl) (by kernel_rfl) (by kernel_rfl) (fun _ _ _ h => h) hS (.inl ⟨by rfl, ?y3⟩) ?_
  case y3 => (intro w' h'; go_simp; with_reducible rfl)
  (try simp only [Act.put, List.setIfInBounds_toArray, List.set_cons_zero, List.set_cons_succ])
  refine any_take (i := 1) (v := (.slice (some ad) x.acc.length d)) rfl (by kernel_rfl) (by kernel_rfl) (by kernel_rfl) (fun _ _ _ h => h) hS (yi_cell _ _ rfl (by rfl) ⟨g, 2, none⟩ rfl _ Try.underlying23 rfl (fun w' h' => (by rw [cell_of_row _ _ _ _ _ _ h'.1]; rfl))) ?_
  (try simp only [Act.put, List.setIfInBounds_toArray, List.set_cons_zero, List.set_cons_succ])
  refine any_take (i := 2) rfl (by kernel_rfl) (by kernel_rfl) (by kernel_rfl) (fun _ _ _ h => h) hS (yi_row _ _ rfl (by rfl) (g) rfl (ac x A c (some ad) d) _ Try.underlying25 rfl (au_z _ _ _ _ _) (fun w' h' => ⟨_, _, h'.1⟩)) ?_
  (try simp only [Act.put, List.setIfInBounds_toArray, List.set_cons_zero, List.set_cons_succ])
  refine any_take (i := 3) (v := ?v7) rfl (by kernel_rfl) (by kernel_rfl) (by kernel_rfl) (fun _ _ _ h => h) hS (.inl ⟨by rfl, ?y7⟩) ?_
  case y7 => (intro w' h'; go_simp; with_reducible rfl)
  (try simp only [Act.put, List.setIfInBounds_toArray, List.set_cons_zero, List.set_cons_succ])
  refine any_take (i := 4) (v := (.string v)) rfl (by kernel_rfl) (by kernel_rfl) (by kernel_rfl) (fun _ _ _ h => h) hS (yi_cell _ _ rfl (by rfl) ⟨g2, 0, none⟩ rfl _ Try.underlying9 rfl (fun w' h' => (by rw [cell_of_row _ _ _ _ _ _ h'.2.1]; rfl))) ?_
  (try simp only [Act.put, List.setIfInBounds_toArray, List.set_cons_zero, List.set_cons_succ])
  refine any_call (i := 5) rfl (by kernel_rfl) (by rfl) 52 #[.agg (ac x A c (some ad) d), .int .i64 (s : Int), .string v] ?x9 (FO.out _ (HR.out.below hS.2.2.2)) ?_
  case x9 => (simp [go_sem])
  (try simp only [Act.put, List.setIfInBounds_toArray, List.set_cons_zero, List.set_cons_succ])
  rintro e w1 ⟨rfl, hb⟩
  have hS1 : w1.heap[g]? = some (AB x A c (some ad) d) ∧ w1.heap[g2]? = some (.cells #[.string v] 9 (0, 0)) ∧ w1.cell? (ad.add q) = some (.bool b) ∧ Below W.heap.size W w1 := ⟨hp_below' hb hS.1, hp_below' hb hS.2.1, (hb.cell (World.block_lt_of_cell? _ _ hS.2.2.1)).trans hS.2.2.1, bl_then hS.2.2.2 hb⟩
  refine ⟨_, rfl, hS1, ?_⟩
  (try simp only [Act.put, List.setIfInBounds_toArray, List.set_cons_zero, List.set_cons_succ])
  refine any_take (i := 6) (v := ?v13) rfl (by kernel_rfl) (by kernel_rfl) (by kernel_rfl) (fun _ _ _ h => h) hS1 (.inl ⟨by rfl, ?y13⟩) ?_
  case y13 => (intro w' h'; go_simp; with_reducible rfl)
  (try simp only [Act.put, List.setIfInBounds_toArray, List.set_cons_zero, List.set_cons_succ])
  refine any_take (i := 7) (v := (.bool b)) rfl (by kernel_rfl) (by kernel_rfl) (by kernel_rfl) (fun _ _ _ h => h) hS1 (yi_cell _ _ rfl (by rfl) (ad.add q) rfl _ Try.underlying4 rfl (fun w' h' => h'.2.2.1)) ?_
  (try simp only [Act.put, List.setIfInBounds_toArray, List.set_cons_zero, List.set_cons_succ])
  refine any_take (i := 8) (v := ?v16) rfl (by kernel_rfl) (by kernel_rfl) (by kernel_rfl) (fun _ _ _ h => h) hS1 (.inl ⟨by rfl, ?y16⟩) ?_
  case y16 => (intro w' h'; go_simp; with_reducible rfl)
  (try simp only [Act.put, List.setIfInBounds_toArray, List.set_cons_zero, List.set_cons_succ])
  refine wpAnyH_done (by kernel_rfl) ?_ _
  have HF := Lib.hid hS1.2.2.2
  clear hS hS1 hb
  go_wp2
  go_ret
  exact ⟨rfl, HF.out⟩
set_option maxRecDepth 100000 in
set_option maxHeartbeats 800000 in
theorem behind_any (x : AutV) (A : Option Addr) (c : Nat) (B : Option Addr) (d : Nat) (v : ByteArray) (hv : v.size ≤ 4611686018427387904) (w : World) (hr : ARd w x A B) :
    Calls Try.prog 34 #[.agg (ac x A c B d), .string v] w fun e w' => ∃ vn va, e = .returned (.tuple #[.agg #[.int .i64 (bhV x v).k, vn, va], .int .i64 (runE x 0 v)]) ∧
      Own w' w.heap.size vn (bhV x v).next ∧ Kd.R Kd.bool 4 w' w.heap.size (fun _ => True) va (bhV x v).acc ∧ Below w.heap.size w w' := by
  have HR := Aside0.mk hr
  have h00 := (((Hp.start w).alloc (AB x A c B d)).alloc (.cells #[.string v] 9)).alloc (.cells #[.int .i64 0, .slice none 0 0, .slice none 0 0] 25)
  rw [World.size_alloc, World.size_alloc] at h00
  have H0 := Lib.hid h00
  clear h00
  have CK := Aside0.mk (acheck_any x A c B d (((w.alloc (AB x A c B d)).alloc (.cells #[.string v] 9)).alloc (.cells #[.int .i64 0, .slice none 0 0, .slice none 0 0] 25)) (hr.below H0.out.2))
  have LT := Aside0.mk (letters_any x A c B d v)
  by_cases ha : autE x = 0
  · have hx := autE_is ha
    rw [ha] at CK
    by_cases h1 : wrdE x.k v = 0
    · have h0 : runE x 0 v = 0 := run_ok hx h1
      have FR := Aside0.mk (fun (W : World) (H : Hp [(w.heap.size + 1 + 1, .cells #[.int .i64 0, .slice none 0 0, .slice none 0 0] 25), (w.heap.size + 1, .cells #[.string v] 9), (w.heap.size, AB x A c B d)] w W) => from_any x A c B d hx 0 (by have := hx.2.2.1; omega) (fun s => gdA x (fol x s v.data.toList)) 68 #[.pointer (some ⟨w.heap.size, 0, none⟩), .pointer (some ⟨w.heap.size + 1, 0, none⟩)] W (HR.out.below H.2) (fun args W => by kernel_rfl)
        (fun s hs W2 hb => behindG_any x A c B d v hx h1 hv w.heap.size (w.heap.size + 1) W2 (hp_below' hb (H.at 2 rfl)) (hp_below' hb (H.at 1 rfl)) ((HR.out.below H.2).below hb) s hs))
      rw [bh_of h0, h0]
      rw [h1] at LT
      generalize srV x.k.toNat (stp x) 0 (fun s => gdA x (fol x s v.data.toList)) = V at *
      clear hx hr h0 h1 ha
      go_enter Try.func34, Try.ntmps34
      go_wp2_with (refine ld_au _ rfl w.heap.size rfl (H0.out.at 2 rfl) rfl ?_)
      refine CK.out.mono ?_
      rintro e w1 ⟨rfl, hb⟩
      have H1 := Lib.hid (H0.out.keep hb)
      have c1 : w1.cell? ⟨w.heap.size + 1, 0, none⟩ = some (.string v) := by rw [cell_of_row _ _ _ _ _ _ (H1.out.at 1 rfl)]; rfl
      clear hb CK H0
      go_wp2_with (refine ld_au _ rfl w.heap.size rfl (H1.out.at 2 rfl) rfl ?_)
      refine (LT.out _).mono ?_
      rintro e w2 ⟨rfl, hb⟩
      have H2 := Lib.hid (H1.out.keep hb)
      clear hb LT H1 c1
      go_wp2_with (refine ld_au _ rfl w.heap.size rfl (H2.out.at 2 rfl) rfl ?_)
      refine (FR.out w2 H2.out).mono ?_
      rintro e w3 ⟨vn, va, rfl, hn, ha, hb⟩
      obtain ⟨An, cn, rfl⟩ := Kd.R_slice hn
      obtain ⟨Aa, ca, rfl⟩ := Kd.R_slice ha
      have H3 := Lib.hid (H2.out.keep hb)
      have HS := Lib.hid (show w3.heap[w.heap.size + 1 + 1]? = some (.cells #[.int .i64 0, .slice none 0 0, .slice none 0 0] 25 (0, 0)) from H3.out.at 0 rfl)
      have HN := Aside0.mk (Kd.R_lower hn H2.out.2.size)
      have HA := Aside0.mk (Kd.R_lower ha H2.out.2.size)
      clear hn ha hb FR H2
      go_wp2_with ((with_reducible refine gate_st (t := 25) rfl ?_); refine wpList_store_row rfl 25 _ _ rfl (w.heap.size + 1 + 1) (ac V An cn Aa ca) rfl rfl 25 _ HS.out (by show _ = some 3; kernel_rfl) rfl (by simp [Value.oneCell']) ?_)
      refine bodyPost_ret (v := .tuple #[.agg (ac V An cn Aa ca), .int .i64 0]) ?_ rfl ⟨_, _, rfl, own_rowT HS.out HN.out (by decide) rfl _, own_rowT HS.out HA.out (by decide) rfl _, bl_row H3.out.2 (by omega) _⟩
      refine (results_cell_tmp (p := 4) (t := 5) (by rfl) _ _ (w.heap.size + 1 + 1) 25 _ _ _ ?_ (setRow_heap _ _ _ _ _ _ HS.out) Try.underlying25 rfl (by show _ = some 3; kernel_rfl)).trans ?_ <;> rfl
    · have h0 : runE x 0 v = wrdE x.k v := by unfold runE; rw [if_pos ha, if_pos ⟨Int.le_refl 0, by have := hx.2.2.1; omega⟩]
      have hV : bhV x v = noV := by unfold bhV; rw [h0, if_neg h1]
      rw [hV, h0]
      have hb1 : (wrdE x.k v == 0) = false := by rw [beq_eq_false_iff_ne]; exact h1
      generalize wrdE x.k v = r at *
      clear hx hr h0 h1 ha hV
      go_enter Try.func34, Try.ntmps34
      go_wp2_with (refine ld_au _ rfl w.heap.size rfl (H0.out.at 2 rfl) rfl ?_)
      refine CK.out.mono ?_
      rintro e w1 ⟨rfl, hb⟩
      have H1 := Lib.hid (H0.out.keep hb)
      have c1 : w1.cell? ⟨w.heap.size + 1, 0, none⟩ = some (.string v) := by rw [cell_of_row _ _ _ _ _ _ (H1.out.at 1 rfl)]; rfl
      clear hb CK H0
      go_wp2_with (refine ld_au _ rfl w.heap.size rfl (H1.out.at 2 rfl) rfl ?_)
      refine (LT.out _).mono ?_
      rintro e w2 ⟨rfl, hb⟩
      have H2 := Lib.hid (H1.out.keep hb)
      have HS := Lib.hid (show w2.heap[w.heap.size + 1 + 1]? = some (.cells #[.int .i64 0, .slice none 0 0, .slice none 0 0] 25 (0, 0)) from H2.out.at 0 rfl)
      clear hb LT H1 c1
      go_wp2_with ((with_reducible refine gate_st (t := 25) rfl ?_); refine wpList_store_row rfl 25 _ _ rfl (w.heap.size + 1 + 1) #[.int .i64 0, .slice none 0 0, .slice none 0 0] rfl rfl 25 _ HS.out (by show _ = some 3; kernel_rfl) rfl (by simp [Value.oneCell']) ?_)
      refine bodyPost_ret (v := .tuple #[.agg #[.int .i64 0, .slice none 0 0, .slice none 0 0], .int .i64 r]) ?_ rfl ⟨_, _, rfl, Kd.R_nil _ _ _ _ _, Kd.R_nil _ _ _ _ _, bl_row H2.out.2 (by omega) _⟩
      refine (results_cell_tmp (p := 4) (t := 5) (by rfl) _ _ (w.heap.size + 1 + 1) 25 _ _ _ ?_ (setRow_heap _ _ _ _ _ _ HS.out) Try.underlying25 rfl (by show _ = some 3; kernel_rfl)).trans ?_ <;> rfl
  · have h80 : autE x = 80 := autE_no (fun h => ha (autE_ok h))
    have h0 : runE x 0 v = 80 := by unfold runE; rw [if_neg ha]
    have hV : bhV x v = noV := by unfold bhV; rw [h0, if_neg (by decide)]
    rw [hV, h0]
    rw [h80] at CK
    clear hr h0 h80 ha hV
    go_enter Try.func34, Try.ntmps34
    go_wp2_with (refine ld_au _ rfl w.heap.size rfl (H0.out.at 2 rfl) rfl ?_)
    refine CK.out.mono ?_
    rintro e w1 ⟨rfl, hb⟩
    have H1 := Lib.hid (H0.out.keep hb)
    have HS := Lib.hid (show w1.heap[w.heap.size + 1 + 1]? = some (.cells #[.int .i64 0, .slice none 0 0, .slice none 0 0] 25 (0, 0)) from H1.out.at 0 rfl)
    clear hb CK H0
    go_wp2_with ((with_reducible refine gate_st (t := 25) rfl ?_); refine wpList_store_row rfl 25 _ _ rfl (w.heap.size + 1 + 1) #[.int .i64 0, .slice none 0 0, .slice none 0 0] rfl rfl 25 _ HS.out (by show _ = some 3; kernel_rfl) rfl (by simp [Value.oneCell']) ?_)
    refine bodyPost_ret (v := .tuple #[.agg #[.int .i64 0, .slice none 0 0, .slice none 0 0], .int .i64 80]) ?_ rfl ⟨_, _, rfl, Kd.R_nil _ _ _ _ _, Kd.R_nil _ _ _ _ _, bl_row H1.out.2 (by omega) _⟩
    refine (results_cell_tmp (p := 4) (t := 5) (by rfl) _ _ (w.heap.size + 1 + 1) 25 _ _ _ ?_ (setRow_heap _ _ _ _ _ _ HS.out) Try.underlying25 rfl (by show _ = some 3; kernel_rfl)).trans ?_ <;> rfl
end Go.Proofs.Ytjckidjljkjhfaa
