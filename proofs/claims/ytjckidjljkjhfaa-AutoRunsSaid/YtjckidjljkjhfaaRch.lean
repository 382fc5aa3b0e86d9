/- The walks of auto.Reach and auto.Not. -/
import Derived.Test.YtjckidjljkjhfaaFrom
namespace Go.Proofs.Ytjckidjljkjhfaa
open Go.RowKit Go.Proofs.YtjckidjljkjhfaaW.PrintWords
set_option linter.unusedSimpArgs false
set_option linter.unusedVariables false
set_option maxRecDepth 100000 in
set_option maxHeartbeats 400000 in
theorem notG_any (x : AutV) (A : Option Addr) (c : Nat) (B : Option Addr) (d : Nat) (g : Nat) (W : World) (hg : W.heap[g]? = some (AB x A c B d)) (hr : ARd W x A B) (s : Nat) (hs : s < x.acc.length) :
    Calls Try.prog 60 #[.int .i64 (s : Int), .pointer (some ⟨g, 0, none⟩)] W fun e w' => e = .returned (.bool (!rdOf false x.acc (s : Int))) ∧ Below W.heap.size W w' := by
  obtain ⟨ad, hA, hcell⟩ := Kd.at_bool hr.acc (s : Int) (by omega) (by omega)
  rw [Int.toNat_natCast] at hcell
  have c1 : W.cell? ⟨g, 2, none⟩ = some (.slice B x.acc.length d) := by rw [cell_of_row _ _ _ _ _ _ hg]; rfl
  generalize rdOf false x.acc (s : Int) = b at *
  subst hA
  clear hr hg
  go_enter Try.func60, Try.ntmps60
  go_wp2
  go_ret
  exact ⟨rfl, Below.refl _ _⟩
/-- What is told of an automaton that may not be: the empty one. -/
def noV : AutV := ⟨0, [], []⟩
/-- The states met from one, if the automaton may be. -/
noncomputable def fromV (x : AutV) (first : Nat) (good : Nat → Bool) : AutV := if autE x = 0 then srV x.k.toNat (stp x) first good else noV
set_option maxRecDepth 100000 in
set_option maxHeartbeats 800000 in
theorem reach_any (x : AutV) (A : Option Addr) (c : Nat) (B : Option Addr) (d : Nat) (w : World) (hr : ARd w x A B) :
    Calls Try.prog 24 #[.agg (ac x A c B d)] w fun e w' => ∃ vn va, e = .returned (.tuple #[.agg #[.int .i64 (fromV x 0 (fun s => rdOf false x.acc (s : Int))).k, vn, va], .int .i64 (autE x)]) ∧
      Own w' w.heap.size vn (fromV x 0 (fun s => rdOf false x.acc (s : Int))).next ∧ Kd.R Kd.bool 4 w' w.heap.size (fun _ => True) va (fromV x 0 (fun s => rdOf false x.acc (s : Int))).acc ∧ Below w.heap.size w w' := by
  have HR := Aside0.mk hr
  have h00 := ((Hp.start w).alloc (AB x A c B d)).alloc (.cells #[.int .i64 0, .slice none 0 0, .slice none 0 0] 25)
  rw [World.size_alloc] at h00
  have H0 := Lib.hid h00
  clear h00
  have CK := Aside0.mk (acheck_any x A c B d ((w.alloc (AB x A c B d)).alloc (.cells #[.int .i64 0, .slice none 0 0, .slice none 0 0] 25)) (hr.below H0.out.2))
  by_cases h0 : autE x = 0
  · have hx := autE_is h0
    have FR := Aside0.mk (fun (W : World) (H : Hp [(w.heap.size + 1, .cells #[.int .i64 0, .slice none 0 0, .slice none 0 0] 25), (w.heap.size, AB x A c B d)] w W) => from_any x A c B d hx 0 (by have := hx.2.2.1; omega) (fun s => rdOf false x.acc (s : Int)) 58 #[.pointer (some ⟨w.heap.size, 0, none⟩)] W (HR.out.below H.2) (fun args W => by kernel_rfl)
      (fun s hs W2 hb => reachG_any x A c B d w.heap.size W2 (hp_below' hb (H.at 1 rfl)) ((HR.out.below H.2).below hb) s hs))
    have hV : fromV x 0 (fun s => rdOf false x.acc (s : Int)) = srV x.k.toNat (stp x) 0 (fun s => rdOf false x.acc (s : Int)) := by unfold fromV; rw [if_pos h0]
    rw [hV]
    rw [h0] at CK ⊢
    generalize srV x.k.toNat (stp x) 0 (fun s => rdOf false x.acc (s : Int)) = V at *
    clear hV hx hr h0
    go_enter Try.func24, Try.ntmps24
    go_wp2_with (refine ld_au _ rfl w.heap.size rfl (H0.out.at 1 rfl) rfl ?_)
    refine CK.out.mono ?_
    rintro e w1 ⟨rfl, hb⟩
    have H1 := Lib.hid (H0.out.keep hb)
    clear hb CK H0
    go_wp2_with (refine ld_au _ rfl w.heap.size rfl (H1.out.at 1 rfl) rfl ?_)
    refine (FR.out w1 H1.out).mono ?_
    rintro e w3 ⟨vn, va, rfl, hn, ha, hb⟩
    obtain ⟨An, cn, rfl⟩ := Kd.R_slice hn
    obtain ⟨Aa, ca, rfl⟩ := Kd.R_slice ha
    have H2 := Lib.hid (H1.out.keep hb)
    have HS := Lib.hid (show w3.heap[w.heap.size + 1]? = some (.cells #[.int .i64 0, .slice none 0 0, .slice none 0 0] 25 (0, 0)) from H2.out.at 0 rfl)
    have HN := Aside0.mk (Kd.R_lower hn H1.out.2.size)
    have HA := Aside0.mk (Kd.R_lower ha H1.out.2.size)
    clear hn ha hb FR H1
    go_wp2_with ((with_reducible refine gate_st (t := 25) rfl ?_); refine wpList_store_row rfl 25 _ _ rfl (w.heap.size + 1) (ac V An cn Aa ca) rfl rfl 25 _ HS.out (by show _ = some 3; kernel_rfl) rfl (by simp [Value.oneCell']) ?_)
    refine bodyPost_ret (v := .tuple #[.agg (ac V An cn Aa ca), .int .i64 0]) ?_ rfl ⟨_, _, rfl, own_rowT HS.out HN.out (by decide) rfl _, own_rowT HS.out HA.out (by decide) rfl _, bl_row H2.out.2 (by omega) _⟩
    refine (results_cell_tmp (p := 2) (t := 3) (by rfl) _ _ (w.heap.size + 1) 25 _ _ _ ?_ (setRow_heap _ _ _ _ _ _ HS.out) Try.underlying25 rfl (by show _ = some 3; kernel_rfl)).trans ?_ <;> rfl
  · have h80 : autE x = 80 := autE_no (fun h => h0 (autE_ok h))
    have hV : fromV x 0 (fun s => rdOf false x.acc (s : Int)) = noV := by unfold fromV; rw [if_neg h0]
    rw [hV]
    rw [h80] at CK ⊢
    clear hV hr h0 h80
    go_enter Try.func24, Try.ntmps24
    go_wp2_with (refine ld_au _ rfl w.heap.size rfl (H0.out.at 1 rfl) rfl ?_)
    refine CK.out.mono ?_
    rintro e w1 ⟨rfl, hb⟩
    have H1 := Lib.hid (H0.out.keep hb)
    have HS := Lib.hid (show w1.heap[w.heap.size + 1]? = some (.cells #[.int .i64 0, .slice none 0 0, .slice none 0 0] 25 (0, 0)) from H1.out.at 0 rfl)
    clear hb CK H0
    go_wp2_with ((with_reducible refine gate_st (t := 25) rfl ?_); refine wpList_store_row rfl 25 _ _ rfl (w.heap.size + 1) #[.int .i64 0, .slice none 0 0, .slice none 0 0] rfl rfl 25 _ HS.out (by show _ = some 3; kernel_rfl) rfl (by simp [Value.oneCell']) ?_)
    refine bodyPost_ret (v := .tuple #[.agg #[.int .i64 0, .slice none 0 0, .slice none 0 0], .int .i64 80]) ?_ rfl ⟨_, _, rfl, Kd.R_nil _ _ _ _ _, Kd.R_nil _ _ _ _ _, bl_row H1.out.2 (by omega) _⟩
    refine (results_cell_tmp (p := 2) (t := 3) (by rfl) _ _ (w.heap.size + 1) 25 _ _ _ ?_ (setRow_heap _ _ _ _ _ _ HS.out) Try.underlying25 rfl (by show _ = some 3; kernel_rfl)).trans ?_ <;> rfl
set_option maxRecDepth 100000 in
set_option maxHeartbeats 800000 in
theorem not_any (x : AutV) (A : Option Addr) (c : Nat) (B : Option Addr) (d : Nat) (w : World) (hr : ARd w x A B) :
    Calls Try.prog 26 #[.agg (ac x A c B d)] w fun e w' => ∃ vn va, e = .returned (.tuple #[.agg #[.int .i64 (fromV x 0 (fun s => !rdOf false x.acc (s : Int))).k, vn, va], .int .i64 (autE x)]) ∧
      Own w' w.heap.size vn (fromV x 0 (fun s => !rdOf false x.acc (s : Int))).next ∧ Kd.R Kd.bool 4 w' w.heap.size (fun _ => True) va (fromV x 0 (fun s => !rdOf false x.acc (s : Int))).acc ∧ Below w.heap.size w w' := by
  have HR := Aside0.mk hr
  have h00 := ((Hp.start w).alloc (AB x A c B d)).alloc (.cells #[.int .i64 0, .slice none 0 0, .slice none 0 0] 25)
  rw [World.size_alloc] at h00
  have H0 := Lib.hid h00
  clear h00
  have CK := Aside0.mk (acheck_any x A c B d ((w.alloc (AB x A c B d)).alloc (.cells #[.int .i64 0, .slice none 0 0, .slice none 0 0] 25)) (hr.below H0.out.2))
  by_cases h0 : autE x = 0
  · have hx := autE_is h0
    have FR := Aside0.mk (fun (W : World) (H : Hp [(w.heap.size + 1, .cells #[.int .i64 0, .slice none 0 0, .slice none 0 0] 25), (w.heap.size, AB x A c B d)] w W) => from_any x A c B d hx 0 (by have := hx.2.2.1; omega) (fun s => !rdOf false x.acc (s : Int)) 60 #[.pointer (some ⟨w.heap.size, 0, none⟩)] W (HR.out.below H.2) (fun args W => by kernel_rfl)
      (fun s hs W2 hb => notG_any x A c B d w.heap.size W2 (hp_below' hb (H.at 1 rfl)) ((HR.out.below H.2).below hb) s hs))
    have hV : fromV x 0 (fun s => !rdOf false x.acc (s : Int)) = srV x.k.toNat (stp x) 0 (fun s => !rdOf false x.acc (s : Int)) := by unfold fromV; rw [if_pos h0]
    rw [hV]
    rw [h0] at CK ⊢
    generalize srV x.k.toNat (stp x) 0 (fun s => !rdOf false x.acc (s : Int)) = V at *
    clear hV hx hr h0
    go_enter Try.func26, Try.ntmps26
    go_wp2_with (refine ld_au _ rfl w.heap.size rfl (H0.out.at 1 rfl) rfl ?_)
    refine CK.out.mono ?_
    rintro e w1 ⟨rfl, hb⟩
    have H1 := Lib.hid (H0.out.keep hb)
    clear hb CK H0
    go_wp2_with (refine ld_au _ rfl w.heap.size rfl (H1.out.at 1 rfl) rfl ?_)
    refine (FR.out w1 H1.out).mono ?_
    rintro e w3 ⟨vn, va, rfl, hn, ha, hb⟩
    obtain ⟨An, cn, rfl⟩ := Kd.R_slice hn
    obtain ⟨Aa, ca, rfl⟩ := Kd.R_slice ha
    have H2 := Lib.hid (H1.out.keep hb)
    have HS := Lib.hid (show w3.heap[w.heap.size + 1]? = some (.cells #[.int .i64 0, .slice none 0 0, .slice none 0 0] 25 (0, 0)) from H2.out.at 0 rfl)
    have HN := Aside0.mk (Kd.R_lower hn H1.out.2.size)
    have HA := Aside0.mk (Kd.R_lower ha H1.out.2.size)
    clear hn ha hb FR H1
    go_wp2_with ((with_reducible refine gate_st (t := 25) rfl ?_); refine wpList_store_row rfl 25 _ _ rfl (w.heap.size + 1) (ac V An cn Aa ca) rfl rfl 25 _ HS.out (by show _ = some 3; kernel_rfl) rfl (by simp [Value.oneCell']) ?_)
    refine bodyPost_ret (v := .tuple #[.agg (ac V An cn Aa ca), .int .i64 0]) ?_ rfl ⟨_, _, rfl, own_rowT HS.out HN.out (by decide) rfl _, own_rowT HS.out HA.out (by decide) rfl _, bl_row H2.out.2 (by omega) _⟩
    refine (results_cell_tmp (p := 2) (t := 3) (by rfl) _ _ (w.heap.size + 1) 25 _ _ _ ?_ (setRow_heap _ _ _ _ _ _ HS.out) Try.underlying25 rfl (by show _ = some 3; kernel_rfl)).trans ?_ <;> rfl
  · have h80 : autE x = 80 := autE_no (fun h => h0 (autE_ok h))
    have hV : fromV x 0 (fun s => !rdOf false x.acc (s : Int)) = noV := by unfold fromV; rw [if_neg h0]
    rw [hV]
    rw [h80] at CK ⊢
    clear hV hr h0 h80
    go_enter Try.func26, Try.ntmps26
    go_wp2_with (refine ld_au _ rfl w.heap.size rfl (H0.out.at 1 rfl) rfl ?_)
    refine CK.out.mono ?_
    rintro e w1 ⟨rfl, hb⟩
    have H1 := Lib.hid (H0.out.keep hb)
    have HS := Lib.hid (show w1.heap[w.heap.size + 1]? = some (.cells #[.int .i64 0, .slice none 0 0, .slice none 0 0] 25 (0, 0)) from H1.out.at 0 rfl)
    clear hb CK H0
    go_wp2_with ((with_reducible refine gate_st (t := 25) rfl ?_); refine wpList_store_row rfl 25 _ _ rfl (w.heap.size + 1) #[.int .i64 0, .slice none 0 0, .slice none 0 0] rfl rfl 25 _ HS.out (by show _ = some 3; kernel_rfl) rfl (by simp [Value.oneCell']) ?_)
    refine bodyPost_ret (v := .tuple #[.agg #[.int .i64 0, .slice none 0 0, .slice none 0 0], .int .i64 80]) ?_ rfl ⟨_, _, rfl, Kd.R_nil _ _ _ _ _, Kd.R_nil _ _ _ _ _, bl_row H1.out.2 (by omega) _⟩
    refine (results_cell_tmp (p := 2) (t := 3) (by rfl) _ _ (w.heap.size + 1) 25 _ _ _ ?_ (setRow_heap _ _ _ _ _ _ HS.out) Try.underlying25 rfl (by show _ = some 3; kernel_rfl)).trans ?_ <;> rfl
end Go.Proofs.Ytjckidjljkjhfaa
