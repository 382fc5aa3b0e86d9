/- minim.Minimal and minim.Is where there is no automaton; both whatever comes in. -/
import Derived.Test.YtjedippbjjedlaaIsM
namespace Go.Proofs.Ytjedippbjjedlaa
open Go.RowKit Go.Proofs.YtjedippbjjedlaaW.PrintWords
set_option linter.unusedSimpArgs false
set_option linter.unusedVariables false
set_option maxRecDepth 100000 in
set_option maxHeartbeats 800000 in
theorem minimal_err (x : AutV) (A : Option Addr) (c : Nat) (B : Option Addr) (d : Nat) (hx : ¬ AutOk x) (w : World) (hr : ARd w x A B) :
    Calls Try.prog 25 #[.agg (ac x A c B d)] w fun e w' => e = .returned (.tuple #[.agg #[.int .i64 0, .slice none 0 0, .slice none 0 0], .slice none 0 0, .int .i64 80]) ∧ Below w.heap.size w w' := by
  have HR := Aside0.mk hr
  have CK := Aside0.mk (fun (W : World) (h : ARd W x A B) => acheck_any x A c B d W h)
  rw [autE_no hx] at CK
  have A0 := Lib.hid (((Hp.start w).alloc (AB x A c B d)).alloc (.cells #[.int .i64 0, .slice none 0 0, .slice none 0 0] 25))
  rw [World.size_alloc] at A0
  clear hr hx
  go_enter Try.func25, Try.ntmps25
  go_wp2_with (refine ld_au _ rfl w.heap.size rfl (A0.out.at 1 rfl) rfl ?_)
  refine (CK.out _ (HR.out.below A0.out.2)).mono ?_
  rintro e w1 ⟨rfl, hb⟩
  have A1 := Lib.hid (A0.out.keep hb)
  clear hb CK A0
  go_wp2_with ((with_reducible refine gate_st (t := 25) rfl ?_); refine wpList_store_row rfl 25 _ _ rfl (w.heap.size + 1) #[.int .i64 0, .slice none 0 0, .slice none 0 0] rfl rfl 25 _ (A1.out.at 0 rfl) (by show _ = some 3; kernel_rfl) rfl (by simp [Value.oneCell']) ?_)
  refine bodyPost_ret (v := .tuple #[.agg #[.int .i64 0, .slice none 0 0, .slice none 0 0], .slice none 0 0, .int .i64 80]) ?_ rfl ⟨rfl, bl_row A1.out.2 (by omega) _⟩
  refine (results_cell_tmp2 (p := 2) (t := 3) (u := 4) (by rfl) _ _ (w.heap.size + 1) 25 _ _ _ ?_ (setRow_heap _ _ _ _ _ _ (A1.out.at 0 rfl)) Try.underlying25 rfl (by show _ = some 3; kernel_rfl)).trans ?_ <;> rfl
set_option maxRecDepth 100000 in
set_option maxHeartbeats 800000 in
theorem is_err (x : AutV) (A : Option Addr) (c : Nat) (B : Option Addr) (d : Nat) (hx : ¬ AutOk x) (w : World) (hr : ARd w x A B) :
    Calls Try.prog 27 #[.agg (ac x A c B d)] w fun e w' => e = .returned (.tuple #[.bool false, .int .i64 80]) ∧ Below w.heap.size w w' := by
  have H0 := Lib.hid ((Hp.start w).alloc (AB x A c B d))
  have MN := Aside0.mk (minimal_err x A c B d hx (w.alloc (AB x A c B d)) (hr.below H0.out.2))
  clear hr hx
  go_enter Try.func27, Try.ntmps27
  go_wp2_with (refine ld_au _ rfl w.heap.size rfl (H0.out.at 0 rfl) rfl ?_)
  refine MN.out.mono ?_
  rintro e w1 ⟨rfl, hb⟩
  have H1 := Lib.hid (H0.out.keep hb)
  have H2 := Lib.hid (H1.out.alloc (AB ⟨0, [], []⟩ none 0 none 0))
  clear hb MN H0
  go_wp2_with ((with_reducible refine gate_st (t := 25) rfl ?_); refine st_au_new (y := ⟨0, [], []⟩) (A := none) (c := 0) (B := none) (d := 0) _ _ rfl rfl rfl rfl rfl ?_)
  go_ret2
  exact ⟨rfl, H2.out.2⟩
/-- Minimal, whatever comes in. -/
theorem minimalv_any (x : AutV) (A : Option Addr) (c : Nat) (B : Option Addr) (d : Nat) (w : World) (hr : ARd w x A B) :
    Calls Try.prog 25 #[.agg (ac x A c B d)] w fun e w' => ∃ vn va vt, e = .returned (.tuple #[.agg #[.int .i64 (minV x).k, vn, va], vt, .int .i64 (autE x)]) ∧ Own w' w.heap.size vn (minV x).next ∧ Kd.R Kd.bool 4 w' w.heap.size (fun _ => True) va (minV x).acc ∧ Own w' w.heap.size vt (minT x) ∧ sep vn vt ∧ Below w.heap.size w w' := by
  by_cases h : AutOk x
  · have h0 := autE_ok h
    rw [h0, show minV x = mAut x by unfold minV; rw [if_pos h0], show minT x = mTo x by unfold minT; rw [if_pos h0]]
    exact minimal_any x A c B d h w hr
  · have h0 := autE_no h
    rw [h0, show minV x = ⟨0, [], []⟩ by unfold minV; rw [if_neg (by rw [h0]; decide)], show minT x = [] by unfold minT; rw [if_neg (by rw [h0]; decide)]]
    refine (minimal_err x A c B d h w hr).mono ?_
    rintro e w' ⟨rfl, hb⟩
    exact ⟨_, _, _, rfl, Kd.R_nil _ _ _ _ _, Kd.R_nil _ _ _ _ _, Kd.R_nil _ _ _ _ _, sep_nil _, hb⟩
theorem isv_any (x : AutV) (A : Option Addr) (c : Nat) (B : Option Addr) (d : Nat) (w : World) (hr : ARd w x A B) :
    Calls Try.prog 27 #[.agg (ac x A c B d)] w fun e w' => e = .returned (.tuple #[.bool (isV x), .int .i64 (autE x)]) ∧ Below w.heap.size w w' := by
  by_cases h : AutOk x
  · rw [autE_ok h]; exact is_any x A c B d h w hr
  · have h0 := autE_no h
    rw [h0, show isV x = false by unfold isV; rw [h0]; rfl]
    exact is_err x A c B d h w hr
end Go.Proofs.Ytjedippbjjedlaa
