/- The walks of the closures over one automaton, and of auto.from. -/
import Derived.Test.YtjckidjljkjhfaaSrI
namespace Go.Proofs.Ytjckidjljkjhfaa
open Go.RowKit Go.Proofs.YtjckidjljkjhfaaW.PrintWords
set_option linter.unusedSimpArgs false
set_option linter.unusedVariables false
set_option maxRecDepth 100000 in
set_option maxHeartbeats 400000 in
theorem fromN_any (x : AutV) (A : Option Addr) (c : Nat) (B : Option Addr) (d : Nat) (g : Nat) (hx : AutOk x) (W : World) (hg : W.heap[g]? = some (AB x A c B d)) (hr : ARd W x A B) (s l : Nat) (hs : s < x.acc.length) (hl : (l : Int) < x.k) :
    Calls Try.prog 88 #[.int .i64 (s : Int), .int .i64 (l : Int), .pointer (some ⟨g, 0, none⟩)] W fun e w' => e = .returned (.int .i64 ((stp x s l : Nat) : Int)) ∧ Below W.heap.size W w' := by
  obtain ⟨q1, q2⟩ := stp_lt hx hs hl
  have hix := stp_idx hx hs hl
  have hk1 := hx.1; have hk2 := hx.2.1; have hn2 := hx.2.2.2.1; have hnl := hx.2.2.2.2.1
  obtain ⟨ad, hA, hcell⟩ := Kd.at_int hr.next ((s * x.k.toNat + l : Nat) : Int) (by omega) (by omega)
  rw [Int.toNat_natCast, q2] at hcell
  have hmul : (s : Int) * x.k = ((s * x.k.toNat : Nat) : Int) := by
    obtain ⟨kk, hkk⟩ := Int.eq_ofNat_of_zero_le (show 0 ≤ x.k by omega)
    rw [hkk, Int.toNat_natCast]; push_cast; rfl
  have hP : s * x.k.toNat ≤ 40960 := by
    have : s * x.k.toNat ≤ 4096 * 10 := Nat.mul_le_mul (by omega) (by omega)
    omega
  have c0 : W.cell? ⟨g, 0, none⟩ = some (.int .i64 x.k) := by rw [cell_of_row _ _ _ _ _ _ hg]; rfl
  have c1 : W.cell? ⟨g, 1, none⟩ = some (.slice A x.next.length c) := by rw [cell_of_row _ _ _ _ _ _ hg]; rfl
  have hxl : x.next.length ≤ 32768 := by
    have := aut_mul hk1 hk2 hn2
    omega
  have HMUL := Lib.hid hmul
  generalize s * x.k.toNat = p at *
  generalize stp x s l = z at *
  subst hA
  have hw5 : IntKind.i64.wrap ((s : Int) * x.k) = (p : Int) := by rw [HMUL.out]; exact IntWalk.i64_in _ ⟨by omega, by omega⟩
  have hw11 : IntKind.i64.wrap ((p : Int) + (l : Int)) = (p : Int) + (l : Int) := IntWalk.i64_in _ ⟨by omega, by omega⟩
  have hw12 : 0 ≤ (p : Int) + (l : Int) := by omega
  have hw14 : (p : Int) + (l : Int) < (x.next.length : Int) := by omega
  have hw13 : ((p : Int) + (l : Int)).toNat = p + l := by omega
  clear hmul hx hr hg hnl hix q1 q2 hs hl hP hxl hn2
  go_enter Try.func88, Try.ntmps88
  go_wp2
  go_ret
  exact ⟨rfl, Below.refl _ _⟩
set_option maxRecDepth 100000 in
set_option maxHeartbeats 400000 in
theorem reachG_any (x : AutV) (A : Option Addr) (c : Nat) (B : Option Addr) (d : Nat) (g : Nat) (W : World) (hg : W.heap[g]? = some (AB x A c B d)) (hr : ARd W x A B) (s : Nat) (hs : s < x.acc.length) :
    Calls Try.prog 58 #[.int .i64 (s : Int), .pointer (some ⟨g, 0, none⟩)] W fun e w' => e = .returned (.bool (rdOf false x.acc (s : Int))) ∧ Below W.heap.size W w' := by
  obtain ⟨ad, hA, hcell⟩ := Kd.at_bool hr.acc (s : Int) (by omega) (by omega)
  rw [Int.toNat_natCast] at hcell
  have c1 : W.cell? ⟨g, 2, none⟩ = some (.slice B x.acc.length d) := by rw [cell_of_row _ _ _ _ _ _ hg]; rfl
  generalize rdOf false x.acc (s : Int) = b at *
  subst hA
  clear hr hg
  go_enter Try.func58, Try.ntmps58
  go_wp2
  go_ret
  exact ⟨rfl, Below.refl _ _⟩
/-- What first and step keep holds of every state met. -/
theorem bs_all {σ : Type} [DecidableEq σ] {k : Nat} {step : σ → Nat → σ} {first : σ} (hk : 0 < k) (p : σ → Prop) (hf : p first) (hs : ∀ s c, p s → c < k → p (step s c)) (m : Nat) : ∀ s ∈ bs k step first m, p s := by
  intro s h
  obtain ⟨w, hw, rfl⟩ := List.mem_map.1 h
  have hl := bw_let hk w hw
  have key : ∀ (w : List Nat) (s : σ), p s → (∀ c ∈ w, c < k) → p (rn step s w) := by
    intro w
    induction w with
    | nil => intro s h _; exact h
    | cons c r ih => intro s h hc; exact ih _ (hs s c h (hc c List.mem_cons_self)) (fun d hd => hc d (List.mem_cons_of_mem _ hd))
  exact key w _ hf hl
theorem stp_all {x : AutV} (hx : AutOk x) {first : Nat} (hf : first < x.acc.length) (m : Nat) : ∀ s ∈ bs x.k.toNat (stp x) first m, s < x.acc.length :=
  have h1 := hx.1
  bs_all (by omega) (fun s => s < x.acc.length) hf (fun s c hs hc => (stp_lt hx hs (by omega)).1) m
theorem sr_small {x : AutV} (hx : AutOk x) {first : Nat} (hf : first < x.acc.length) : srE x.k.toNat (stp x) first = 0 := by
  unfold srE
  rw [if_pos]
  have h4 := hx.2.2.2.1
  have : (srL x.k.toNat (stp x) first).length ≤ x.acc.length := nodup_le (bs_nodup _) (stp_all hx hf _)
  omega
set_option maxRecDepth 100000 in
set_option maxHeartbeats 800000 in
theorem from_any (x : AutV) (A : Option Addr) (c : Nat) (B : Option Addr) (d : Nat) (hx : AutOk x) (first : Nat) (hf : first < x.acc.length) (good : Nat → Bool) (fg : FuncId) (cg : Array Value) (w : World) (hr : ARd w x A B)
    (heg : ∀ args W, (callFunc fg args).run Try.prog W = .ok (.enter fg args) W)
    (HG : ∀ s, s < x.acc.length → ∀ W : World, Below w.heap.size w W → Calls Try.prog fg (#[.int .i64 (s : Int)] ++ cg) W fun e w' => e = .returned (.bool (good s)) ∧ Below W.heap.size W w') :
    Calls Try.prog 57 #[.agg (ac x A c B d), .int .i64 (first : Int), .func (.func fg) #[] cg] w fun e w' => ∃ vn va, e = .returned (.agg #[.int .i64 (srV x.k.toNat (stp x) first good).k, vn, va]) ∧
      Own w' w.heap.size vn (srV x.k.toNat (stp x) first good).next ∧ Kd.R Kd.bool 4 w' w.heap.size (fun _ => True) va (srV x.k.toNat (stp x) first good).acc ∧ Below w.heap.size w w' := by
  have h1 := hx.1; have h2 := hx.2.1
  have HR := Aside0.mk hr
  have H0 := Lib.hid (((Hp.start w).alloc (AB x A c B d)).alloc (.cells #[.int .i64 0, .slice none 0 0, .slice none 0 0] 25))
  have SR := Aside0.mk (searchI_any x.k.toNat (by omega) (by omega) (stp x) first good 88 fg #[.pointer (some ⟨w.heap.size, 0, none⟩)] cg ((w.alloc (AB x A c B d)).alloc (.cells #[.int .i64 0, .slice none 0 0, .slice none 0 0] 25))
    (fun m s hs => by have := stp_all hx hf m s hs; have := hx.2.2.2.1; omega) (fun args W => by kernel_rfl) heg
    (fun s m l hs hl W hb => fromN_any x A c B d w.heap.size hx W (hp_below hb (by rw [World.size_alloc, World.size_alloc]; omega) (H0.out.at 1 rfl)) (HR.out.below (bl_then H0.out.2 (hb.mono (Nat.le_refl _)))) s l (stp_all hx hf m s hs) (by omega))
    (fun s m hs W hb => HG s (stp_all hx hf m s hs) W (bl_then H0.out.2 (hb.mono (Nat.le_refl _)))))
  have c0 : ((w.alloc (AB x A c B d)).alloc (.cells #[.int .i64 0, .slice none 0 0, .slice none 0 0] 25)).cell? ⟨w.heap.size, 0, none⟩ = some (.int .i64 x.k) := by rw [cell_of_row _ _ _ _ _ _ (H0.out.at 1 rfl)]; rfl
  have hk : ((x.k.toNat : Nat) : Int) = x.k := by omega
  rw [hk] at SR
  generalize srV x.k.toNat (stp x) first good = V at *
  generalize srE x.k.toNat (stp x) first = E at *
  clear HG hk hx hr h1 h2
  go_enter Try.func57, Try.ntmps57
  go_wp2_with fail
  refine SR.out.mono ?_
  rintro e w3 ⟨vn, va, rfl, hn, ha, hb⟩
  obtain ⟨An, cn, rfl⟩ := Kd.R_slice hn
  obtain ⟨Aa, ca, rfl⟩ := Kd.R_slice ha
  have H2 := Lib.hid ((H0.out.keep hb).alloc (AB V An cn Aa ca))
  have HS := Lib.hid (show (w3.alloc (AB V An cn Aa ca)).heap[w.heap.size + 1]? = some (.cells #[.int .i64 0, .slice none 0 0, .slice none 0 0] 25 (0, 0)) from by have := H2.out.at 1 rfl; rw [World.size_alloc] at this; exact this)
  have HN := Aside0.mk (Kd.R_alloc (Kd.R_lower hn H0.out.2.size) (AB V An cn Aa ca))
  have HA := Aside0.mk (Kd.R_alloc (Kd.R_lower ha H0.out.2.size) (AB V An cn Aa ca))
  clear hn ha hb SR H0 c0
  go_wp2_with (first | ((with_reducible refine gate_st (t := 25) rfl ?_); refine st_au_new (y := V) (A := An) (c := cn) (B := Aa) (d := ca) _ _ rfl rfl rfl rfl rfl ?_) | ((with_reducible refine gate_ld (t := 25) rfl ?_); refine ld_au (y := V) _ rfl w3.heap.size rfl (H2.out.at 0 rfl) rfl ?_) | ((with_reducible refine gate_st (t := 25) rfl ?_); refine wpList_store_row rfl 25 _ _ rfl (w.heap.size + 1) (ac V An cn Aa ca) rfl rfl 25 _ HS.out (by show _ = some 3; kernel_rfl) rfl (by simp [Value.oneCell']) ?_))
  refine bodyPost_ret (v := .agg (ac V An cn Aa ca)) ?_ rfl ⟨_, _, rfl, own_rowT HS.out HN.out (by decide) rfl _, own_rowT HS.out HA.out (by decide) rfl _, bl_row H2.out.2 (by omega) _⟩
  refine (results_cell_row (p := 6) (by rfl) _ _ (w.heap.size + 1) 25 _ _ _ ?_ (setRow_heap _ _ _ _ _ _ HS.out) Try.underlying25 rfl (by show _ = some 3; kernel_rfl)).trans ?_ <;> rfl
end Go.Proofs.Ytjckidjljkjhfaa
