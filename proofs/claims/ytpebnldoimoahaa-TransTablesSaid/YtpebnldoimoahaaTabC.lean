/- The walks of the reference's table: Len, Find, At, Put. -/
import Derived.Test.YtpebnldoimoahaaTabB
namespace Go.Proofs.Ytpebnldoimoahaa
open Go.RowKit Go.Proofs.YtpebnldoimoahaaW.PrintWords
set_option linter.unusedSimpArgs false
set_option linter.unusedVariables false
set_option maxRecDepth 100000
/-- The reference's table: its variable (i + 1), its list (i). -/
structure RTabAt (w : World) (base : Nat) (c : Nat → Nat) (i g : Nat) (sl : Value) (n : Int) (L : List (Int × List Nat)) : Prop where
  var : w.heap[g]? = some (.cells #[.int .i64 n, sl] 118 (0, 0))
  row : trKd.R 26 w base (fun k => c k = i) sl L
  cg : c g = i + 1
  bg : base ≤ g
def RTab (w : World) (base : Nat) (c : Nat → Nat) (i : Nat) (x : Value) (n : Int) (L : List (Int × List Nat)) : Prop := ∃ g sl, x = .pointer (some ⟨g, 0, none⟩) ∧ RTabAt w base c i g sl n L
theorem RTabAt.frame {w w' : World} {base : Nat} {c c' : Nat → Nat} {i g : Nat} {sl : Value} {n : Int} {L : List (Int × List Nat)} (h : RTabAt w base c i g sl n L) (hk : ∀ k, k < w.heap.size → (c k = i ∨ c k = i + 1) → w'.heap[k]? = w.heap[k]?) (hc : ∀ k, k < w.heap.size → c' k = c k) :
    RTabAt w' base c' i g sl n L :=
  ⟨(hk g (hp_lt h.var) (.inr h.cg)).trans h.var, Kd.R_mono (Kd.R_move (Kd.R_bound h.row) (fun k hb => hk k hb.2.2.1 (.inl hb.1))) (fun k hb => (hc k hb.2.2.1).trans hb.1), (hc g (hp_lt h.var)).trans h.cg, h.bg⟩
theorem RTabAt.below {w w' : World} {base : Nat} {c : Nat → Nat} {i g : Nat} {sl : Value} {n : Int} {L : List (Int × List Nat)} (h : RTabAt w base c i g sl n L) (hb : Below w.heap.size w w') : RTabAt w' base c i g sl n L :=
  h.frame (fun k hk _ => hb.block k hk) (fun _ _ => rfl)
theorem RTabAt.len {w : World} {base : Nat} {c : Nat → Nat} {i g : Nat} {sl : Value} {n : Int} {L : List (Int × List Nat)} (h : RTabAt w base c i g sl n L) : ∃ A cap, sl = .slice A L.length cap ∧ trKd.C w A L.length L := by
  obtain ⟨A, cap, h1, _, h2⟩ := Kd.R_reads h.row
  exact ⟨A, cap, h1, h2⟩
variable {w : World} {base : Nat} {c : Nat → Nat} {i g : Nat} {sl : Value} {n : Int} {L : List (Int × List Nat)}
theorem rlen_alive (h : RTabAt w base c i g sl n L) : Calls Try.prog 34 #[.pointer (some ⟨g, 0, none⟩)] w fun e w' => e = .returned (.int .i64 L.length) ∧ w = w' := by
  obtain ⟨A, cap, rfl, _⟩ := h.len
  have c2 : w.cell? ⟨g, 1, none⟩ = some (.slice A L.length cap) := by rw [cell_of_row _ _ _ _ _ _ h.var]; rfl
  clear h
  go_enter Try.func34, Try.ntmps34
  go_wp2
  go_ret
  exact ⟨rfl, rfl⟩
theorem rat_alive (h : RTabAt w base c i g sl n L) (hL : LOk n L) (j : Int) :
    Calls Try.prog 66 #[.pointer (some ⟨g, 0, none⟩), .int .i64 j] w fun e w' => e = .returned (.tuple #[.agg (if 0 ≤ j ∧ j < L.length then tvv (L.getD j.toNat (0, zq)).1 (L.getD j.toNat (0, zq)).2 else tvv 0 zq), .bool (decide (0 ≤ j ∧ j < L.length))]) ∧ Below w.heap.size w w' := by
  obtain ⟨A, cap, rfl, hC⟩ := h.len
  have H := Lib.hid (h.below (bl_alloc (Below.refl w.heap.size w) (.cells (tvv 0 zq) 26 (0, 0))))
  have HC := Lib.hid (Kd.C_below hC (bl_alloc (Below.refl w.heap.size w) (.cells (tvv 0 zq) 26 (0, 0))))
  have hmx := hL.max
  have HZ := Lib.hid zq_zeros
  have hlt := hp_lt h.var
  clear h hC hL
  by_cases hj : 0 ≤ j ∧ j < L.length
  · rw [if_pos hj, decide_eq_true hj]
    obtain ⟨hj0, hj1⟩ := hj
    obtain ⟨k, rfl⟩ := Int.eq_ofNat_of_zero_le hj0
    have hk : k < L.length := by omega
    obtain ⟨ad, cs, rfl, hcl, ⟨hok, rfl⟩, hcell⟩ := Kd.C_get HC.out (0, zq) k (by omega) (by omega)
    rw [Int.toNat_natCast] at hok hcell hcl
    have c2 : (w.alloc (.cells (tvv 0 zq) 26 (0, 0))).cell? ⟨g, 1, none⟩ = some (.slice (some ad) L.length cap) := by rw [cell_of_row _ _ _ _ _ _ H.out.var]; rfl
    rw [Int.toNat_natCast]
    generalize L.getD k (0, zq) = y at *
    have HE := Lib.hid hcell
    have HOK := Lib.hid hok
    have hd1 : decide ((k : Int) < 0) = false := by simp
    have hd2 : decide ((L.length : Int) ≤ (k : Int)) = false := by simpa using hk
    have hd3 : decide (L.length ≤ k) = false := by simpa using hk
    clear hcell hok hcl H HC
    go_enter Try.func66, Try.ntmps66
    rw [zq_zeros] at HE c2
    go_wp2_with (first | (refine ld3 _ rfl rfl (ad.add (k * 8)) rfl HOK.out.1 (fun j v hv => by rw [Go.Deep.add_add]; exact HE.out j v hv) ?_) | (refine st2 _ _ rfl rfl rfl rfl HOK.out.1 rfl ?_))
    refine bodyPost_ret (v := .tuple #[.agg (tvv y.1 y.2), .bool true]) ?_ rfl ⟨rfl, bl_alloc (Below.refl _ _) _⟩
    refine (results_cell_tmp (p := 4) (t := 5) (by rfl) _ _ w.heap.size 26 (tvv y.1 y.2) (0, 0) _ ?_ (hp_new rfl) Try.underlying26 rfl (tr_z _ _ HOK.out.1)).trans ?_ <;> rfl
  · rw [if_neg hj, decide_eq_false hj]
    have c2 : (w.alloc (.cells (tvv 0 zq) 26 (0, 0))).cell? ⟨g, 1, none⟩ = some (.slice A L.length cap) := by rw [cell_of_row _ _ _ _ _ _ H.out.var]; rfl
    clear H HC
    by_cases h0 : j < 0
    · have hd1 : decide (j < 0) = true := by simpa using h0
      go_enter Try.func66, Try.ntmps66
      rw [zq_zeros] at c2
      go_wp2_with (refine st2 _ _ rfl rfl rfl rfl zq_len rfl ?_)
      refine bodyPost_ret (v := .tuple #[.agg (tvv 0 zq), .bool false]) ?_ rfl ⟨rfl, bl_alloc (Below.refl _ _) _⟩
      refine (results_cell_tmp (p := 4) (t := 5) (by rfl) _ _ w.heap.size 26 (tvv 0 zq) (0, 0) _ ?_ (by rw [HZ.out]; exact hp_new rfl) Try.underlying26 rfl (tr_z _ _ zq_len)).trans ?_ <;> rfl
    · have hd1 : decide (j < 0) = false := by simpa using h0
      have hd2 : decide ((L.length : Int) ≤ j) = true := by simp; omega
      go_enter Try.func66, Try.ntmps66
      rw [zq_zeros] at c2
      go_wp2_with (refine st2 _ _ rfl rfl rfl rfl zq_len rfl ?_)
      refine bodyPost_ret (v := .tuple #[.agg (tvv 0 zq), .bool false]) ?_ rfl ⟨rfl, bl_alloc (Below.refl _ _) _⟩
      refine (results_cell_tmp (p := 4) (t := 5) (by rfl) _ _ w.heap.size 26 (tvv 0 zq) (0, 0) _ ?_ (by rw [HZ.out]; exact hp_new rfl) Try.underlying26 rfl (tr_z _ _ zq_len)).trans ?_ <;> rfl
theorem fnd_here {L : List (Int × List Nat)} {x : Int × List Nat} {k : Nat} (h : L[k]? = some x) (hno : ∀ j, j < k → L[j]? ≠ some x) : fndN L x = k ∧ x ∈ L := by
  have hm := List.mem_of_getElem? h
  obtain ⟨hk, e⟩ := List.getElem?_eq_some_iff.1 h
  refine ⟨?_, hm⟩
  unfold fndN
  rw [if_pos hm]
  have hlt := List.idxOf_lt_length_of_mem hm
  have hget : L[L.idxOf x]? = some x := by rw [List.getElem?_eq_getElem hlt, List.getElem_idxOf]
  rcases Nat.lt_trichotomy (L.idxOf x) k with h1 | h1 | h1
  · exact absurd hget (hno _ h1)
  · exact h1
  · exact absurd (by simpa [e] using (List.not_of_lt_findIdx (p := (· == x)) h1 : _)) (fun h => h)
theorem yi_at {P : Program} {ops : Array Oper} {S : World → Prop} {o : Oper} {a : Act} {cs : Array Value} {t : TypeId} (x : Operand) (ho : o.op = .load t x) (hg : Region.wanted o (yielded ops a.tmps) = true) (p : Addr) (hx : a.eval x = .pointer (some p)) (h : ∀ w, S w → (loadVar t p).run P w = .ok (.agg cs) w) : YieldsIf P ops S o (.agg cs) a :=
  yi_val hg fun w hw => by
    unfold execOp
    simp only [ho, hx, Instr.loadAt, Instr.sureAddr, Sem.run_bind, Sem.run_pure, Result.andThen_ok, h w hw]
theorem run_ldT (w : World) (p : Addr) {n : Int} {l : List Nat} (hl : l.length = 7) (hc : ∀ j v, (tvv n l).toList[j]? = some v → w.cell? (p.add j) = some v) : (loadVar 26 p).run Try.prog w = .ok (.agg (tvv n l)) w := by
  have h := run_loadVar_at (P := Try.prog) w p 26 (tvv n l).toList _ hc Try.underlying26 rfl (by rw [Array.length_toList, tvv_size, hl]; kernel_rfl)
  rwa [Array.toArray_toList] at h
theorem rfind_alive (h : RTabAt w base c i g sl n L) (hL : LOk n L) (x : Int × List Nat) (hx : okT x) :
    Calls Try.prog 64 #[.pointer (some ⟨g, 0, none⟩), .agg (tvv x.1 x.2)] w fun e w' => e = .returned (.tuple #[.int .i64 ((fndN L x : Nat) : Int), .bool (decide (x ∈ L))]) ∧ Below w.heap.size w w' := by
  have H := Lib.hid h
  have HX := Lib.hid hx
  have hmx := hL.max
  have HLK := Lib.hid hL.ok
  have hlt := hp_lt h.var
  have HR : Hid (∀ (f : Nat) (d : Bool), fndN L x = f → decide (x ∈ L) = d → (Value.tuple #[.int .i64 ((f : Nat) : Int), .bool d]) = Value.tuple #[.int .i64 ((fndN L x : Nat) : Int), .bool (decide (x ∈ L))]) := Lib.hid (fun f d e1 e2 => by rw [e1, e2])
  obtain ⟨A, cap, rfl, _⟩ := h.len
  clear h hL hx
  generalize hRR : Value.tuple #[.int .i64 ((fndN L x : Nat) : Int), .bool (decide (x ∈ L))] = RR at *
  clear hRR
  go_enter Try.func64, Try.ntmps64
  go_wp2
  go_loopw [6] (fun i' wr => ∃ k : Nat, k ≤ L.length ∧ i' = .int .i64 k ∧ Hid (∀ j, j < k → L[j]? ≠ some x) ∧ Hid (wr.heap[w.heap.size]? = some (TR x.1 x.2) ∧ Below w.heap.size w wr)) (fun i' _ => L.length - (intOf i').toNat)
  case atStart => exact ⟨0, by omega, rfl, Lib.hid (by omega), Lib.hid ⟨hp_new rfl, bl_alloc (Below.refl _ _) _⟩⟩
  case round =>
    obtain ⟨k, hk, rfl, HNO, HW⟩ := hrel
    have HT := Lib.hid (H.out.below HW.out.2)
    have c1 : wr.cell? ⟨g, 1, none⟩ = some (.slice A L.length cap) := by rw [cell_of_row _ _ _ _ _ _ HT.out.var]; rfl
    by_cases hkl : k < L.length
    · obtain ⟨A', cap', hsl, hC⟩ := HT.out.len
      obtain ⟨rfl, _, rfl⟩ : A = A' ∧ L.length = L.length ∧ cap = cap' := by injection hsl with h1 h2 h3; exact ⟨h1, h2, h3⟩
      obtain ⟨ad, cs, rfl, hcl, ⟨hok, rfl⟩, hcell⟩ := Kd.C_get hC (0, zq) k (by omega) (by omega)
      rw [Int.toNat_natCast] at hok hcell hcl
      have hget : L[k]? = some (L.getD k (0, zq)) := by rw [List.getD_eq_getElem?_getD, List.getElem?_eq_getElem hkl]; rfl
      generalize L.getD k (0, zq) = y at *
      have HE := Lib.hid (run_ldT wr.drew (ad.add (k * 8)) (n := y.1) (l := y.2) hok.1 (fun j v hv => by rw [Go.Deep.add_add]; exact hcell j v hv))
      have HOK := Lib.hid hok
      have HGET := Lib.hid hget
      have e0 := HT.out.var
      clear hcell hok hcl hC hsl hget
      go_wp2
      refine wp_region_held_drew (S := fun w' => w' = wr.drew) (by kernel_rfl) rfl (fun hS => ?_)
      refine any_take (i := 0) (v := ?v2) rfl (by kernel_rfl) (by kernel_rfl) (by kernel_rfl) (fun _ _ _ h => h) hS (.inl ⟨by rfl, ?y2⟩) ?_
      case y2 => (intro w' h'; go_simp; with_reducible rfl)
      (try simp only [Act.put, List.setIfInBounds_toArray, List.set_cons_zero, List.set_cons_succ])
      refine any_take (i := 1) (v := ?v3) rfl (by kernel_rfl) (by kernel_rfl) (by kernel_rfl) (fun _ _ _ h => h) hS (.inl ⟨by rfl, ?y3⟩) ?_
      case y3 => (intro w' h'; go_simp; with_reducible rfl)
      (try simp only [Act.put, List.setIfInBounds_toArray, List.set_cons_zero, List.set_cons_succ])
      refine any_take (i := 2) (v := ?v4) rfl (by kernel_rfl) (by kernel_rfl) (by kernel_rfl) (fun _ _ _ h => h) hS (.inl ⟨by rfl, ?y4⟩) ?_
      case y4 => (intro w' h'; go_simp; with_reducible rfl)
      (try simp only [Act.put, List.setIfInBounds_toArray, List.set_cons_zero, List.set_cons_succ])
      refine any_take (i := 3) (v := .slice (some ad) L.length cap) rfl (by kernel_rfl) (by kernel_rfl) (by kernel_rfl) (fun _ _ _ h => h) hS (yi_cell _ _ rfl (by rfl) ⟨g, 1, none⟩ rfl _ Try.underlying53 rfl (fun w' h' => (by rw [h']; exact c1))) ?_
      (try simp only [Act.put, List.setIfInBounds_toArray, List.set_cons_zero, List.set_cons_succ])
      refine any_take (i := 4) (v := ?v7) rfl (by kernel_rfl) (by kernel_rfl) (by kernel_rfl) (fun _ _ _ h => h) hS (.inl ⟨by rfl, ?y7⟩) ?_
      case y7 => (intro w' h'; go_simp; with_reducible rfl)
      (try simp only [Act.put, List.setIfInBounds_toArray, List.set_cons_zero, List.set_cons_succ])
      refine any_take (i := 5) (v := .pointer (some (ad.add (k * 8)))) rfl (by kernel_rfl) (by kernel_rfl) (by kernel_rfl) (fun _ _ _ h => h) hS (yi_val (by rfl) (fun w' h' => ?y8)) ?_
      case y8 => first | rfl | (go_simp; done) | (go_simp; omega)
      (try simp only [Act.put, List.setIfInBounds_toArray, List.set_cons_zero, List.set_cons_succ])
      refine any_take (i := 6) (v := .agg (tvv y.1 y.2)) rfl (by kernel_rfl) (by kernel_rfl) (by kernel_rfl) (fun _ _ _ h => h) hS (yi_at _ rfl (by rfl) (ad.add (k * 8)) rfl (fun w' h' => (by rw [h']; exact HE.out))) ?_
      (try simp only [Act.put, List.setIfInBounds_toArray, List.set_cons_zero, List.set_cons_succ])
      refine any_take (i := 7) rfl (by kernel_rfl) (by kernel_rfl) (by kernel_rfl) (fun _ _ _ h => h) hS (yi_row _ _ rfl (by rfl) (w.heap.size) rfl ((tvv x.1 x.2)) _ Try.underlying26 rfl ((tr_z _ _ HX.out.1)) (fun w' h' => ⟨_, _, ((congrArg (fun W : World => W.heap[w.heap.size]?) h').trans HW.out.1)⟩)) ?_
      (try simp only [Act.put, List.setIfInBounds_toArray, List.set_cons_zero, List.set_cons_succ])
      by_cases hyx : y = x
      · subst hyx
        obtain ⟨f1, f2⟩ := fnd_here HGET.out HNO.out
        have HF := Lib.hid (HR.out k true f1 (decide_eq_true f2))
        clear f1 f2
        refine any_take (i := 8) (v := .bool true) rfl (by kernel_rfl) (by kernel_rfl) (by kernel_rfl) (fun _ _ _ h => h) hS (yi_bin _ _ _ _ _ rfl (by rfl) (fun w' h' => ⟨?g11, ?e11⟩)) ?_
        case g11 => exact run_eqGuard_agg w' .eql 26 _ _ _ _ (by kernel_rfl)
        case e11 => exact (run_sameT _ _ _ HOK.out.1)
        (try simp only [Act.put, List.setIfInBounds_toArray, List.set_cons_zero, List.set_cons_succ])
        refine wpAnyH_done (by kernel_rfl) ?_ _
        clear hS e0 c1
        go_wp2
        go_ret2
        exact ⟨by rw [← HF.out]; rfl, HW.out.2.drew⟩
      · have hd : decide (y.1 = x.1 ∧ y.2 = x.2) = false := decide_eq_false (fun e => hyx (Prod.ext e.1 e.2))
        refine any_take (i := 8) (v := .bool false) rfl (by kernel_rfl) (by kernel_rfl) (by kernel_rfl) (fun _ _ _ h => h) hS (yi_bin _ _ _ _ _ rfl (by rfl) (fun w' h' => ⟨?g12, ?e12⟩)) ?_
        case g12 => exact run_eqGuard_agg w' .eql 26 _ _ _ _ (by kernel_rfl)
        case e12 => exact ((run_eqT _ _ _ _ _ HOK.out.1 HX.out.1).trans (by rw [hd]))
        (try simp only [Act.put, List.setIfInBounds_toArray, List.set_cons_zero, List.set_cons_succ])
        refine wpAnyH_done (by kernel_rfl) ?_ _
        have HNO2 : Hid (∀ j, j < k + 1 → L[j]? ≠ some x) := Lib.hid (fun j hj e => by
          by_cases e2 : j = k
          · subst e2; rw [HGET.out] at e; exact hyx (Option.some.inj e)
          · exact HNO.out j (by omega) e)
        clear hS e0 c1 hd hyx HNO
        go_wp2
        go_roundw
        case rel => exact ⟨k + 1, by omega, by go_num, HNO2, Lib.hid ⟨HW.out.1, HW.out.2.drew⟩⟩
        case measure => simp [intOf]; omega
    · have e8 : k = L.length := by omega
      subst e8
      have hno : x ∉ L := fun hm => by
        obtain ⟨j, hj, e⟩ := List.mem_iff_getElem.1 hm
        exact HNO.out j hj (by rw [List.getElem?_eq_getElem hj, e])
      have HF := Lib.hid (HR.out 0 false (by unfold fndN; rw [if_neg hno]) (decide_eq_false hno))
      clear hno
      go_wp2
      go_ret2
      exact ⟨by rw [← HF.out]; rfl, HW.out.2⟩
end Go.Proofs.Ytpebnldoimoahaa
