/- The walks of auto.Word and its closures. -/
import Derived.Test.YtjckidjljkjhfaaWdP
namespace Go.Proofs.Ytjckidjljkjhfaa
open Go.RowKit Go.Proofs.YtjckidjljkjhfaaW.PrintWords
set_option linter.unusedSimpArgs false
set_option linter.unusedVariables false
set_option maxRecDepth 100000 in
set_option maxHeartbeats 400000 in
theorem wordN_any (k : Int) (v : ByteArray) (hv : letB k v = true) (hk8 : k ≤ 8) (hsz : v.size ≤ 4094) (g g2 : Nat) (W : World) (hg : W.heap[g]? = some (.cells #[.string v] 9 (0, 0))) (hg2 : W.heap[g2]? = some (.cells #[.int .i64 ((v.size : Int) + 1)] 3 (0, 0))) (s l : Nat) (hs : s ≤ v.size + 1) (hl : (l : Int) < k) :
    Calls Try.prog 64 #[.int .i64 (s : Int), .int .i64 (l : Int), .pointer (some ⟨g, 0, none⟩), .pointer (some ⟨g2, 0, none⟩)] W fun e w' => e = .returned (.int .i64 ((wst v s l : Nat) : Int)) ∧ Below W.heap.size W w' := by
  have c0 : W.cell? ⟨g, 0, none⟩ = some (.string v) := by rw [cell_of_row _ _ _ _ _ _ hg]; rfl
  have c1 : W.cell? ⟨g2, 0, none⟩ = some (.int .i64 ((v.size : Int) + 1)) := by rw [cell_of_row _ _ _ _ _ _ hg2]; rfl
  by_cases hss : s < v.size
  · obtain ⟨hb1, hb2⟩ := letB_at hv s hss
    have hwl : wlt v s = (v[s]'hss).toNat - 97 := by
      have := bt_at v (s : Int) (by rw [Int.toNat_natCast]; exact hss)
      simp only [Int.toNat_natCast] at this
      unfold wlt
      rw [← this]
      omega
    obtain ⟨q, hq⟩ : ∃ q, q = wlt v s := ⟨_, rfl⟩
    have hcl : ((v[s]'hss).toNat : Int) = (q : Int) + 97 := by omega
    have hst : wst v s l = if q = l then s + 1 else v.size + 1 := by unfold wst; rw [← hq]; by_cases e : q = l <;> simp [hss, e]
    have HCL := Lib.hid hcl
    have hq8 : q < 8 := by omega
    rw [hst]
    by_cases e : q = l
    · rw [if_pos e]
      have hw9 : IntKind.u8.wrap (((v[s]'hss).toNat : Int) - 97) = (q : Int) := by rw [HCL.out, show (q : Int) + 97 - 97 = q by omega]; exact IntWalk.u8_in _ ⟨by omega, by omega⟩
      have hw10 : IntKind.i64.wrap (q : Int) = (q : Int) := IntWalk.i64_in _ ⟨by omega, by omega⟩
      have hd1 : ((q : Int) == (l : Int)) = true := by rw [beq_iff_eq]; omega
      have hd2 : (q == l) = true := by rw [beq_iff_eq]; exact e
      clear hcl hwl hq hst e hg hg2 hv hb1 hb2
      go_enter Try.func64, Try.ntmps64
      go_wp2
      go_ret
      exact ⟨rfl, Below.refl _ _⟩
    · rw [if_neg e]
      have hw9 : IntKind.u8.wrap (((v[s]'hss).toNat : Int) - 97) = (q : Int) := by rw [HCL.out, show (q : Int) + 97 - 97 = q by omega]; exact IntWalk.u8_in _ ⟨by omega, by omega⟩
      have hw10 : IntKind.i64.wrap (q : Int) = (q : Int) := IntWalk.i64_in _ ⟨by omega, by omega⟩
      have hd1 : ((q : Int) == (l : Int)) = false := by rw [beq_eq_false_iff_ne]; omega
      have hd2 : (q == l) = false := by rw [beq_eq_false_iff_ne]; exact e
      clear hcl hwl hq hst e hg hg2 hv hb1 hb2
      go_enter Try.func64, Try.ntmps64
      go_wp2
      go_ret
      exact ⟨rfl, Below.refl _ _⟩
  · have hst : wst v s l = v.size + 1 := by unfold wst; rw [if_neg (fun h => hss h.1)]
    rw [hst]
    clear hst hg hg2 hv
    go_enter Try.func64, Try.ntmps64
    go_wp2
    go_ret
    exact ⟨rfl, Below.refl _ _⟩
set_option maxRecDepth 100000 in
set_option maxHeartbeats 400000 in
theorem wordG_any (v : ByteArray) (g : Nat) (W : World) (hg : W.heap[g]? = some (.cells #[.string v] 9 (0, 0))) (s : Nat) :
    Calls Try.prog 65 #[.int .i64 (s : Int), .pointer (some ⟨g, 0, none⟩)] W fun e w' => e = .returned (.bool (wgd v s)) ∧ Below W.heap.size W w' := by
  have c0 : W.cell? ⟨g, 0, none⟩ = some (.string v) := by rw [cell_of_row _ _ _ _ _ _ hg]; rfl
  unfold wgd
  by_cases e : s = v.size
  · rw [decide_eq_true e]
    have hd1 : ((s : Int) == (v.size : Int)) = true := by rw [beq_iff_eq]; omega
    have hd2 : (s == v.size) = true := by rw [beq_iff_eq]; exact e
    clear hg e
    go_enter Try.func65, Try.ntmps65
    go_wp2
    go_ret
    exact ⟨rfl, Below.refl _ _⟩
  · rw [decide_eq_false e]
    have hd1 : ((s : Int) == (v.size : Int)) = false := by rw [beq_eq_false_iff_ne]; omega
    have hd2 : (s == v.size) = false := by rw [beq_eq_false_iff_ne]; exact e
    clear hg e
    go_enter Try.func65, Try.ntmps65
    go_wp2
    go_ret
    exact ⟨rfl, Below.refl _ _⟩
set_option maxRecDepth 100000 in
set_option maxHeartbeats 800000 in
theorem auto_word_any (k : Int) (v : ByteArray) (hv : v.size ≤ 4611686018427387904) (w : World) :
    Calls Try.prog 30 #[.int .i64 k, .string v] w fun e w' => ∃ vn va, e = .returned (.tuple #[.agg #[.int .i64 (wrV k v).k, vn, va], .int .i64 (wrE k v)]) ∧
      Own w' w.heap.size vn (wrV k v).next ∧ Kd.R Kd.bool 4 w' w.heap.size (fun _ => True) va (wrV k v).acc ∧ Below w.heap.size w w' := by
  have h00 := ((Hp.start w).alloc (.cells #[.string v] 9)).alloc (.cells #[.int .i64 0, .slice none 0 0, .slice none 0 0] 25)
  rw [World.size_alloc] at h00
  have H0 := Lib.hid h00
  clear h00
  have WC := Aside0.mk (word_any k v ((w.alloc (.cells #[.string v] 9)).alloc (.cells #[.int .i64 0, .slice none 0 0, .slice none 0 0] 25)))
  rcases wrd_cases k v with ⟨h0, hk1, hk8, hlt⟩ | h0
  · rw [h0] at WC
    by_cases hbig : 4094 < v.size
    · have hE : wrE k v = 6 := by unfold wrE; rw [if_pos h0, if_pos hbig]
      have hV : wrV k v = noV := by unfold wrV; rw [hE, if_neg (by decide)]
      rw [hE, hV]
      clear h0 hE hV hlt
      go_enter Try.func30, Try.ntmps30
      go_wp2_with fail
      refine WC.out.mono ?_
      rintro e w1 ⟨rfl, hb⟩
      have H1 := Lib.hid (H0.out.keep hb)
      have HS := Lib.hid (show w1.heap[w.heap.size + 1]? = some (.cells #[.int .i64 0, .slice none 0 0, .slice none 0 0] 25 (0, 0)) from H1.out.at 0 rfl)
      have c0 : w1.cell? ⟨w.heap.size, 0, none⟩ = some (.string v) := by rw [cell_of_row _ _ _ _ _ _ (H1.out.at 1 rfl)]; rfl
      clear hb WC H0
      go_wp2_with ((with_reducible refine gate_st (t := 25) rfl ?_); refine wpList_store_row rfl 25 _ _ rfl (w.heap.size + 1) #[.int .i64 0, .slice none 0 0, .slice none 0 0] rfl rfl 25 _ HS.out (by show _ = some 3; kernel_rfl) rfl (by simp [Value.oneCell']) ?_)
      refine bodyPost_ret (v := .tuple #[.agg #[.int .i64 0, .slice none 0 0, .slice none 0 0], .int .i64 6]) ?_ rfl ⟨_, _, rfl, Kd.R_nil _ _ _ _ _, Kd.R_nil _ _ _ _ _, bl_row H1.out.2 (by omega) _⟩
      refine (results_cell_tmp (p := 4) (t := 5) (by rfl) _ _ (w.heap.size + 1) 25 _ _ _ ?_ (setRow_heap _ _ _ _ _ _ HS.out) Try.underlying25 rfl (by show _ = some 3; kernel_rfl)).trans ?_ <;> rfl
    · have hE : wrE k v = 0 := by unfold wrE; rw [if_pos h0, if_neg hbig]
      have hV : wrV k v = srV k.toNat (wst v) 0 (wgd v) := by unfold wrV; rw [if_pos hE]
      obtain ⟨kk, rfl⟩ := Int.eq_ofNat_of_zero_le (show 0 ≤ k by omega)
      rw [Int.toNat_natCast] at hV
      have SR := fun (W : World) (gl : Nat) (H : Hp [(gl, .cells #[.int .i64 ((v.size : Int) + 1)] 3), (w.heap.size + 1, .cells #[.int .i64 0, .slice none 0 0, .slice none 0 0] 25), (w.heap.size, .cells #[.string v] 9)] w W) =>
        searchI_any kk (by omega) (by omega) (wst v) 0 (wgd v) 64 65 #[.pointer (some ⟨w.heap.size, 0, none⟩), .pointer (some ⟨gl, 0, none⟩)] #[.pointer (some ⟨w.heap.size, 0, none⟩)] W
        (fun m s hs => by have := w_all (v := v) (show 0 < kk by omega) m s hs; omega) (fun args W => by kernel_rfl) (fun args W => by kernel_rfl)
        (fun s m l hs hl W' hb => wordN_any (kk : Int) v hlt hk8 (by omega) w.heap.size gl W' (hp_below' hb (H.at 2 rfl)) (hp_below' hb (H.at 0 rfl)) s l (w_all (show 0 < kk by omega) m s hs) (by omega))
        (fun s m hs W' hb => wordG_any v w.heap.size W' (hp_below' hb (H.at 2 rfl)) s)
      rw [w_small (show 0 < kk by omega) (by omega)] at SR
      replace SR := Aside0.mk SR
      rw [hE, hV]
      generalize srV kk (wst v) 0 (wgd v) = V at *
      have hwr : IntKind.i64.wrap ((v.size : Int) + 1) = (v.size : Int) + 1 := IntWalk.i64_in _ ⟨by omega, by omega⟩
      clear h0 hE hV hlt
      go_enter Try.func30, Try.ntmps30
      go_wp2_with fail
      refine WC.out.mono ?_
      rintro e w1 ⟨rfl, hb⟩
      have H1 := Lib.hid (H0.out.keep hb)
      have c0 : w1.cell? ⟨w.heap.size, 0, none⟩ = some (.string v) := by rw [cell_of_row _ _ _ _ _ _ (H1.out.at 1 rfl)]; rfl
      clear hb WC H0
      go_wp2_with fail
      have H2 := Lib.hid (H1.out.alloc (.cells #[.int .i64 ((v.size : Int) + 1)] 3))
      refine (SR.out _ w1.heap.size H2.out).mono ?_
      rintro e w3 ⟨vn, va, rfl, hn, ha, hb⟩
      obtain ⟨An, cn, rfl⟩ := Kd.R_slice hn
      obtain ⟨Aa, ca, rfl⟩ := Kd.R_slice ha
      have H3 := Lib.hid (H2.out.keep hb)
      have HS := Lib.hid (show w3.heap[w.heap.size + 1]? = some (.cells #[.int .i64 0, .slice none 0 0, .slice none 0 0] 25 (0, 0)) from H3.out.at 1 rfl)
      have HN := Aside0.mk (Kd.R_lower hn H2.out.2.size)
      have HA := Aside0.mk (Kd.R_lower ha H2.out.2.size)
      clear hn ha hb SR H1 H2 c0
      go_wp2_with ((with_reducible refine gate_st (t := 25) rfl ?_); refine wpList_store_row rfl 25 _ _ rfl (w.heap.size + 1) (ac V An cn Aa ca) rfl rfl 25 _ HS.out (by show _ = some 3; kernel_rfl) rfl (by simp [Value.oneCell']) ?_)
      refine bodyPost_ret (v := .tuple #[.agg (ac V An cn Aa ca), .int .i64 0]) ?_ rfl ⟨_, _, rfl, own_rowT HS.out HN.out (by decide) rfl _, own_rowT HS.out HA.out (by decide) rfl _, bl_row H3.out.2 (by omega) _⟩
      refine (results_cell_tmp (p := 4) (t := 5) (by rfl) _ _ (w.heap.size + 1) 25 _ _ _ ?_ (setRow_heap _ _ _ _ _ _ HS.out) Try.underlying25 rfl (by show _ = some 3; kernel_rfl)).trans ?_ <;> rfl
  · have hE : wrE k v = wrdE k v := by unfold wrE; rw [if_neg h0]
    have hV : wrV k v = noV := by unfold wrV; rw [hE, if_neg h0]
    rw [hE, hV]
    have hb1 : (wrdE k v == 0) = false := by rw [beq_eq_false_iff_ne]; exact h0
    generalize wrdE k v = r at *
    clear h0 hE hV
    go_enter Try.func30, Try.ntmps30
    go_wp2_with fail
    refine WC.out.mono ?_
    rintro e w1 ⟨rfl, hb⟩
    have H1 := Lib.hid (H0.out.keep hb)
    have HS := Lib.hid (show w1.heap[w.heap.size + 1]? = some (.cells #[.int .i64 0, .slice none 0 0, .slice none 0 0] 25 (0, 0)) from H1.out.at 0 rfl)
    clear hb WC H0
    go_wp2_with ((with_reducible refine gate_st (t := 25) rfl ?_); refine wpList_store_row rfl 25 _ _ rfl (w.heap.size + 1) #[.int .i64 0, .slice none 0 0, .slice none 0 0] rfl rfl 25 _ HS.out (by show _ = some 3; kernel_rfl) rfl (by simp [Value.oneCell']) ?_)
    refine bodyPost_ret (v := .tuple #[.agg #[.int .i64 0, .slice none 0 0, .slice none 0 0], .int .i64 r]) ?_ rfl ⟨_, _, rfl, Kd.R_nil _ _ _ _ _, Kd.R_nil _ _ _ _ _, bl_row H1.out.2 (by omega) _⟩
    refine (results_cell_tmp (p := 4) (t := 5) (by rfl) _ _ (w.heap.size + 1) 25 _ _ _ ?_ (setRow_heap _ _ _ _ _ _ HS.out) Try.underlying25 rfl (by show _ = some 3; kernel_rfl)).trans ?_ <;> rfl
end Go.Proofs.Ytjckidjljkjhfaa
