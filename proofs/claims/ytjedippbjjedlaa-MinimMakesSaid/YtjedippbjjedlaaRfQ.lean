/- Plain: the reference's Minimal, as the print tool's function, is the minimal automaton. -/
import Derived.Test.YtjedippbjjedlaaRfN
namespace Go.Proofs.Ytjedippbjjedlaa
open Go.RowKit Go.Proofs.YtjedippbjjedlaaW.PrintWords Go.Proofs.Ytjedippbjjedlaa.PMinimMakes
set_option linter.unusedVariables false
/-- The new numbers, one more, of the least states; noughts elsewhere. -/
def numL (n : Nat) (L : List Nat) : List Nat := (List.range n).map fun s => if s ∈ L then L.idxOf s + 1 else 0
theorem numL_len (n : Nat) (L : List Nat) : (numL n L).length = n := by simp [numL]
theorem numL_get (n : Nat) (L : List Nat) {s : Nat} (hs : s < n) : (numL n L).getD s 0 = if s ∈ L then L.idxOf s + 1 else 0 := by simp [numL, List.getD_eq_getElem?_getD, hs]
theorem numL_snoc {n : Nat} {L : List Nat} {t : Nat} (hm : t ∉ L) : (numL n L).set t (L.length + 1) = numL n (L ++ [t]) := by
  apply List.ext_getElem (by simp [numL])
  intro i h1 h2
  simp only [numL, List.getElem_set, List.getElem_map, List.getElem_range, List.mem_append, List.mem_singleton]
  by_cases e : t = i
  · subst e
    rw [if_pos rfl, if_pos (.inr rfl), idxOf_last hm]
  · rw [if_neg e]
    by_cases hi : i ∈ L
    · rw [if_pos hi, if_pos (.inl hi), List.idxOf_append, if_pos hi]
    · rw [if_neg hi, if_neg (fun h => h.elim hi (fun h => e h.symm))]
theorem zl_set (l : List Nat) (i v : Nat) : (zl l).set i (v : Int) = zl (l.set i v) := by simp [zl, List.map_set]
/-- Rounds that are enough from place i on. -/
def mR (x : AutV) (i : Nat) : Nat := 10 * (x.acc.length - i) + x.acc.length + 2
theorem rmin_l1 {x : AutV} (h : AutOk x) {i : Nat} (hi : i < (mbs x (i * mK x)).length)
    (ih : ∀ k, mR x (i + 1) < k → eggboxref10_Minimal.l0 k (zl (mcl x)) (zl (numL x.acc.length (mbs x ((i + 1) * mK x)))) (zl (mbs x ((i + 1) * mK x))) ((i + 1 : Nat) : Int) x.k x.next x.acc x.k (zl (mnx x ((i + 1) * mK x))) (acs x (i + 1) ((i + 1) * mK x)) = some (x.k, (mAut x).next, (mAut x).acc, mTo x, 0)) (d : Nat) :
    ∀ (k c : Nat), mK x - c = d → c ≤ mK x → mR x (i + 1) + 1 + d < k →
      eggboxref10_Minimal.l1 k (zl (mcl x)) (zl (numL x.acc.length (mbs x (i * mK x + c)))) (zl (mbs x (i * mK x + c))) (i : Int) (c : Int) x.k x.next x.acc x.k (zl (mnx x (i * mK x + c))) (acs x i (i * mK x)) = some (x.k, (mAut x).next, (mAut x).acc, mTo x, 0) := by
  have hn := h.2.2.2.1
  have hk8 := h.2.1
  have hk1 := h.1
  obtain ⟨s, hs⟩ : ∃ s, (mbs x (i * mK x))[i]? = some s := ⟨_, List.getElem?_eq_getElem hi⟩
  have hsn : s < x.acc.length := mbs_lt h _ s (List.mem_of_getElem? hs)
  have hin : i < x.acc.length := Nat.lt_of_lt_of_le hi (mbs_le h _)
  induction d with
  | zero =>
    intro k c hd hc hk
    obtain ⟨k, rfl⟩ : ∃ m, k = m + 1 := ⟨k - 1, by omega⟩
    have hcK : c = mK x := by omega
    have e : i * mK x + c = (i + 1) * mK x := by rw [Nat.succ_mul, hcK]
    have hsq : (mbs x ((i + 1) * mK x))[i]? = some s := bs_keep (by rw [← e]; omega) hs
    have hil : i < (mbs x ((i + 1) * mK x)).length := (List.getElem?_eq_some_iff.1 hsq).1
    have hrd : rd (zl (mbs x ((i + 1) * mK x))) (i : Int) = (s : Int) := by rw [zl_rd, List.getD_eq_getElem?_getD, hsq]; rfl
    have hal : (acs x i (i * mK x)).length ≤ 4096 := by unfold acs; rw [List.length_map, List.length_take]; omega
    simp only [eggboxref10_Minimal.l1]
    rw [if_neg (by unfold mK at hcK; omega), e, if_pos (by omega), zl_len, if_pos (by omega), hrd, if_pos (by omega), if_pos (by omega), if_pos (by omega), w_in ⟨by omega, by omega⟩]
    have h1 := ih k (by omega)
    have h2 : acs x (i + 1) ((i + 1) * mK x) = acs x i (i * mK x) ++ [rdOf false x.acc (s : Int)] := by
      have hg : s = (mbs x (i * mK x)).getD i 0 := by rw [List.getD_eq_getElem?_getD, hs]; rfl
      rw [← acs_next' x hi hg]
      exact acs_keep x (by rw [← e]; omega) (by omega)
    rw [h2] at h1
    push_cast at h1
    exact h1
  | succ d ihd =>
    intro k c hd hc hk
    obtain ⟨k, rfl⟩ : ∃ m, k = m + 1 := ⟨k - 1, by omega⟩
    have hcK : c < mK x := by omega
    have hck : (c : Int) < x.k := by unfold mK at hcK; omega
    have hsq : (mbs x (i * mK x + c))[i]? = some s := bs_keep (Nat.le_add_right _ _) hs
    have hil : i < (mbs x (i * mK x + c)).length := (List.getElem?_eq_some_iff.1 hsq).1
    have hle := mbs_le h (i * mK x + c)
    have hrd : rd (zl (mbs x (i * mK x + c))) (i : Int) = (s : Int) := by rw [zl_rd, List.getD_eq_getElem?_getD, hsq]; rfl
    obtain ⟨e1, b1⟩ := idx_w h hsn hck
    obtain ⟨z1, y1⟩ := stp_lt h hsn hck
    have ht : mst x s c < x.acc.length := mst_lt h hsn hcK
    have hrt : rd (zl (mcl x)) ((stp x s c : Nat) : Int) = ((mst x s c : Nat) : Int) := zl_rd _ _
    have hnl : (mnx x (i * mK x + c)).length ≤ 40960 := by
      have h1 : (mnx x (i * mK x + c)).length ≤ i * mK x + c := nx_le _
      have h2 : i * mK x + c ≤ (i + 1) * mK x := by rw [Nat.succ_mul]; omega
      have h3 : (i + 1) * mK x ≤ 4096 * 8 := Nat.mul_le_mul (by omega) (by unfold mK; omega)
      omega
    simp only [eggboxref10_Minimal.l1]
    rw [if_pos hck, if_pos (by omega), zl_len, if_pos (by omega), hrd, e1, if_pos (by omega), if_pos (by omega), y1, if_pos (by omega), zl_len, mcl_len, if_pos (by omega), hrt, if_pos (by omega), zl_len, numL_len, if_pos (by omega), zl_rd, numL_get _ _ ht]
    by_cases hm : mst x s c ∈ mbs x (i * mK x + c)
    · obtain ⟨g1, g2⟩ := bs_nx_old hcK hsq hm
      have g1' : mbs x (i * mK x + (c + 1)) = mbs x (i * mK x + c) := g1
      have g2' : mnx x (i * mK x + (c + 1)) = mnx x (i * mK x + c) ++ [(mbs x (i * mK x + c)).idxOf (mst x s c)] := g2
      rw [if_pos hm, if_neg (by omega), zl_len, if_pos (by omega), w_in (i := (c : Int) + 1) ⟨by omega, by omega⟩]
      have hix := List.idxOf_lt_length_of_mem hm
      have h1 := ihd k (c + 1) (by omega) (by omega) (by omega)
      rw [g1', g2', zl_snoc] at h1
      rw [w_in ⟨by omega, by omega⟩, show ((((mbs x (i * mK x + c)).idxOf (mst x s c) + 1 : Nat) : Int) - 1) = (((mbs x (i * mK x + c)).idxOf (mst x s c) : Nat) : Int) by push_cast; omega]
      push_cast at h1
      exact h1
    · obtain ⟨g1, g2⟩ := bs_nx_new hcK hsq hm
      have g1' : mbs x (i * mK x + (c + 1)) = mbs x (i * mK x + c) ++ [mst x s c] := g1
      have g2' : mnx x (i * mK x + (c + 1)) = mnx x (i * mK x + c) ++ [(mbs x (i * mK x + c)).length] := g2
      rw [if_neg hm, if_pos (by rfl), if_pos (by omega)]
      simp only [Option.bind_some]
      have hln : ((zl (mbs x (i * mK x + c)) ++ [((mst x s c : Nat) : Int)]).length : Int) = (((mbs x (i * mK x + c)).length + 1 : Nat) : Int) := by simp [zl_len]
      have hset : (zl (numL x.acc.length (mbs x (i * mK x + c)))).set (mst x s c) (((mbs x (i * mK x + c)).length + 1 : Nat) : Int) = zl (numL x.acc.length (mbs x (i * mK x + c) ++ [mst x s c])) := by rw [zl_set, numL_snoc hm]
      have hnew : rd (zl (numL x.acc.length (mbs x (i * mK x + c) ++ [mst x s c]))) ((mst x s c : Nat) : Int) = (((mbs x (i * mK x + c)).length + 1 : Nat) : Int) := by
        rw [zl_rd, numL_get _ _ ht, if_pos (by simp), idxOf_last hm]
      rw [hln, Int.toNat_natCast, hset, zl_len, if_pos (by omega), hnew, w_in (i := (c : Int) + 1) ⟨by omega, by omega⟩, w_in ⟨by omega, by omega⟩, show ((((mbs x (i * mK x + c)).length + 1 : Nat) : Int) - 1) = (((mbs x (i * mK x + c)).length : Nat) : Int) by push_cast; omega]
      have h1 := ihd k (c + 1) (by omega) (by omega) (by omega)
      rw [g1', g2', zl_snoc, zl_snoc] at h1
      push_cast at h1 ⊢
      exact h1
theorem numL_tv (x : AutV) {s : Nat} (hs : s < x.acc.length) : (((numL x.acc.length (mL x)).getD s 0 : Nat) : Int) - 1 = tv x s := by
  rw [numL_get _ _ hs]
  unfold tv
  split
  · push_cast; omega
  · rfl
theorem rmin_l2 {x : AutV} (h : AutOk x) (d : Nat) : ∀ (k j : Nat), x.acc.length - j = d → j ≤ x.acc.length → d < k → ∀ (p : Int) (q : List Int) (r : List Bool),
    eggboxref10_Minimal.l2 k (zl (mcl x)) (zl (numL x.acc.length (mL x))) (tok x j) (j : Int) p q r = some (p, q, r, mTo x, 0) := by
  have hn := h.2.2.2.1
  induction d with
  | zero =>
    intro k j hd hj hk p q r
    obtain ⟨k, rfl⟩ : ∃ m, k = m + 1 := ⟨k - 1, by omega⟩
    simp only [eggboxref10_Minimal.l2]
    rw [zl_len, mcl_len, if_neg (by omega), show j = x.acc.length by omega, tok_end]
  | succ d ih =>
    intro k j hd hj hk p q r
    obtain ⟨k, rfl⟩ : ∃ m, k = m + 1 := ⟨k - 1, by omega⟩
    have hjn : j < x.acc.length := by omega
    have hcl := mcl_lt (x := x) hjn
    have hlt : (numL x.acc.length (mL x)).getD ((mcl x).getD j 0) 0 ≤ 4097 := by
      rw [numL_get _ _ hcl]
      split
      · rename_i hm
        have h1 := List.idxOf_lt_length_of_mem hm
        have h2 := mbs_le h (x.acc.length * mK x)
        have h3 : (mL x).length ≤ x.acc.length := h2
        omega
      · omega
    simp only [eggboxref10_Minimal.l2]
    rw [zl_len, mcl_len, if_pos (by omega), if_pos (by omega), zl_rd, if_pos (by omega), zl_len, numL_len, if_pos (by omega), tok_len, if_pos (by omega), zl_rd, w_in ⟨by omega, by omega⟩, w_in ⟨by omega, by omega⟩, numL_tv x hcl, Int.toNat_natCast, tok_set]
    have h1 := ih k (j + 1) (by omega) (by omega) (by omega) p q r
    push_cast at h1
    exact h1
theorem rmin_l0 {x : AutV} (h : AutOk x) (d : Nat) : ∀ (k i : Nat), x.acc.length - i = d → i ≤ (mbs x (i * mK x)).length → mR x i < k →
    eggboxref10_Minimal.l0 k (zl (mcl x)) (zl (numL x.acc.length (mbs x (i * mK x)))) (zl (mbs x (i * mK x))) (i : Int) x.k x.next x.acc x.k (zl (mnx x (i * mK x))) (acs x i (i * mK x)) = some (x.k, (mAut x).next, (mAut x).acc, mTo x, 0) := by
  have hn := h.2.2.2.1
  have hk8 := h.2.1
  induction d with
  | zero =>
    intro k i hd hi hk
    obtain ⟨k, rfl⟩ : ∃ m, k = m + 1 := ⟨k - 1, by omega⟩
    have hle := mbs_le h (i * mK x)
    have hil : (mbs x (i * mK x)).length = i := by omega
    obtain ⟨e1, e2⟩ := mL_end h hil
    have hl2 := rmin_l2 h x.acc.length k 0 (by omega) (by omega) (by unfold mR at hk; omega) x.k (zl (mnx x (i * mK x))) (acs x i (i * mK x))
    simp only [eggboxref10_Minimal.l0]
    rw [zl_len, if_neg (by omega), zl_len, mcl_len, if_pos (by omega), if_pos (by omega), Int.toNat_natCast, e1]
    rw [tok_zero, show zl (List.replicate x.acc.length 0) = List.replicate x.acc.length (0 : Int) by simp [zl]] at hl2
    refine hl2.trans ?_
    congr 2
    unfold mAut acs
    rw [e2, e1, List.take_of_length_le (by omega)]
  | succ d ih =>
    intro k i hd hi hk
    have hle := mbs_le h (i * mK x)
    by_cases hil : i < (mbs x (i * mK x)).length
    · obtain ⟨k, rfl⟩ : ∃ m, k = m + 1 := ⟨k - 1, by omega⟩
      simp only [eggboxref10_Minimal.l0]
      rw [zl_len, if_pos (by omega)]
      have hnext : i + 1 ≤ (mbs x ((i + 1) * mK x)).length := by
        have h1 : (mbs x (i * mK x)).length ≤ (mbs x ((i + 1) * mK x)).length := by
          unfold mbs; rw [bs_len, bs_len]; exact bw_le (Nat.mul_le_mul_right _ (by omega))
        omega
      have hK : mK x ≤ 8 := by unfold mK; omega
      exact rmin_l1 h hil (fun k hk => ih k (i + 1) (by omega) hnext hk) (mK x) k 0 (by omega) (by omega) (by unfold mR at hk ⊢; omega)
    · obtain ⟨k, rfl⟩ : ∃ m, k = m + 1 := ⟨k - 1, by omega⟩
      have hil : (mbs x (i * mK x)).length = i := by omega
      obtain ⟨e1, e2⟩ := mL_end h hil
      have hl2 := rmin_l2 h x.acc.length k 0 (by omega) (by omega) (by unfold mR at hk; omega) x.k (zl (mnx x (i * mK x))) (acs x i (i * mK x))
      simp only [eggboxref10_Minimal.l0]
      rw [zl_len, if_neg (by omega), zl_len, mcl_len, if_pos (by omega), if_pos (by omega), Int.toNat_natCast, e1]
      rw [tok_zero, show zl (List.replicate x.acc.length 0) = List.replicate x.acc.length (0 : Int) by simp [zl]] at hl2
      refine hl2.trans ?_
      congr 2
      unfold mAut acs
      rw [e2, e1, List.take_of_length_le (by omega)]
/-- The reference's Minimal. -/
theorem rmin_f (x : AutV) (hn : x.acc.length ≤ 140737488351232) {k : Nat} (hk : rK x + x.acc.length + 3 < k) (hk2 : mR x 0 < k) :
    eggboxref10_Minimal.f k x.k x.next x.acc = some ((minV x).k, (minV x).next, (minV x).acc, minT x, autE x) := by
  unfold eggboxref10_Minimal.f
  rw [classes_f x (by omega) hk]
  simp only [Option.bind_some]
  by_cases h0 : autE x = 0
  · have h := autE_is h0
    have e1 : clL x = mcl x := by unfold clL; rw [if_pos h0]; rfl
    have e2 : minV x = mAut x := by unfold minV; rw [if_pos h0]
    have e3 : minT x = mTo x := by unfold minT; rw [if_pos h0]
    have hp := h.2.2.1
    have hp2 := h.2.2.2.1
    rw [if_pos h0, e1, e2, e3, h0, zl_len, mcl_len, if_pos (by omega), if_pos (by omega), Int.toNat_natCast, List.length_replicate, if_pos (by omega)]
    have h1 := rmin_l0 h x.acc.length k 0 (by omega) (Nat.zero_le _) hk2
    have hf : mfi x = 0 := by have := (cls_cls x x.acc.length).le 0 (by omega); unfold mfi mcl; omega
    have b0 : mbs x (0 * mK x) = [0] := by rw [Nat.zero_mul]; show [mfi x] = [0]; rw [hf]
    have b1 : mnx x (0 * mK x) = [] := by rw [Nat.zero_mul]; rfl
    have b2 : acs x 0 (0 * mK x) = [] := by unfold acs; rw [List.take_zero]; rfl
    have b3 : zl (numL x.acc.length [0]) = (List.replicate x.acc.length (0 : Int)).set (0 : Int).toNat 1 := by
      apply List.ext_getElem (by simp [zl, numL])
      intro i h1 h2
      simp only [zl, numL, List.getElem_map, List.getElem_range, List.getElem_set, List.getElem_replicate, List.mem_singleton]
      by_cases e : i = 0
      · subst e; simp
      · rw [if_neg e, if_neg (by simpa using fun h => e h.symm)]; rfl
    rw [b0, b1, b2, b3] at h1
    exact h1
  · have e2 : minV x = ⟨0, [], []⟩ := by unfold minV; rw [if_neg h0]
    have e3 : minT x = [] := by unfold minT; rw [if_neg h0]
    rw [if_neg h0, e2, e3]
end Go.Proofs.Ytjedippbjjedlaa
