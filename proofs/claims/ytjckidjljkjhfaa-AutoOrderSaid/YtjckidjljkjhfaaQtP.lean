/- Plain: what may stand behind a word, what ahead of it. -/
import Derived.Test.YtjckidjljkjhfaaC4
namespace Go.Proofs.Ytjckidjljkjhfaa
open Go.Proofs.YtjckidjljkjhfaaW.PrintWords
/-- A word's letters. -/
def lts (v : ByteArray) : List Nat := v.data.toList.map fun b => b.toNat - 97
theorem fol_rn (x : AutV) (s : Nat) (v : ByteArray) : fol x s v.data.toList = rn (stp x) s (lts v) := by
  unfold fol rn lts
  rw [List.foldl_map]
theorem lts_let {k : Int} {v : ByteArray} (h : wrdE k v = 0) : ∀ c ∈ lts v, c < k.toNat := by
  intro c hc
  obtain ⟨b, hb, rfl⟩ := List.mem_map.1 hc
  have h1 := wrdE_ok h
  unfold letB at h1
  rw [List.all_eq_true] at h1
  have := h1 b hb
  simp only [Bool.and_eq_true, decide_eq_true_eq] at this
  omega
theorem lts_app (u v : ByteArray) : lts (u ++ v) = lts u ++ lts v := by
  unfold lts
  rw [ByteArray.data_append, Array.toList_append, List.map_append]
theorem wrd_app {k : Int} {u v : ByteArray} (hu : wrdE k u = 0) (hv : wrdE k v = 0) : wrdE k (u ++ v) = 0 := by
  have h1 := wrdE_ok hu
  have h2 := wrdE_ok hv
  unfold wrdE at hu ⊢
  by_cases h : k < 1 ∨ 8 < k
  · rw [if_pos h] at hu; cases hu
  · rw [if_neg h]
    have : letB k (u ++ v) = true := by
      unfold letB at h1 h2 ⊢
      rw [ByteArray.data_append, Array.toList_append, List.all_append, h1, h2]; rfl
    rw [this]; rfl
noncomputable def ahV (x : AutV) (w : ByteArray) : AutV := if runE x 0 w = 0 then srV x.k.toNat (stp x) (runV x 0 w) (gdA x) else noV
noncomputable def bhV (x : AutV) (w : ByteArray) : AutV := if runE x 0 w = 0 then srV x.k.toNat (stp x) 0 (fun s => gdA x (fol x s w.data.toList)) else noV
theorem ah_of {x : AutV} {w : ByteArray} (h : runE x 0 w = 0) : ahV x w = srV x.k.toNat (stp x) (runV x 0 w) (gdA x) := by unfold ahV; rw [if_pos h]
theorem bh_of {x : AutV} {w : ByteArray} (h : runE x 0 w = 0) : bhV x w = srV x.k.toNat (stp x) 0 (fun s => gdA x (fol x s w.data.toList)) := by unfold bhV; rw [if_pos h]
theorem run_is {x : AutV} {w : ByteArray} (h : runE x 0 w = 0) : AutOk x ∧ wrdE x.k w = 0 ∧ runV x 0 w = rn (stp x) 0 (lts w) ∧ runV x 0 w < x.acc.length := by
  obtain ⟨h1, h2, h3, h4⟩ := run_lt h
  exact ⟨autE_is h1, h2, by rw [h3, fol_rn], h4⟩
theorem run_ok {x : AutV} {w : ByteArray} (hx : AutOk x) (hw : wrdE x.k w = 0) : runE x 0 w = 0 := by
  unfold runE
  rw [if_pos (autE_ok hx), if_pos ⟨Int.le_refl 0, by have := hx.2.2.1; omega⟩, hw]
theorem srV_ext {σ : Type} [DecidableEq σ] {k : Nat} {step : σ → Nat → σ} {first : σ} {g g' : σ → Bool} (hk : 0 < k) (h : ∀ u : List Nat, (∀ c ∈ u, c < k) → g (rn step first u) = g' (rn step first u)) : srV k step first g = srV k step first g' :=
  (sr_same hk (fun _ _ _ _ => Iff.rfl) h).2
/-- A search over what a search told. -/
theorem sr_again {σ : Type} [DecidableEq σ] {k : Nat} {step : σ → Nat → σ} {first : σ} (hk : 0 < k) (good : σ → Bool) (h : srE k step first = 0) {j0 : Nat} {s0 : σ} (hj : (srL k step first)[j0]? = some s0) (g : Nat → Bool) (g' : σ → Bool)
    (hg : ∀ (i : Nat) (s : σ), (srL k step first)[i]? = some s → g i = g' s) : srV k (stp (srV k step first good)) j0 g = srV k step s0 g' := by
  refine (sr_same hk (fun u v hu hv => ?_) (fun u hu => ?_)).2
  · have h1 := sr_run hk good h u hu hj
    have h2 := sr_run hk good h v hv hj
    constructor
    · intro e
      rw [e, h2] at h1
      injection h1 with h1
      exact h1.symm
    · intro e
      rw [e] at h1
      exact bs_uniq h1 h2
  · exact hg _ _ (sr_run hk good h u hu hj)
theorem sr_k {k : Nat} {step : Nat → Nat → Nat} {first : Nat} {good : Nat → Bool} (h : srE k step first = 0) : (srV k step first good).k = (k : Int) := by rw [srV_ok good h]
/-- Behind u, and behind that v: behind u v. -/
theorem ah_ah {x : AutV} {u v : ByteArray} (hu : runE x 0 u = 0) (hv : runE x 0 v = 0) : runE (ahV x u) 0 v = 0 ∧ runE x 0 (u ++ v) = 0 ∧ ahV (ahV x u) v = ahV x (u ++ v) := by
  obtain ⟨hx, wu, ru, lu⟩ := run_is hu
  obtain ⟨_, wv, _, _⟩ := run_is hv
  have hk : 0 < x.k.toNat := by have := hx.1; omega
  have hk8 : x.k.toNat ≤ 8 := by have := hx.2.1; omega
  have hkk : ((x.k.toNat : Nat) : Int) = x.k := by have := hx.1; omega
  have huv := run_ok hx (wrd_app wu wv)
  have hs := sr_small hx lu
  have hp : ahV x u = srV x.k.toNat (stp x) (runV x 0 u) (gdA x) := by unfold ahV; rw [if_pos hu]
  have hpa : AutOk (ahV x u) := by rw [hp]; exact sr_aut hk hk8 (gdA x) hs
  have hpk : (ahV x u).k = x.k := by rw [hp, sr_k hs, hkk]
  have hpv : runE (ahV x u) 0 v = 0 := run_ok hpa (by rw [hpk]; exact wv)
  refine ⟨hpv, huv, ?_⟩
  have e1 : ahV (ahV x u) v = srV x.k.toNat (stp (ahV x u)) (runV (ahV x u) 0 v) (gdA (ahV x u)) := by
    rw [ah_of hpv, hpk]
  have e2 : ahV x (u ++ v) = srV x.k.toNat (stp x) (runV x 0 (u ++ v)) (gdA x) := by
    rw [ah_of huv]
  have hrun := (run_is hpv).2.2.1
  have hruv := (run_is huv).2.2.1
  rw [e1, e2, hrun, hruv, lts_app, rn_app, ← ru, hp]
  exact sr_again hk (gdA x) hs (sr_run hk (gdA x) hs (lts v) (lts_let wv) sr_first) _ _ (fun i s hi => sr_acc (gdA x) hs hi)
/-- Ahead of v, and ahead of that u: ahead of u v. -/
theorem bh_bh {x : AutV} {u v : ByteArray} (hu : runE x 0 u = 0) (hv : runE x 0 v = 0) : runE (bhV x v) 0 u = 0 ∧ bhV (bhV x v) u = bhV x (u ++ v) := by
  obtain ⟨hx, wu, ru, lu⟩ := run_is hu
  obtain ⟨_, wv, _, _⟩ := run_is hv
  have hk : 0 < x.k.toNat := by have := hx.1; omega
  have hk8 : x.k.toNat ≤ 8 := by have := hx.2.1; omega
  have hkk : ((x.k.toNat : Nat) : Int) = x.k := by have := hx.1; omega
  have huv := run_ok hx (wrd_app wu wv)
  have hs := sr_small hx (first := 0) (by have := hx.2.2.1; omega)
  have hp : bhV x v = srV x.k.toNat (stp x) 0 (fun s => gdA x (fol x s v.data.toList)) := by unfold bhV; rw [if_pos hv]
  have hpa : AutOk (bhV x v) := by rw [hp]; exact sr_aut hk hk8 _ hs
  have hpk : (bhV x v).k = x.k := by rw [hp, sr_k hs, hkk]
  have hpu : runE (bhV x v) 0 u = 0 := run_ok hpa (by rw [hpk]; exact wu)
  refine ⟨hpu, ?_⟩
  have e1 : bhV (bhV x v) u = srV x.k.toNat (stp (bhV x v)) 0 (fun s => gdA (bhV x v) (fol (bhV x v) s u.data.toList)) := by
    rw [bh_of hpu, hpk]
  have e2 : bhV x (u ++ v) = srV x.k.toNat (stp x) 0 (fun s => gdA x (fol x s (u ++ v).data.toList)) := by
    rw [bh_of huv]
  rw [e1, e2, hp]
  refine sr_again hk _ hs sr_first _ _ (fun i s hi => ?_)
  show rdOf false _ ((fol _ i u.data.toList : Nat) : Int) = rdOf false x.acc ((fol x s (u ++ v).data.toList : Nat) : Int)
  rw [fol_rn, fol_rn x s (u ++ v), lts_app, rn_app, sr_acc _ hs (sr_run hk _ hs (lts u) (lts_let wu) hi)]
  show rdOf false x.acc ((fol x _ v.data.toList : Nat) : Int) = _
  rw [fol_rn]
/-- Two states changed about. -/
def trn (s i : Nat) : Nat := if i = 0 then s else if i = s then 0 else i
theorem trn_trn (s i : Nat) : trn s (trn s i) = i := by
  unfold trn
  by_cases h : i = 0
  · rw [if_pos h]
    by_cases h2 : s = 0
    · rw [if_pos h2]; omega
    · rw [if_neg h2, if_pos rfl, h]
  · rw [if_neg h]
    by_cases h2 : i = s
    · rw [if_pos h2, if_pos rfl, h2]
    · rw [if_neg h2, if_neg h, if_neg h2]
theorem trn_lt {s i n : Nat} (hs : s < n) (hi : i < n) : trn s i < n := by
  unfold trn
  split
  · exact hs
  · split
    · omega
    · exact hi
/-- An automaton of numbered states, laid out. -/
def fnl (k : Nat) (st : Nat → Nat → Nat) (m : Nat) : List Nat := (List.range m).map fun j => st (j / k) (j % k)
def fal (g : Nat → Bool) (m : Nat) : List Bool := (List.range m).map g
theorem fnl_len (k : Nat) (st : Nat → Nat → Nat) (m : Nat) : (fnl k st m).length = m := by simp [fnl]
theorem fal_len (g : Nat → Bool) (m : Nat) : (fal g m).length = m := by simp [fal]
theorem fnl_next {k : Nat} {st : Nat → Nat → Nat} {s c : Nat} (hc : c < k) : fnl k st (s * k + (c + 1)) = fnl k st (s * k + c) ++ [st s c] := by
  have e1 : (s * k + c) / k = s := by rw [Nat.add_comm, Nat.add_mul_div_right _ _ (by omega), Nat.div_eq_of_lt hc, Nat.zero_add]
  have e2 : (s * k + c) % k = c := by rw [Nat.add_comm, Nat.add_mul_mod_self_right, Nat.mod_eq_of_lt hc]
  unfold fnl
  rw [← Nat.add_assoc, List.range_succ, List.map_append, List.map_cons, List.map_nil, e1, e2]
theorem fal_next (g : Nat → Bool) (m : Nat) : fal g (m + 1) = fal g m ++ [g m] := by
  unfold fal
  rw [List.range_succ, List.map_append]; rfl
def fAut (k n : Nat) (st : Nat → Nat → Nat) (g : Nat → Bool) : AutV := ⟨(k : Int), zl (fnl k st (n * k)), fal g n⟩
theorem fAut_get {k n : Nat} {st : Nat → Nat → Nat} {g : Nat → Bool} {j : Nat} (h : j < n * k) : rd (fAut k n st g).next (j : Int) = ((st (j / k) (j % k) : Nat) : Int) := by
  show rd (zl (fnl k st (n * k))) (j : Int) = _
  rw [zl_rd]
  congr 1
  unfold fnl
  rw [List.getD_eq_getElem?_getD, List.getElem?_map, List.getElem?_range h]
  rfl
theorem fAut_ok {k n : Nat} {st : Nat → Nat → Nat} {g : Nat → Bool} (hk : 0 < k) (hk8 : k ≤ 8) (h1 : 0 < n) (h2 : n ≤ 4096) (hst : ∀ s c, s < n → c < k → st s c < n) : AutOk (fAut k n st g) := by
  have hl : (fAut k n st g).next.length = n * k := by
    show (zl (fnl k st (n * k))).length = _
    rw [zl_len, fnl_len]
  have ha : (fAut k n st g).acc.length = n := fal_len _ _
  refine ⟨by show (1 : Int) ≤ (k : Int); omega, by show (k : Int) ≤ 8; omega, by rw [ha]; omega, by rw [ha]; omega, by rw [hl, ha]; push_cast; rfl, fun i hi => ?_⟩
  rw [hl] at hi
  rw [fAut_get hi, ha]
  have := hst (i / k) (i % k) ((Nat.div_lt_iff_lt_mul hk).2 hi) (Nat.mod_lt _ hk)
  omega
theorem fAut_stp {k n : Nat} {st : Nat → Nat → Nat} {g : Nat → Bool} {s c : Nat} (hs : s < n) (hc : c < k) : stp (fAut k n st g) s c = st s c := by
  have e1 : (s * k + c) / k = s := by rw [Nat.add_comm, Nat.add_mul_div_right _ _ (by omega), Nat.div_eq_of_lt hc, Nat.zero_add]
  have e2 : (s * k + c) % k = c := by rw [Nat.add_comm, Nat.add_mul_mod_self_right, Nat.mod_eq_of_lt hc]
  have hlt : s * k + c < n * k := by
    have : (s + 1) * k ≤ n * k := Nat.mul_le_mul_right k hs
    rw [Nat.succ_mul] at this; omega
  unfold stp
  rw [show (fAut k n st g).k.toNat = k from Int.toNat_natCast k, fAut_get hlt, e1, e2, Int.toNat_natCast]
theorem fAut_acc {k n : Nat} {st : Nat → Nat → Nat} {g : Nat → Bool} {s : Nat} (hs : s < n) : rdOf false (fAut k n st g).acc (s : Int) = g s := by
  show rdOf false (fal g n) (s : Int) = _
  unfold rdOf fal
  rw [Int.toNat_natCast, List.getD_eq_getElem?_getD, List.getElem?_map, List.getElem?_range hs]
  rfl
theorem fAut_run {k n : Nat} {st : Nat → Nat → Nat} {g : Nat → Bool} (hst : ∀ s c, s < n → c < k → st s c < n) : ∀ (u : List Nat) (s : Nat), s < n → (∀ c ∈ u, c < k) → rn (stp (fAut k n st g)) s u = rn st s u ∧ rn st s u < n
  | [], s, hs, _ => ⟨rfl, hs⟩
  | c :: r, s, hs, hu => by
    have h1 := fAut_stp (st := st) (g := g) hs (hu c List.mem_cons_self)
    have h2 := hst s c hs (hu c List.mem_cons_self)
    have ih := fAut_run (g := g) hst r (st s c) h2 (fun d hd => hu d (List.mem_cons_of_mem _ hd))
    show rn (stp (fAut k n st g)) (stp (fAut k n st g) s c) r = _ ∧ _
    rw [h1]
    exact ih
theorem from_f {k n : Nat} {st : Nat → Nat → Nat} {g : Nat → Bool} (hk : 0 < k) (hk8 : k ≤ 8) (h1 : 0 < n) (h2 : n ≤ 4096) (hst : ∀ s c, s < n → c < k → st s c < n) : fromV (fAut k n st g) 0 (fun s => rdOf false (fAut k n st g).acc (s : Int)) = srV k st 0 g := by
  unfold fromV
  rw [if_pos (autE_ok (fAut_ok hk hk8 h1 h2 hst)), show (fAut k n st g).k.toNat = k from Int.toNat_natCast k]
  refine (sr_same (good' := g) hk (fun u u' hu hu' => ?_) (fun u hu => ?_)).2
  · rw [(fAut_run hst u 0 h1 hu).1, (fAut_run hst u' 0 h1 hu').1]
  · rw [(fAut_run hst u 0 h1 hu).1]
    exact fAut_acc (fAut_run (g := g) hst u 0 h1 hu).2
/-- The reference's automaton for Ahead: 0 and s changed about. -/
def tst (x : AutV) (s i c : Nat) : Nat := trn s (stp x (trn s i) c)
def tgd (x : AutV) (s i : Nat) : Bool := gdA x (trn s i)
theorem tst_run (x : AutV) (s : Nat) : ∀ (u : List Nat) (i : Nat), rn (tst x s) (trn s i) u = trn s (rn (stp x) i u)
  | [], _ => rfl
  | c :: r, i => by
    show rn (tst x s) (tst x s (trn s i) c) r = trn s (rn (stp x) (stp x i c) r)
    unfold tst
    rw [trn_trn]
    exact tst_run x s r (stp x i c)
theorem sr_trn {x : AutV} {s k : Nat} (hk : 0 < k) : srV k (tst x s) 0 (tgd x s) = srV k (stp x) s (gdA x) := by
  have e0 : trn s s = 0 := by unfold trn; by_cases h : s = 0 <;> simp [h]
  have hr : ∀ u, rn (tst x s) 0 u = trn s (rn (stp x) s u) := fun u => by rw [← tst_run x s u s, e0]
  refine (sr_same hk (fun u v _ _ => ?_) (fun u _ => ?_)).2
  · rw [hr, hr]
    constructor
    · intro e
      have := congrArg (trn s) e
      rwa [trn_trn, trn_trn] at this
    · intro e; rw [e]
  · rw [hr]
    unfold tgd
    rw [trn_trn]
/-- The reference's automaton for Behind. -/
def bAut (x : AutV) (g : Nat → Bool) : AutV := ⟨x.k, x.next, fal g x.acc.length⟩
theorem bAut_ok {x : AutV} (g : Nat → Bool) (hx : AutOk x) : AutOk (bAut x g) := by
  have ha : (bAut x g).acc.length = x.acc.length := fal_len _ _
  obtain ⟨h1, h2, h3, h4, h5, h6⟩ := hx
  exact ⟨h1, h2, by rw [ha]; exact h3, by rw [ha]; exact h4, by rw [ha]; exact h5, fun i hi => by rw [ha]; exact h6 i hi⟩
theorem from_b {x : AutV} (g : Nat → Bool) (hx : AutOk x) : fromV (bAut x g) 0 (fun s => rdOf false (bAut x g).acc (s : Int)) = srV x.k.toNat (stp x) 0 g := by
  have hk : 0 < x.k.toNat := by have := hx.1; omega
  unfold fromV
  rw [if_pos (autE_ok (bAut_ok g hx))]
  show srV x.k.toNat (stp x) 0 _ = _
  refine srV_ext hk (fun u hu => ?_)
  have hl : rn (stp x) 0 u < x.acc.length := by
    have key : ∀ (u : List Nat) (s : Nat), s < x.acc.length → (∀ c ∈ u, c < x.k.toNat) → rn (stp x) s u < x.acc.length := by
      intro u
      induction u with
      | nil => intro s hs _; exact hs
      | cons c r ih =>
        intro s hs hu
        refine ih (stp x s c) (stp_lt hx hs ?_).1 (fun d hd => hu d (List.mem_cons_of_mem _ hd))
        have := hu c List.mem_cons_self
        omega
    exact key u 0 (by have := hx.2.2.1; omega) hu
  show rdOf false (fal g x.acc.length) ((rn (stp x) 0 u : Nat) : Int) = _
  unfold rdOf fal
  rw [Int.toNat_natCast, List.getD_eq_getElem?_getD, List.getElem?_map, List.getElem?_range hl]
  rfl
end Go.Proofs.Ytjckidjljkjhfaa
