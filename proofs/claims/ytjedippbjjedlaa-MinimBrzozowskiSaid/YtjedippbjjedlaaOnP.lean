/- Plain: the minimal automaton is what a search tells, and hangs on the language alone; once is enough. -/
import Derived.Test.YtjedippbjjedlaaC1n
import Derived.Test.YtjedippbjjedlaaD1
namespace Go.Proofs.Ytjedippbjjedlaa
open Go.RowKit Go.Proofs.YtjedippbjjedlaaW.PrintWords
/-- The words of an automaton. -/
abbrev lng (x : AutV) (u : List Nat) : Bool := acN x (rn (stp x) 0 u)
theorem rn_cons {σ : Type} (step : σ → Nat → σ) (s : σ) (c : Nat) (r : List Nat) : rn step s (c :: r) = rn step (step s c) r := rfl
theorem mcl_rep {x : AutV} (h : AutOk x) {s : Nat} (hs : s < x.acc.length) {w : List Nat} (hw : ∀ c ∈ w, c < mK x) : acN x (rn (stp x) ((mcl x).getD s 0) w) = acN x (rn (stp x) s w) :=
  (mcl_iff h (mcl_lt hs) hs).1 ((cls_cls x _).own s hs) w hw
theorem mrn_cls {x : AutV} (h : AutOk x) : ∀ (u : List Nat) (s : Nat), s < x.acc.length → (∀ c ∈ u, c < mK x) → rn (mst x) ((mcl x).getD s 0) u = (mcl x).getD (rn (stp x) s u) 0
  | [], _, _, _ => rfl
  | c :: r, s, hs, hu => by
    have hc := hu c List.mem_cons_self
    have hr : ∀ d ∈ r, d < mK x := fun d hd => hu d (List.mem_cons_of_mem _ hd)
    have h1 : mst x ((mcl x).getD s 0) c = (mcl x).getD (stp x s c) 0 := by
      refine (mcl_iff h (h.stpIn _ c (mcl_lt hs) hc) (h.stpIn s c hs hc)).2 fun w hw => ?_
      have := mcl_rep h hs (w := c :: w) (fun d hd => by rcases List.mem_cons.1 hd with rfl | hd; exact hc; exact hw d hd)
      rw [rn_cons, rn_cons] at this
      exact this
    rw [rn_cons, rn_cons, h1]
    exact mrn_cls h r (stp x s c) (h.stpIn s c hs hc) hr
theorem n_pos {x : AutV} (h : AutOk x) : 0 < x.acc.length := h.2.2.1
theorem min_ker {x : AutV} (h : AutOk x) {u v : List Nat} (hu : ∀ c ∈ u, c < mK x) (hv : ∀ c ∈ v, c < mK x) :
    rn (mst x) (mfi x) u = rn (mst x) (mfi x) v ↔ ∀ w : List Nat, (∀ c ∈ w, c < mK x) → lng x (u ++ w) = lng x (v ++ w) := by
  show rn (mst x) ((mcl x).getD 0 0) u = rn (mst x) ((mcl x).getD 0 0) v ↔ _
  rw [mrn_cls h u 0 (n_pos h) hu, mrn_cls h v 0 (n_pos h) hv, mcl_iff h (rn_in h.stpIn u 0 (n_pos h) hu) (rn_in h.stpIn v 0 (n_pos h) hv)]
  constructor
  · intro e w hw
    show acN x (rn (stp x) 0 (u ++ w)) = acN x (rn (stp x) 0 (v ++ w))
    rw [rn_app, rn_app]; exact e w hw
  · intro e w hw
    have := e w hw
    unfold lng at this
    rw [rn_app, rn_app] at this
    exact this
theorem min_sr {x : AutV} (h : AutOk x) : srE (mK x) (mst x) (mfi x) = 0 ∧ mAut x = srV (mK x) (mst x) (mfi x) (acN x) ∧ srL (mK x) (mst x) (mfi x) = mL x := by
  obtain ⟨h1, h2⟩ := closed_at (mK_pos h) (mbs_le h)
  have hle : (mL x).length ≤ 4096 := Nat.le_trans (mbs_le h _) h.2.2.2.1
  have hL : srL (mK x) (mst x) (mfi x) = mL x := h2 _ (Nat.mul_le_mul_right _ hle)
  have h0 : srE (mK x) (mst x) (mfi x) = 0 := by unfold srE; rw [hL, if_pos hle]
  refine ⟨h0, ?_, hL⟩
  rw [srV_ok _ h0, hL]
  have hk : x.k = ((mK x : Nat) : Int) := by have := h.1; unfold mK; omega
  show (⟨x.k, _, _⟩ : AutV) = ⟨((mK x : Nat) : Int), _, _⟩
  rw [hk]
  rfl
theorem min_ok {x : AutV} (h : AutOk x) : AutOk (mAut x) ∧ mK (mAut x) = mK x := by
  obtain ⟨h0, h1, _⟩ := min_sr h
  have := h.2.1
  rw [h1]
  exact ⟨sr_aut (mK_pos h) (by unfold mK; omega) _ h0, by rw [srV_ok _ h0]; unfold mK; exact Int.toNat_natCast _⟩
theorem min_word {x : AutV} (h : AutOk x) {u : List Nat} (hu : ∀ c ∈ u, c < mK x) : lng (mAut x) u = lng x u := by
  obtain ⟨h0, h1, _⟩ := min_sr h
  unfold lng
  rw [h1]
  refine (sr_word (mK_pos h) (acN x) h0 u hu).trans ?_
  have e : rn (mst x) (mfi x) u = (mcl x).getD (rn (stp x) 0 u) 0 := mrn_cls h u 0 (n_pos h) hu
  rw [e]
  exact mcl_rep h (rn_in h.stpIn u 0 (n_pos h) hu) (w := []) (fun c hc => by cases hc)
theorem let_app {k : Nat} {u v : List Nat} (hu : ∀ c ∈ u, c < k) (hv : ∀ c ∈ v, c < k) : ∀ c ∈ u ++ v, c < k := fun c hc => by
  rcases List.mem_append.1 hc with h | h
  · exact hu c h
  · exact hv c h
/-- Two automata whose words hang together have minimal automata that do. -/
theorem min_map {x y : AutV} (hx : AutOk x) (hy : AutOk y) (hk : mK x = mK y) (f : Bool → Bool) (hf : ∀ a b, f a = f b → a = b) (h : ∀ u : List Nat, (∀ c ∈ u, c < mK x) → lng y u = f (lng x u)) :
    mAut y = srV (mK x) (mst x) (mfi x) (fun s => f (acN x s)) := by
  obtain ⟨_, h1, _⟩ := min_sr hy
  rw [h1, ← hk]
  refine (sr_same (mK_pos hx) (fun u v hu hv => ?_) (fun u hu => ?_)).2
  · rw [min_ker hy (by rw [← hk]; exact hu) (by rw [← hk]; exact hv), min_ker hx hu hv, ← hk]
    constructor
    · intro e w hw
      have := e w hw
      rw [h _ (let_app hu hw), h _ (let_app hv hw)] at this
      exact hf _ _ this
    · intro e w hw
      rw [h _ (let_app hu hw), h _ (let_app hv hw), e w hw]
  · have e1 : rn (mst y) (mfi y) u = (mcl y).getD (rn (stp y) 0 u) 0 := mrn_cls hy u 0 (n_pos hy) (by rw [← hk]; exact hu)
    have e2 : rn (mst x) (mfi x) u = (mcl x).getD (rn (stp x) 0 u) 0 := mrn_cls hx u 0 (n_pos hx) hu
    rw [e1, e2]
    have f1 := mcl_rep hy (rn_in hy.stpIn u 0 (n_pos hy) (by rw [← hk]; exact hu)) (w := []) (fun c hc => by cases hc)
    have f2 := mcl_rep hx (rn_in hx.stpIn u 0 (n_pos hx) hu) (w := []) (fun c hc => by cases hc)
    have f3 := h u hu
    exact f1.trans (f3.trans (congrArg f f2.symm))
/-- One language, one minimal automaton. -/
theorem min_same {x y : AutV} (hx : AutOk x) (hy : AutOk y) (hk : mK x = mK y) (h : ∀ u : List Nat, (∀ c ∈ u, c < mK x) → lng y u = lng x u) : mAut y = mAut x := by
  rw [min_map hx hy hk (fun b => b) (fun _ _ e => e) h, (min_sr hx).2.1]
theorem min_idem {x : AutV} (h : AutOk x) : mAut (mAut x) = mAut x := by
  obtain ⟨h1, h2⟩ := min_ok h
  exact min_same h h1 h2.symm (fun u hu => min_word h hu)
/-- What is not accepted: the same states. -/
theorem min_flip {x y : AutV} (hx : AutOk x) (hy : AutOk y) (hk : mK x = mK y) (h : ∀ u : List Nat, (∀ c ∈ u, c < mK x) → lng y u = !lng x u) : (mAut y).next = (mAut x).next ∧ (mAut y).acc = (mAut x).acc.map (fun b => !b) := by
  obtain ⟨h0, h1, _⟩ := min_sr hx
  rw [min_map hx hy hk (fun b => !b) (fun a b e => by cases a <;> cases b <;> simp_all) h, h1, srV_ok _ h0, srV_ok _ h0]
  refine ⟨rfl, ?_⟩
  show (srL _ _ _).map _ = ((srL _ _ _).map _).map _
  rw [List.map_map]; rfl
/-- A search's answer: its states are met in their own order. -/
theorem sr_own {σ : Type} [DecidableEq σ] {k : Nat} {step : σ → Nat → σ} {first : σ} (hk : 0 < k) (good : σ → Bool) (h : srE k step first = 0) {i : Nat} (hi : i < (srL k step first).length) :
    ∃ u, (bw k step first (4096 * k))[i]? = some u ∧ (∀ c ∈ u, c < k) ∧ rn (stp (srV k step first good)) 0 u = i := by
  have hi' : i < (bw k step first (4096 * k)).length := by rw [← bs_len]; exact hi
  have hu : (bw k step first (4096 * k))[i]? = some ((bw k step first (4096 * k))[i]) := List.getElem?_eq_getElem hi'
  have hl := bw_let (step := step) (first := first) hk _ (List.mem_of_getElem? hu)
  refine ⟨_, hu, hl, ?_⟩
  have h1 := sr_run hk good h _ hl sr_first
  have h2 : (srL k step first)[i]? = some (rn step first ((bw k step first (4096 * k))[i])) := by
    unfold srL bs
    rw [List.getElem?_map, hu]; rfl
  exact bs_uniq h1 h2
theorem sr_equ {σ : Type} [DecidableEq σ] {k : Nat} {step : σ → Nat → σ} {first : σ} (hk : 0 < k) (good : σ → Bool) (h : srE k step first = 0) {u v : List Nat} (hu : ∀ c ∈ u, c < k) (hv : ∀ c ∈ v, c < k) :
    rn (stp (srV k step first good)) 0 u = rn (stp (srV k step first good)) 0 v ↔ rn step first u = rn step first v := by
  have h1 := sr_run hk good h u hu sr_first
  have h2 := sr_run hk good h v hv sr_first
  constructor
  · intro e
    rw [e, h2] at h1
    injection h1 with h1
    exact h1.symm
  · intro e
    rw [e] at h1
    exact bs_uniq h1 h2
theorem min_reach {x : AutV} (h : AutOk x) {s : Nat} (hs : s < (mAut x).acc.length) : ∃ u, (bw (mK x) (mst x) (mfi x) (4096 * mK x))[s]? = some u ∧ (∀ c ∈ u, c < mK x) ∧ rn (stp (mAut x)) 0 u = s := by
  obtain ⟨h0, h1, h2⟩ := min_sr h
  have hl : (mAut x).acc.length = (srL (mK x) (mst x) (mfi x)).length := by rw [h1, srV_ok _ h0]; exact List.length_map ..
  have := sr_own (mK_pos h) (acN x) h0 (i := s) (by rw [← hl]; exact hs)
  rw [← h1] at this
  exact this
/-- Each state of a minimal automaton is a class. -/
theorem min_cl {x : AutV} (h : AutOk x) {s : Nat} (hs : s < (mAut x).acc.length) : (mcl (mAut x)).getD s 0 = s := by
  obtain ⟨g, gk⟩ := min_ok h
  obtain ⟨h0, h1, h2⟩ := min_sr h
  have hr := mcl_lt (x := mAut x) hs
  obtain ⟨u, _, hu, eu⟩ := min_reach h hr
  obtain ⟨v, _, hv, ev⟩ := min_reach h hs
  have e := (mcl_iff g hr hs).1 ((cls_cls _ _).own s hs)
  have hk : rn (mst x) (mfi x) u = rn (mst x) (mfi x) v := (min_ker h hu hv).2 fun w hw => by
    rw [← min_word h (let_app hu hw), ← min_word h (let_app hv hw)]
    have := e w (by rw [gk]; exact hw)
    unfold lng
    rw [rn_app, rn_app, eu, ev]
    exact this
  have h3 := (sr_equ (mK_pos h) (acN x) h0 hu hv).2 hk
  rw [← h1, eu, ev] at h3
  exact h3
theorem min_mrn {x : AutV} (h : AutOk x) {u : List Nat} (hu : ∀ c ∈ u, c < mK x) : rn (mst (mAut x)) (mfi (mAut x)) u = rn (stp (mAut x)) 0 u := by
  obtain ⟨g, gk⟩ := min_ok h
  have hu' : ∀ c ∈ u, c < mK (mAut x) := by rw [gk]; exact hu
  have e : rn (mst (mAut x)) (mfi (mAut x)) u = (mcl (mAut x)).getD (rn (stp (mAut x)) 0 u) 0 := mrn_cls g u 0 (n_pos g) hu'
  rw [e]
  exact min_cl h (rn_in g.stpIn u 0 (n_pos g) hu')
theorem min_list {x : AutV} (h : AutOk x) : mL (mAut x) = List.range (mAut x).acc.length := by
  obtain ⟨g, gk⟩ := min_ok h
  obtain ⟨h0, h1, h2⟩ := min_sr h
  obtain ⟨g0, g1, g2⟩ := min_sr g
  have hl : (mAut x).acc.length = (srL (mK x) (mst x) (mfi x)).length := by rw [h1, srV_ok _ h0]; exact List.length_map ..
  have hb : bw (mK x) (mst (mAut x)) (mfi (mAut x)) (4096 * mK x) = bw (mK x) (mst x) (mfi x) (4096 * mK x) := by
    refine bw_same (mK_pos h) (fun u v hu hv => ?_) _
    rw [min_mrn h hu, min_mrn h hv]
    have := sr_equ (mK_pos h) (acN x) h0 hu hv
    rw [← h1] at this
    exact this
  have hsl : srL (mK (mAut x)) (mst (mAut x)) (mfi (mAut x)) = (bw (mK x) (mst x) (mfi x) (4096 * mK x)).map (rn (mst (mAut x)) (mfi (mAut x))) := by
    unfold srL bs
    rw [gk, hb]
  rw [← g2, hsl]
  have hlen : (bw (mK x) (mst x) (mfi x) (4096 * mK x)).length = (mAut x).acc.length := by rw [hl]; unfold srL; rw [bs_len]
  apply List.ext_getElem (by rw [List.length_map, List.length_range, hlen])
  intro i h3 h4
  rw [List.getElem_map, List.getElem_range]
  rw [List.length_range] at h4
  obtain ⟨u, hu, hl', eu⟩ := min_reach h h4
  have hi : (bw (mK x) (mst x) (mfi x) (4096 * mK x))[i] = u := by
    rw [List.getElem?_eq_getElem (by rw [hlen]; exact h4)] at hu
    injection hu
  rw [hi, min_mrn h hl', eu]
/-- What is minimal stays what it is. -/
theorem min_to {x : AutV} (h : AutOk x) : mTo (mAut x) = (List.range (mAut x).acc.length).map (fun (n : Nat) => (n : Int)) := by
  unfold mTo
  rw [min_list h]
  apply List.ext_getElem (by rw [List.length_map, List.length_map, List.length_range, mcl_len])
  intro i h3 h4
  rw [List.getElem_map, List.getElem_map, List.getElem_range]
  have hi : i < (mAut x).acc.length := by rw [List.length_map, List.length_range] at h4; exact h4
  have e : (mcl (mAut x))[i]'(by rw [mcl_len]; exact hi) = i := by
    have := min_cl h hi
    rw [List.getD_eq_getElem?_getD, List.getElem?_eq_getElem (by rw [mcl_len]; exact hi)] at this
    exact this
  rw [e, if_pos (List.mem_range.2 hi)]
  have := List.Nodup.idxOf_getElem (List.nodup_range (n := (mAut x).acc.length)) i (by rw [List.length_range]; exact hi)
  rw [List.getElem_range] at this
  rw [this]
theorem from_word {x : AutV} (h : AutOk x) (g : Nat → Bool) {u : List Nat} (hu : ∀ c ∈ u, c < mK x) : lng (fromV x 0 g) u = g (rn (stp x) 0 u) := by
  have h1 := h.1; have h2 := h.2.1
  have hf : fromV x 0 g = srV x.k.toNat (stp x) 0 g := by unfold fromV; rw [if_pos (autE_ok h)]
  unfold lng
  rw [hf]
  exact sr_word (by omega) g (sr_small h (by have := h.2.2.1; omega)) u hu
theorem from_good {x : AutV} (h : AutOk x) (g : Nat → Bool) : AutOk (fromV x 0 g) ∧ mK (fromV x 0 g) = mK x := by
  have h1 := h.1; have h2 := h.2.1
  have hs := sr_small h (first := 0) (by have := h.2.2.1; omega)
  have hf : fromV x 0 g = srV x.k.toNat (stp x) 0 g := by unfold fromV; rw [if_pos (autE_ok h)]
  rw [hf]
  exact ⟨sr_aut (by omega) (by omega) g hs, by unfold mK; rw [srV_ok _ hs]; exact Int.toNat_natCast _⟩
/-- The statement's laws. -/
theorem once_laws {x : AutV} (h : AutOk x) : AutOk (mAut x) ∧ mAut (mAut x) = mAut x ∧ mTo (mAut x) = (List.range (mAut x).acc.length).map (fun (n : Nat) => (n : Int)) ∧ isV (mAut x) = true ∧
    AutOk (fromV x 0 (fun s => !rdOf false x.acc (s : Int))) ∧ (mAut (fromV x 0 (fun s => !rdOf false x.acc (s : Int)))).next = (mAut x).next ∧ (mAut (fromV x 0 (fun s => !rdOf false x.acc (s : Int)))).acc = (mAut x).acc.map (fun b => !b) := by
  obtain ⟨g, gk⟩ := min_ok h
  obtain ⟨n1, n2⟩ := from_good h (fun s => !rdOf false x.acc (s : Int))
  obtain ⟨f1, f2⟩ := min_flip h n1 n2.symm (fun u hu => from_word h _ hu)
  refine ⟨g, min_idem h, min_to h, ?_, n1, f1, f2⟩
  unfold isV
  rw [min_idem h, autE_ok g]
  simp [sameV]
end Go.Proofs.Ytjedippbjjedlaa
