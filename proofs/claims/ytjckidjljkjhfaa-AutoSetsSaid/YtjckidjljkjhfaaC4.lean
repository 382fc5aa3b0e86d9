/- Merged by tools/merge2.py out of: XRsS XPlc XRsI XVal XNv XRre XLsR (a claim bears 60 files at most). -/
import Derived.Test.YtjckidjljkjhfaaC1
import Derived.BigQuiet
import Derived.Test.YtjckidjljkjhfaaPAutoMakesx0
import Derived.Test.YtjckidjljkjhfaaPAutoMakesx3
import Derived.Test.YtjckidjljkjhfaaC3
import Derived.BigRegion
import Derived.Test.YtjckidjljkjhfaaC2
namespace Go.Proofs.Ytjckidjljkjhfaa
open Go.RowKit Go.Proofs.YtjckidjljkjhfaaW.PrintWords
set_option linter.unusedVariables false
section
variable {σ : Type}
/-- States as texts. -/
abbrev txK (en : σ → ByteArray) : Kd σ := Kd.scalar (fun s => .string (en s)) (fun _ => rfl)
theorem C_txK {en : σ → ByteArray} {w : World} {A : Option Addr} {n : Nat} {L : List σ} (h : Kd.C (txK en) w A n L) : Kd.C Kd.string w A n (L.map en) := by
  refine ⟨by rw [List.length_map]; exact h.1, h.2.1, fun hn => ?_⟩
  obtain ⟨ad, e, hc⟩ := h.2.2 hn
  refine ⟨ad, e, fun j p hj => ?_⟩
  rw [List.getElem?_map, Option.map_eq_some_iff] at hj
  obtain ⟨s, hs, rfl⟩ := hj
  exact hc j s hs
structure RS (en : σ → ByteArray) (sv : Array Value) (w wr : World) (k : Int) (bb rs go : Nat) (v vn va : Value) (L : List σ) (N : List Nat) (Ac : List Bool) : Prop where
  box : wr.heap[bb]? = some (.cells sv 77 (0, 0))
  res : wr.heap[rs]? = some (.cells #[.int .i64 0, .slice none 0 0, .slice none 0 0] 25 (0, 0))
  out : wr.heap[go]? = some (.cells #[.int .i64 k, vn, va] 25 (0, 0))
  lst : (txK en).R 9 wr w.heap.size (fun _ => True) v L
  nxt : Own wr w.heap.size vn (zl N)
  acc : Kd.R Kd.bool 4 wr w.heap.size (fun _ => True) va Ac
  bel : Below w.heap.size w wr
  rsb : w.heap.size ≤ rs
  gob : rs < go
variable {en : σ → ByteArray} {sv : Array Value} {w W w1 : World} {k : Int} {bb rs go : Nat} {v vn va v1 : Value} {L : List σ} {N : List Nat} {Ac : List Bool}
theorem RS.acc_step (h : RS en sv w W k bb rs go v vn va L N Ac) {b : Bool} (ho : Kd.R Kd.bool 4 w1 w.heap.size (fun _ => True) v1 (Ac ++ [b])) (hb : Below w.heap.size w w1) (ha : App W w1 va v1) :
    RS en sv w (w1.setCell ⟨go, 2, none⟩ v1) k bb rs go v vn v1 L N (Ac ++ [b]) := by
  have ho1 := ha.cells h.out h.acc (by decide)
  have hg := h.gob
  have hr := h.rsb
  have hx := ha.cells h.box h.acc (by decide)
  refine ⟨hp_cell (fun e => ?_) hx, hp_cell (by show rs ≠ go; omega) (ha.cells h.res h.acc (by decide)), ?_, ?_, ?_, ?_, bl_cell hb (by show w.heap.size ≤ go; omega) _, h.rsb, h.gob⟩
  · simp only at e
    rw [e, ho1] at hx
    injection hx with hx
    injection hx with _ hx
    exact absurd hx (by decide)
  · rw [heap_setCell_same _ _ _ _ _ _ ho1]; rfl
  · exact own_cellT ho1 (ha.own rfl h.lst (sep_type h.lst h.acc (by decide))).1 (by decide) rfl _ _
  · exact own_cellT ho1 (ha.own rfl h.nxt (sep_type h.nxt h.acc (by decide))).1 (by decide) rfl _ _
  · exact own_cellT ho1 ho (by decide) rfl _ _
theorem RS.nxt_step (h : RS en sv w W k bb rs go v vn va L N Ac) {b : Nat} (ho : Own w1 w.heap.size v1 (zl N ++ [(b : Int)])) (hb : Below w.heap.size w w1) (ha : App W w1 vn v1) :
    RS en sv w (w1.setCell ⟨go, 1, none⟩ v1) k bb rs go v v1 va L (N ++ [b]) Ac := by
  have ho1 := ha.cells h.out h.nxt (by decide)
  have hg := h.gob
  have hr := h.rsb
  have hx := ha.cells h.box h.nxt (by decide)
  refine ⟨hp_cell (fun e => ?_) hx, hp_cell (by show rs ≠ go; omega) (ha.cells h.res h.nxt (by decide)), ?_, ?_, ?_, ?_, bl_cell hb (by show w.heap.size ≤ go; omega) _, h.rsb, h.gob⟩
  · simp only at e
    rw [e, ho1] at hx
    injection hx with hx
    injection hx with _ hx
    exact absurd hx (by decide)
  · rw [heap_setCell_same _ _ _ _ _ _ ho1]; rfl
  · exact own_cellT ho1 (ha.own rfl h.lst (sep_type h.lst h.nxt (by decide))).1 (by decide) rfl _ _
  · rw [zl_snoc]
    exact own_cellT ho1 ho (by decide) rfl _ _
  · exact own_cellT ho1 (ha.own rfl h.acc (sep_type h.acc h.nxt (by decide))).1 (by decide) rfl _ _
theorem RS.lst_step (h : RS en sv w W k bb rs go v vn va L N Ac) {s : σ} (ho : (txK en).R 9 w1 w.heap.size (fun _ => True) v1 (L ++ [s])) (hb : Below w.heap.size w w1) (ha : App W w1 v v1) :
    RS en sv w w1 k bb rs go v1 vn va (L ++ [s]) N Ac :=
  ⟨ha.cells h.box h.lst (by decide), ha.cells h.res h.lst (by decide), ha.cells h.out h.lst (by decide), ho, (ha.own rfl h.nxt (sep_type h.nxt h.lst (by decide))).1, (ha.own rfl h.acc (sep_type h.acc h.lst (by decide))).1, hb, h.rsb, h.gob⟩
theorem RS.below (h : RS en sv w W k bb rs go v vn va L N Ac) (hb : Below W.heap.size W w1) : RS en sv w w1 k bb rs go v vn va L N Ac :=
  ⟨hp_below' hb h.box, hp_below' hb h.res, hp_below' hb h.out, Kd.R_below h.lst hb, Kd.R_below h.nxt hb, Kd.R_below h.acc hb, bl_then h.bel hb, h.rsb, h.gob⟩
theorem RS.drewN (h : RS en sv w W k bb rs go v vn va L N Ac) (n : Nat) : RS en sv w (W.drewN n) k bb rs go v vn va L N Ac :=
  ⟨h.box, h.res, h.out, Kd.R_drewN h.lst n, Kd.R_drewN h.nxt n, Kd.R_drewN h.acc n, bl_drewN h.bel n, h.rsb, h.gob⟩
theorem RS.drew (h : RS en sv w W k bb rs go v vn va L N Ac) : RS en sv w W.drew k bb rs go v vn va L N Ac := h.drewN 1
end
end Go.Proofs.Ytjckidjljkjhfaa

namespace Go.Proofs.Ytjckidjljkjhfaa.PPlc
open Go.RowKit Go.Proofs.YtjckidjljkjhfaaW.PrintWords Go.Proofs.YtjckidjljkjhfaaW.PrintLast Go.Proofs.YtjckidjljkjhfaaW.PrintMore
attribute [local go_sem] max2_int min2_int max_two min_two max_three min_three max_four min_four   -- for this text's walks alone
set_option linter.unusedVariables false
set_option linter.unusedSimpArgs false

/-! ### eggboxref08_place: function 91 -/
def eggboxref08_place.l0 : Nat → List ByteArray → ByteArray → Int → Option (Int)
  | 0, _, _, _ => none
  | k + 1, x0, x1, x5 => if x5 < (x0.length : Int) then (if 0 ≤ x5 then (if (rdOf ByteArray.empty x0 x5).toList = x1.toList then (some x5) else (eggboxref08_place.l0 k x0 x1 (wrap64 (x5 + 1)))) else (none)) else (some x5)
def eggboxref08_place.f (k : Nat) (l0 : List ByteArray) (a1 : ByteArray) : Option (Int) := eggboxref08_place.l0 k l0 a1 0
theorem eggboxref08_place.mono_l : ∀ k, (∀ y0 y1 y2, LeO (eggboxref08_place.l0 k y0 y1 y2) (eggboxref08_place.l0 (k + 1) y0 y1 y2))
  | 0 => fun _ _ _ r h => by simp [eggboxref08_place.l0] at h
  | k + 1 => by
    have ih0 := eggboxref08_place.mono_l k
    · intro y0 y1 y2
      unfold eggboxref08_place.l0
      repeat' first
      | (with_reducible exact ih0 _ _ _)
      | (with_reducible exact LeO.refl _)
      | (with_reducible exact LeO.none _)
      | (with_reducible refine LeO.ite ?_ ?_)
      | (with_reducible refine LeO.bind ?_ (fun _ => ?_))
      | exact ih0 _ _ _
      | exact LeO.none _
      | refine LeO.ite ?_ ?_
      | refine LeO.bind ?_ (fun _ => ?_)
theorem eggboxref08_place.mono : ∀ a0 a1 k, LeO (eggboxref08_place.f k a0 a1) (eggboxref08_place.f (k + 1) a0 a1) := by
  intro a0 a1 k
  have ih0 := eggboxref08_place.mono_l k
  unfold eggboxref08_place.f
  repeat' first
      | (with_reducible exact ih0 _ _ _)
      | (with_reducible exact LeO.refl _)
      | (with_reducible exact LeO.none _)
      | (with_reducible refine LeO.ite ?_ ?_)
      | (with_reducible refine LeO.bind ?_ (fun _ => ?_))
      | exact ih0 _ _ _
      | exact LeO.none _
      | refine LeO.ite ?_ ?_
      | refine LeO.bind ?_ (fun _ => ?_)
set_option maxHeartbeats 8000000 in
set_option maxRecDepth 100000 in
theorem eggboxref08_place.calls (k : Nat) (A0 : Option Addr) (c0 : Nat) (l0 : List ByteArray) (a1 : ByteArray) (r : Int) (w : World) (hr0 : Kd.C Kd.string w A0 l0.length l0) (hc0 : l0.length ≤ c0) (h : eggboxref08_place.f k l0 a1 = some r) :
    Calls Try.prog 91 #[.slice A0 l0.length c0, .string a1] w fun e w' => e = .returned (.int .i64 r) ∧ Drawn0 w w' := by
  have HR0 := Aside0.mk hr0
  have HC0 := Aside0.mk hc0
  clear hr0 hc0
  have H : (eggboxref08_place.l0 k l0 a1 0) = some r := h
  clear h
  have H' := Aside0.mk H
  clear H
  go_enter Try.func91, Try.ntmps91
  go_wp2
  go_loopg [5] k (fun kq v5 w' => ∃ (x5_1 : Int), v5 = .int .i64 x5_1 ∧ Aside0 (eggboxref08_place.l0 kq l0 a1 x5_1 = some r) ∧ Aside0 (kq ≤ k) ∧ Drawn0 w w')
  case atStart => exact ⟨(0), (by first | rfl | (simp; done) | (simp [*]; done)), H', ⟨Nat.le_refl _⟩, by repeat (first | exact Drawn0.refl _ | apply Drawn0.step)⟩
  case round =>
    clear H'
    try clear p2
    obtain ⟨x5_1, rfl, HA, HK1, ⟨m1, rfl⟩⟩ := hrel
    cases gk with
    | zero => exact absurd HA.out (by simp [eggboxref08_place.l0])
    | succ k1 =>
      have H := HA.out
      clear HA
      simp only [eggboxref08_place.l0] at H
      by_cases c3 : x5_1 < (l0.length : Int)
      · rw [if_pos c3] at H
        have c3b0 : decide (x5_1 < (l0.length : Int)) = true := decide_eq_true c3
        clear c3
        by_cases c4 : 0 ≤ x5_1
        · rw [if_pos c4] at H
          have c4b0 : decide (0 ≤ x5_1) = true := decide_eq_true c4
          clear c4
          by_cases c5 : (rdOf ByteArray.empty l0 x5_1).toList = a1.toList
          · rw [if_pos c5] at H
            have c5b0 : ((rdOf ByteArray.empty l0 x5_1).toList == a1.toList) = true := beq_iff_eq.mpr c5
            have c5b1 : ((rdOf ByteArray.empty l0 x5_1).toList != a1.toList) = false := bne_eq_false_iff_eq.mpr c5
            clear c5
            obtain rfl := Option.some.inj H
            have p289 : 0 ≤ (x5_1 : Int) := of_decide_eq_true (by first | (with_reducible assumption) | assumption)
            have q289 : x5_1 < (l0.length : Int) := of_decide_eq_true (by first | (with_reducible assumption) | assumption)
            obtain ⟨ad289, e289, hx289_0⟩ := Kd.at_string HR0.out x5_1 p289 q289
            cases e289
            replace p289 := eq_true p289
            replace q289 := eq_true q289
            go_wp2
            go_ret
            exact ⟨by first | rfl | (simp; done) | (simp [*]; done), by repeat (first | exact Drawn0.refl _ | apply Drawn0.step)⟩
          · rw [if_neg c5] at H
            have c5b0 : ((rdOf ByteArray.empty l0 x5_1).toList == a1.toList) = false := beq_eq_false_iff_ne.mpr c5
            have c5b1 : ((rdOf ByteArray.empty l0 x5_1).toList != a1.toList) = true := bne_iff_ne.mpr c5
            have H' := Aside0.mk H
            clear H
            have p289 : 0 ≤ (x5_1 : Int) := of_decide_eq_true (by first | (with_reducible assumption) | assumption)
            have q289 : x5_1 < (l0.length : Int) := of_decide_eq_true (by first | (with_reducible assumption) | assumption)
            obtain ⟨ad289, e289, hx289_0⟩ := Kd.at_string HR0.out x5_1 p289 q289
            cases e289
            replace p289 := eq_true p289
            replace q289 := eq_true q289
            go_wp2
            go_roundg k1
            case measure => have := HK1.out; omega
            case rel => exact ⟨(wrap64 (x5_1 + 1)), (by first | rfl | (simp; done) | (simp [*]; done)), H', ⟨by have := HK1.out; omega⟩, by repeat (first | exact Drawn0.refl _ | apply Drawn0.step)⟩
        · rw [if_neg c4] at H
          exact absurd H (by simp)
      · rw [if_neg c3] at H
        have c3b0 : decide (x5_1 < (l0.length : Int)) = false := decide_eq_false c3
        clear c3
        obtain rfl := Option.some.inj H
        go_wp2
        go_ret
        exact ⟨by first | rfl | (simp; done) | (simp [*]; done), by repeat (first | exact Drawn0.refl _ | apply Drawn0.step)⟩

-- NOT PRINTED: function 92 (eggboxref08_Space_good)

-- NOT PRINTED: function 59 (eggboxref08_Space_search)

-- NOT PRINTED: function 25 (eggboxref08_Reach)

-- NOT PRINTED: function 27 (eggboxref08_Not)

end Go.Proofs.Ytjckidjljkjhfaa.PPlc
namespace Go.Proofs.Ytjckidjljkjhfaa
open Go.RowKit Go.Proofs.YtjckidjljkjhfaaW.PrintWords Go.Proofs.Ytjckidjljkjhfaa.PPlc
set_option linter.unusedVariables false
theorem tl_inj {a b : ByteArray} (h : a.toList = b.toList) : a = b := by
  rw [ByteArray.toList_eq, ByteArray.toList_eq] at h
  exact Go.WideShapes.bytes_inj h
theorem plc_l {l : List ByteArray} {s : ByteArray} (hl : l.length ≤ 1000000) {j : Nat} (hj : j ≤ l.length) (h1 : ∀ i, i < j → l[i]? ≠ some s) (h2 : j < l.length → l[j]? = some s) :
    ∀ k i : Nat, i ≤ j → j - i < k → eggboxref08_place.l0 k l s (i : Int) = some (j : Int)
  | 0, i, _, h => absurd h (by omega)
  | k + 1, i, hi, hk => by
    unfold eggboxref08_place.l0
    by_cases hil : i < l.length
    · rw [if_pos (by omega), if_pos (by omega)]
      have hr : rdOf ByteArray.empty l (i : Int) = l[i] := by
        unfold rdOf
        rw [Int.toNat_natCast, List.getD_eq_getElem?_getD, List.getElem?_eq_getElem hil]; rfl
      rw [hr]
      by_cases e : i = j
      · subst e
        have := h2 hil
        rw [List.getElem?_eq_getElem hil] at this
        injection this with this
        rw [if_pos (by rw [this])]
      · have hne : l[i] ≠ s := fun he => h1 i (by omega) (by rw [List.getElem?_eq_getElem hil, he])
        rw [if_neg (fun he => hne (tl_inj he)), show wrap64 ((i : Int) + 1) = ((i + 1 : Nat) : Int) by unfold wrap64; omega]
        exact plc_l hl hj h1 h2 k (i + 1) (by omega) (by omega)
    · have : i = j := by omega
      rw [if_neg (by omega), this]
theorem idxOf_first {σ : Type} [DecidableEq σ] {t : σ} : ∀ {L : List σ} {i : Nat}, L[i]? = some t → L.idxOf t ≤ i
  | [], i, h => by simp at h
  | a :: r, 0, h => by
    simp only [List.getElem?_cons_zero, Option.some.injEq] at h
    rw [List.idxOf_cons, h]; simp
  | a :: r, i + 1, h => by
    rw [List.getElem?_cons_succ] at h
    have := idxOf_first h
    rw [List.idxOf_cons]
    by_cases e : a = t
    · simp [e]
    · rw [show (a == t) = false by simpa using e]
      show r.idxOf t + 1 ≤ i + 1
      omega
/-- The place of a state among others that texts tell apart. -/
theorem place_any {σ : Type} [DecidableEq σ] (en : σ → ByteArray) (L : List σ) (t : σ) (hinj : ∀ s ∈ L, en s = en t → s = t) (A : Option Addr) (c : Nat) (W : World) (hC : Kd.C (txK en) W A L.length L) (hcap : L.length ≤ c) (hl : L.length ≤ 1000000) :
    Calls Try.prog 91 #[.slice A L.length c, .string (en t)] W fun e w' => e = .returned (.int .i64 ((L.idxOf t : Nat) : Int)) ∧ Below W.heap.size W w' := by
  have hC2 := C_txK hC
  have h : eggboxref08_place.f (L.length + 1) (L.map en) (en t) = some ((L.idxOf t : Nat) : Int) := by
    refine plc_l (by rw [List.length_map]; exact hl) (j := L.idxOf t) (by rw [List.length_map]; exact List.idxOf_le_length) (fun i hi he => ?_) (fun hlt => ?_) (L.length + 1) 0 (Nat.zero_le _) ?_
    · rw [List.getElem?_map, Option.map_eq_some_iff] at he
      obtain ⟨s, hs, he⟩ := he
      have := hinj s (List.mem_of_getElem? hs) he
      subst this
      have := idxOf_first hs
      omega
    · rw [List.length_map] at hlt
      rw [List.getElem?_map, List.getElem?_eq_getElem hlt, List.getElem_idxOf]; rfl
    · have := List.idxOf_le_length (a := t) (l := L)
      omega
  have hlm : (L.map en).length = L.length := List.length_map _
  have hcall := eggboxref08_place.calls (L.length + 1) A c (L.map en) (en t) _ W (by rw [hlm]; exact hC2) (by rw [hlm]; exact hcap) h
  rw [hlm] at hcall
  refine hcall.mono fun e w' hh => ⟨hh.1, ?_⟩
  obtain ⟨n, rfl⟩ := hh.2
  exact bl_drewN (Below.refl _ _) n
end Go.Proofs.Ytjckidjljkjhfaa

namespace Go.Proofs.Ytjckidjljkjhfaa
open Go.RowKit Go.Proofs.YtjckidjljkjhfaaW.PrintWords
set_option linter.unusedSimpArgs false
set_option linter.unusedVariables false
theorem sp_z (kd k k2 : Int) (s1 s2 s4 s5 : Value) : (Try.prog.info? 77).map (·.size) = some (#[.int .i64 kd, .int .i64 k, s1, s2, .int .i64 k2, s4, s5] : Array Value).size := by show _ = some 7; kernel_rfl
theorem ld_sp {ops : Array Oper} {rest : List Oper} {o : Oper} {a : Act} {w : World} {Q : Exit → Act → World → Prop} (x : Operand) (ho : o.op = .load 77 x) (g : Nat) (hx : a.eval x = .pointer (some ⟨g, 0, none⟩)) {kd k k2 : Int} {s1 s2 s4 s5 : Value}
    (hg : w.heap[g]? = some (.cells #[.int .i64 kd, .int .i64 k, s1, s2, .int .i64 k2, s4, s5] 77 (0, 0))) (hw : Region.wanted o (yielded ops a.tmps) = true)
    (h : wpList Try.prog ops Q rest (a.put o.dst (.agg #[.int .i64 kd, .int .i64 k, s1, s2, .int .i64 k2, s4, s5])) w) : wpList Try.prog ops Q (o :: rest) a w :=
  wpList_step fun K hK => by
    rw [if_pos hw]
    exact wp_load_row 77 x ho g hx _ _ _ _ hg Try.underlying77 rfl (sp_z kd k k2 s1 s2 s4 s5) (hK _ _ h)
set_option maxRecDepth 100000 in
set_option maxHeartbeats 1600000 in
theorem rsearch_any {σ : Type} [DecidableEq σ] (en : σ → ByteArray) (kd : Int) (k : Nat) (hk : 0 < k) (hk8 : k ≤ 8) (s1 s2 s4 s5 : Value) (k2 : Int) (how : Int) (step : σ → Nat → σ) (first : σ) (good : σ → Bool) (w : World)
    (hone : s1.oneCell' = true ∧ s2.oneCell' = true ∧ s4.oneCell' = true ∧ s5.oneCell' = true)
    (hinj : ∀ m, ∀ s ∈ bs k step first m, ∀ t ∈ bs k step first m, en s = en t → s = t)
    (HST : ∀ W : World, Below w.heap.size w W → Calls Try.prog 89 #[.agg #[.int .i64 kd, .int .i64 (k : Int), s1, s2, .int .i64 k2, s4, s5]] W fun e w' => e = .returned (.string (en first)) ∧ Below W.heap.size W w')
    (HN : ∀ (s : σ) (m c : Nat), s ∈ bs k step first m → c < k → ∀ W : World, Below w.heap.size w W → Calls Try.prog 90 #[.agg #[.int .i64 kd, .int .i64 (k : Int), s1, s2, .int .i64 k2, s4, s5], .string (en s), .int .i64 (c : Int)] W fun e w' => e = .returned (.string (en (step s c))) ∧ Below W.heap.size W w')
    (HG : ∀ (s : σ) (m : Nat), s ∈ bs k step first m → ∀ W : World, Below w.heap.size w W → Calls Try.prog 92 #[.agg #[.int .i64 kd, .int .i64 (k : Int), s1, s2, .int .i64 k2, s4, s5], .string (en s), .int .i64 how] W fun e w' => e = .returned (.bool (good s)) ∧ Below W.heap.size W w') :
    Calls Try.prog 59 #[.agg #[.int .i64 kd, .int .i64 (k : Int), s1, s2, .int .i64 k2, s4, s5], .int .i64 how] w fun e w' => ∃ vn va, e = .returned (.tuple #[.agg #[.int .i64 (srV k step first good).k, vn, va], .int .i64 (srE k step first)]) ∧
      Own w' w.heap.size vn (srV k step first good).next ∧ Kd.R Kd.bool 4 w' w.heap.size (fun _ => True) va (srV k step first good).acc ∧ Below w.heap.size w w' := by
  have HNX := Aside0.mk HN
  have HGD := Aside0.mk HG
  have HIJ := Lib.hid hinj
  obtain ⟨o1, o2, o4, o5⟩ := hone
  have h00 := ((Hp.start w).alloc (.cells #[.int .i64 kd, .int .i64 (k : Int), s1, s2, .int .i64 k2, s4, s5] 77)).alloc (.cells #[.int .i64 0, .slice none 0 0, .slice none 0 0] 25)
  rw [World.size_alloc] at h00
  have H0 := Lib.hid h00
  have HS := Aside0.mk (HST _ h00.2)
  clear h00 HST HN HG hinj
  go_enter Try.func59, Try.ntmps59
  go_wp2_with (refine ld_sp _ rfl w.heap.size rfl (H0.out.at 1 rfl) rfl ?_)
  refine HS.out.mono ?_
  rintro e w1 ⟨rfl, hb⟩
  have H1 := Lib.hid (H0.out.keep hb)
  have c0 : w1.cell? ⟨w.heap.size, 1, none⟩ = some (.int .i64 (k : Int)) := by rw [cell_of_row _ _ _ _ _ _ (H1.out.at 1 rfl)]; rfl
  have c1 : (w1.alloc (.cells #[.string (en first)] 9)).cell? ⟨w.heap.size, 1, none⟩ = some (.int .i64 (k : Int)) := alloc_cell c0
  clear c0
  clear hb HS H0
  go_wp2_with ((with_reducible refine gate_st (t := 25) rfl ?_); refine st_auz (k := (k : Int)) _ _ rfl rfl rfl rfl rfl ?_)
  have SI : Hid (RS en #[.int .i64 kd, .int .i64 (k : Int), s1, s2, .int .i64 k2, s4, s5] w ((w1.alloc (.cells #[.string (en first)] 9)).alloc (.cells #[.int .i64 (k : Int), .slice none 0 0, .slice none 0 0] 25)) (k : Int) w.heap.size (w.heap.size + 1) (w1.heap.size + 1) (.slice (some ⟨w1.heap.size, 0, none⟩) 1 1) (.slice none 0 0) (.slice none 0 0) (bs k step first (0 * k)) (nx k step first (0 * k)) (sac k step first good 0 (0 * k))) := by
    have e0 : bs k step first (0 * k) = [first] := by rw [Nat.zero_mul]; rfl
    have e1 : nx k step first (0 * k) = [] := by rw [Nat.zero_mul]; rfl
    have e2 : sac k step first good 0 (0 * k) = [] := by unfold sac; rw [List.take_zero]; rfl
    rw [e0, e1, e2]
    have hsz := H1.out.2.size
    have hlt := hp_lt (H1.out.at 0 rfl)
    refine Lib.hid ⟨hp_old (hp_old (H1.out.at 1 rfl)), hp_old (hp_old (H1.out.at 0 rfl)), by rw [← World.size_alloc w1 (.cells #[.string (en first)] 9)]; exact hp_new rfl, ?_, Kd.R_nil _ _ _ _ _, Kd.R_nil _ _ _ _ _, bl_alloc (bl_alloc H1.out.2 _) _, by omega, by omega⟩
    refine Kd.R_of_own ⟨by simp [encs], .inr ⟨w1.heap.size, 1, _, rfl, hsz, hp_old (hp_new rfl), Nat.le_refl _, by unfold maxLen; omega, rfl, rfl⟩⟩ (fun _ _ => trivial)
  clear c1 H1
  go_loopw [6, 8] (fun v i wr => ∃ (q : Nat) (vn va : Value), i = .int .i64 q ∧ Hid (q ≤ (bs k step first (q * k)).length ∧ (bs k step first (q * k)).length ≤ 4096) ∧ Hid (RS en #[.int .i64 kd, .int .i64 (k : Int), s1, s2, .int .i64 k2, s4, s5] w wr (k : Int) w.heap.size (w.heap.size + 1) (w1.heap.size + 1) v vn va (bs k step first (q * k)) (nx k step first (q * k)) (sac k step first good q (q * k)))) (fun _ i _ => 4097 - (intOf i).toNat)
  case atStart => exact ⟨0, _, _, rfl, Lib.hid ⟨Nat.zero_le _, by rw [Nat.zero_mul]; simp [bs, bw]⟩, SI⟩
  case round =>
    obtain ⟨i, vn, va, rfl, HK, H⟩ := hrel
    obtain ⟨hK1, hK2⟩ := HK.out
    obtain ⟨lb, lc, rfl, hlb, hlbs, hlcell⟩ := own_form first H.out.lst (by exact List.length_pos_of_mem (List.mem_of_getElem? (bs_pos _)))
    by_cases hil : i < (bs k step first (i * k)).length
    · obtain ⟨s, hs⟩ : ∃ s, (bs k step first (i * k))[i]? = some s := ⟨_, List.getElem?_eq_getElem hil⟩
      have HSM := Lib.hid hs
      clear hs hlcell SI
      go_wp2
      go_loopw [6, 9] (fun v l wi => ∃ (c : Nat) (vn : Value), c ≤ k ∧ l = .int .i64 c ∧ Hid ((bs k step first (i * k + c)).length ≤ 4096) ∧ Hid (RS en #[.int .i64 kd, .int .i64 (k : Int), s1, s2, .int .i64 k2, s4, s5] w wi (k : Int) w.heap.size (w.heap.size + 1) (w1.heap.size + 1) v vn va (bs k step first (i * k + c)) (nx k step first (i * k + c)) (sac k step first good i (i * k)))) (fun _ l _ => k - (intOf l).toNat)
      case atStart => exact ⟨0, _, by omega, rfl, Lib.hid hK2, H⟩
      case round =>
        obtain ⟨c, vn2, hc, rfl, HL, G⟩ := hrel
        have hL := HL.out
        obtain ⟨lb2, lc2, rfl, hlb2, hlbs2, hlcell2⟩ := own_form first G.out.lst (by exact List.length_pos_of_mem (List.mem_of_getElem? (bs_pos _)))
        have hsq : (bs k step first (i * k + c))[i]? = some s := bs_keep (Nat.le_add_right _ _) HSM.out
        obtain ⟨hk2, hk3⟩ := List.getElem?_eq_some_iff.1 hsq
        have cl1 := (hlcell2 i hk2).1
        rw [List.getD_eq_getElem?_getD, hsq] at cl1
        replace cl1 : wr.cell? ⟨lb2, i, none⟩ = some (.string (en s)) := cl1
        have ck : wr.cell? ⟨w.heap.size, 1, none⟩ = some (.int .i64 (k : Int)) := by rw [cell_of_row _ _ _ _ _ _ G.out.box]; rfl
        have HSQ := Lib.hid hsq
        have GX := Lib.hid G.out.drew
        clear hsq hk3 hlcell2
        by_cases hck : c < k
        · go_wp2
          have hcall2 := HNX.out s (i * k + c) c (List.mem_of_getElem? HSQ.out) hck wr.drew GX.out.bel
          refine wp_region_held_drew (S := fun w' => w'.heap[w.heap.size]? = some (.cells #[.int .i64 kd, .int .i64 (k : Int), s1, s2, .int .i64 k2, s4, s5] 77 (0, 0)) ∧ w'.cell? ⟨lb2, i, none⟩ = some (.string (en s))) (by kernel_rfl) ⟨GX.out.box, cl1⟩ (fun hS => ?_)
          refine any_take (i := 0) rfl (by kernel_rfl) (by kernel_rfl) (by kernel_rfl) (fun _ _ _ h => h) hS (yi_row _ _ rfl (by rfl) (w.heap.size) rfl (#[.int .i64 kd, .int .i64 (k : Int), s1, s2, .int .i64 k2, s4, s5]) _ Try.underlying77 rfl (sp_z _ _ _ _ _ _ _) (fun w' h' => ⟨_, _, h'.1⟩)) ?_
          (try simp only [Act.put, List.setIfInBounds_toArray, List.set_cons_zero, List.set_cons_succ])
          refine any_take (i := 1) (v := ?v4) rfl (by kernel_rfl) (by kernel_rfl) (by kernel_rfl) (fun _ _ _ h => h) hS (.inl ⟨by rfl, ?y4⟩) ?_
          case y4 => (intro w' h'; go_simp; with_reducible rfl)
          (try simp only [Act.put, List.setIfInBounds_toArray, List.set_cons_zero, List.set_cons_succ])
          refine any_take (i := 2) (v := ?v5) rfl (by kernel_rfl) (by kernel_rfl) (by kernel_rfl) (fun _ _ _ h => h) hS (.inl ⟨by rfl, ?y5⟩) ?_
          case y5 => (intro w' h'; go_simp; with_reducible rfl)
          (try simp only [Act.put, List.setIfInBounds_toArray, List.set_cons_zero, List.set_cons_succ])
          refine any_take (i := 3) (v := ?v6) rfl (by kernel_rfl) (by kernel_rfl) (by kernel_rfl) (fun _ _ _ h => h) hS (.inl ⟨by rfl, ?y6⟩) ?_
          case y6 => (intro w' h'; go_simp; with_reducible rfl)
          (try simp only [Act.put, List.setIfInBounds_toArray, List.set_cons_zero, List.set_cons_succ])
          refine any_take (i := 4) (v := (.string (en s))) rfl (by kernel_rfl) (by kernel_rfl) (by kernel_rfl) (fun _ _ _ h => h) hS (yi_cell _ _ rfl (by rfl) ⟨lb2, i, none⟩ rfl _ Try.underlying9 rfl (fun w' h' => h'.2)) ?_
          (try simp only [Act.put, List.setIfInBounds_toArray, List.set_cons_zero, List.set_cons_succ])
          refine any_take (i := 5) (v := ?v9) rfl (by kernel_rfl) (by kernel_rfl) (by kernel_rfl) (fun _ _ _ h => h) hS (.inl ⟨by rfl, ?y9⟩) ?_
          case y9 => (intro w' h'; go_simp; with_reducible rfl)
          (try simp only [Act.put, List.setIfInBounds_toArray, List.set_cons_zero, List.set_cons_succ])
          refine any_call (i := 6) rfl (by kernel_rfl) (by rfl) 90 #[.agg #[.int .i64 kd, .int .i64 (k : Int), s1, s2, .int .i64 k2, s4, s5], .string (en s), .int .i64 (c : Int)] ?x10 (hcall2) ?_
          case x10 => (simp [go_sem])
          (try simp only [Act.put, List.setIfInBounds_toArray, List.set_cons_zero, List.set_cons_succ])
          rintro e w6 ⟨rfl, hb⟩
          have hS6 : w6.heap[w.heap.size]? = some (.cells #[.int .i64 kd, .int .i64 (k : Int), s1, s2, .int .i64 k2, s4, s5] 77 (0, 0)) ∧ w6.cell? ⟨lb2, i, none⟩ = some (.string (en s)) := ⟨hp_below' hb hS.1, (hb.cell (World.block_lt_of_cell? _ _ hS.2)).trans hS.2⟩
          refine ⟨_, rfl, hS6, ?_⟩
          (try simp only [Act.put, List.setIfInBounds_toArray, List.set_cons_zero, List.set_cons_succ])
          refine any_take (i := 7) (v := ?v14) rfl (by kernel_rfl) (by kernel_rfl) (by kernel_rfl) (fun _ _ _ h => h) hS6 (.inl ⟨by rfl, ?y14⟩) ?_
          case y14 => (intro w' h'; go_simp; with_reducible rfl)
          (try simp only [Act.put, List.setIfInBounds_toArray, List.set_cons_zero, List.set_cons_succ])
          refine wpAnyH_done (by kernel_rfl) ?_ _
          have GD := Lib.hid (GX.out.below hb)
          obtain ⟨t, ht⟩ : ∃ t, t = step s c := ⟨_, rfl⟩
          have hin : t ∈ bs k step first (i * k + (c + 1)) := by
            have h1 := bs_next (k := k) (step := step) (first := first) (m := i * k + c) (s := s) (by rw [show (i * k + c) / k = i by rw [Nat.add_comm, Nat.add_mul_div_right _ _ hk, Nat.div_eq_of_lt hck, Nat.zero_add]]; exact HSQ.out)
            rw [show (i * k + c) % k = c by rw [Nat.add_comm, Nat.add_mul_mod_self_right, Nat.mod_eq_of_lt hck], ← ht] at h1
            rw [← Nat.add_assoc, h1]
            split
            · assumption
            · simp
          have hij : ∀ s ∈ bs k step first (i * k + c), en s = en t → s = t := fun s hs he => HIJ.out _ s (bs_mem (by omega) hs) t hin he
          have PL := place_any en (bs k step first (i * k + c)) t hij (some ⟨lb2, 0, none⟩) lc2 w6 (Kd.R_reads' GD.out.lst).2.2 (Kd.R_reads' GD.out.lst).2.1 (by omega)
          have hcond : Hid (t ∈ bs k step first (i * k + c) → bs k step first (i * k + (c + 1)) = bs k step first (i * k + c) ∧ nx k step first (i * k + (c + 1)) = nx k step first (i * k + c) ++ [(bs k step first (i * k + c)).idxOf t]) := Lib.hid (fun hm => by rw [ht] at hm ⊢; exact bs_old hck HSQ.out hm)
          have hcond2 : Hid (t ∉ bs k step first (i * k + c) → bs k step first (i * k + (c + 1)) = bs k step first (i * k + c) ++ [t] ∧ nx k step first (i * k + (c + 1)) = nx k step first (i * k + c) ++ [(bs k step first (i * k + c)).length]) := Lib.hid (fun hm => by rw [ht] at hm ⊢; exact bs_new hck HSQ.out hm)
          have hnl : Hid ((nx k step first (i * k + c)).length ≤ 40960) := Lib.hid (by
            have h1 := nx_le' (k := k) (step := step) (first := first) (i * k + c)
            have h2 : i * k + c ≤ (i + 1) * k := by rw [Nat.succ_mul]; omega
            have h3 : (i + 1) * k ≤ 4096 * 8 := Nat.mul_le_mul (by omega) hk8
            omega)
          have hi4 : i < 4096 := by omega
          have HPL := Aside0.mk PL
          rw [← ht]
          clear hb hS hS6 hcall2 GX G cl1 ck ht hin hij PL
          generalize hL1 : bs k step first (i * k + c) = L1 at *
          have HL1 := Lib.hid hL1
          clear hL1
          generalize nx k step first (i * k + c) = N1 at *
          go_wp2_with fail
          refine HPL.out.mono ?_
          rintro e w7 ⟨rfl, hb⟩
          have GE := Lib.hid (GD.out.below hb)
          have c4 : w7.cell? ⟨w1.heap.size + 1, 1, none⟩ = some vn2 := by rw [cell_of_row _ _ _ _ _ _ GE.out.out]; rfl
          clear hb HPL GD
          by_cases hm : t ∈ L1
          · obtain ⟨e1, e2⟩ := hcond.out hm
            have HE1 := Lib.hid e1; have HE2 := Lib.hid e2
            have hlt := List.idxOf_lt_length_of_mem hm
            clear e1 e2 hcond hcond2 hm
            generalize L1.idxOf t = y at *
            have hb1 : ((y : Int) == (L1.length : Int)) = false := by rw [beq_eq_false_iff_ne]; omega
            have hb2 : (y == L1.length) = false := by rw [beq_eq_false_iff_ne]; omega
            go_wp2_with ((with_reducible refine gate_builtin (b := .append) (xs := #[.tmp 55, .tmp 57]) rfl ?_); at_builtin; refine wpl_append (Kd.int .i64) (w0 := w) w.heap.size rfl (.tmp 55) (.tmp 57) 22 3 (.int .i64 0) 8 rfl Try.underlying22 info_int rfl (by decide) (by omega) vn2 (zl N1) (y : Int) [.int .i64 y] rfl rfl rfl GE.out.nxt GE.out.bel GE.out.bel.size (by rw [zl_len]; have := hnl.out; omega) (fun v4 w9 ho hb ha => ?_); have d1 : w9.cell? ⟨w1.heap.size + 1, 1, none⟩ = some vn2 := (by rw [cell_of_row _ _ _ _ _ _ (ha.cells GE.out.out GE.out.nxt (by decide))]; rfl); have f1 : w9.frozen? ⟨w1.heap.size + 1, 1, none⟩ = false := frozen_of_row _ _ _ _ _ (ha.cells GE.out.out GE.out.nxt (by decide)); have hm3 := GE.out.nxt_step ho hb ha; obtain ⟨A4, c4', rfl⟩ := Kd.R_slice ho; rw [List.length_append, List.length_singleton] at hm3; have HM3 := Lib.hid hm3; clear ho hb ha hm3)
            go_roundw
            case rel => exact ⟨c + 1, _, by omega, by go_num, by rw [HE1.out]; exact HL, by rw [HE1.out, HE2.out]; exact HM3⟩
            case measure => simp [intOf]; omega
          · have hidx : L1.idxOf t = L1.length := List.idxOf_eq_length hm
            rw [hidx]
            obtain ⟨e1, e2⟩ := hcond2.out hm
            by_cases hfull : L1.length = 4096
            · have HER : Hid (srE k step first = 81) := Lib.hid (by
                refine sr_many hk (m := i * k + (c + 1)) ?_ ?_
                · have h3 : (i + 1) * k ≤ 4096 * k := Nat.mul_le_mul (by omega) (Nat.le_refl _)
                  rw [Nat.succ_mul] at h3
                  omega
                · rw [e1, List.length_append, hfull]; simp)
              have HVN := Lib.hid (srV_no (k := k) (step := step) (first := first) good (by rw [HER.out]; decide))
              have hfb : ((L1.length : Int) == 4096) = true := by rw [beq_iff_eq]; omega
              have hfb2 : (L1.length == 4096) = true := by rw [beq_iff_eq]; omega
              clear e1 e2 hcond hcond2 hm hidx hfull
              go_wp2_with ((with_reducible refine gate_st (t := 25) rfl ?_); refine wpList_store_row rfl 25 _ _ rfl (w.heap.size + 1) #[.int .i64 0, .slice none 0 0, .slice none 0 0] rfl rfl 25 _ GE.out.res (by show _ = some 3; kernel_rfl) rfl (by simp [Value.oneCell']) ?_)
              refine bodyPost_ret (v := .tuple #[.agg #[.int .i64 0, .slice none 0 0, .slice none 0 0], .int .i64 81]) ?_ rfl ⟨_, _, by rw [HVN.out, HER.out], by rw [HVN.out]; exact Kd.R_nil _ _ _ _ _, by rw [HVN.out]; exact Kd.R_nil _ _ _ _ _, bl_row GE.out.bel (by omega) _⟩
              refine (results_cell_tmp (p := 4) (t := 5) (by rfl) _ _ (w.heap.size + 1) 25 _ _ _ ?_ (setRow_heap _ _ _ _ _ _ GE.out.res) Try.underlying25 rfl (by show _ = some 3; kernel_rfl)).trans ?_ <;> rfl
            · have HE1 := Lib.hid e1; have HE2 := Lib.hid e2
              have hfb : ((L1.length : Int) == 4096) = false := by rw [beq_eq_false_iff_ne]; omega
              have hfb2 : (L1.length == 4096) = false := by rw [beq_eq_false_iff_ne]; omega
              have HLL := Lib.hid (show (L1 ++ [t]).length ≤ 4096 by rw [List.length_append, List.length_singleton]; omega)
              clear e1 e2 hcond hcond2 hm hidx hfull
              go_wp2_with (first | ((with_reducible refine gate_builtin (b := .append) (xs := #[.tmp 50, .tmp 52]) rfl ?_); at_builtin; refine wpl_append (txK en) (w0 := w) w.heap.size rfl (.tmp 50) (.tmp 52) 72 9 (.string ByteArray.empty) 16 rfl Try.underlying72 info_str rfl Nat.zero_lt_one (by omega) _ L1 t [.string (en t)] rfl rfl rfl GE.out.lst GE.out.bel GE.out.bel.size (by omega) (fun v3 w8 ho hb ha => ?_); have hm2 := GE.out.lst_step ho hb ha; obtain ⟨A3, c3, rfl⟩ := Kd.R_slice ho; rw [List.length_append, List.length_singleton] at hm2; have HM2 := Lib.hid hm2; clear ho hb ha hm2 c4; have c4 : w8.cell? ⟨w1.heap.size + 1, 1, none⟩ = some vn2 := (by rw [cell_of_row _ _ _ _ _ _ HM2.out.out]; rfl)) | ((with_reducible refine gate_builtin (b := .append) (xs := #[.tmp 55, .tmp 57]) rfl ?_); at_builtin; refine wpl_append (Kd.int .i64) (w0 := w) w.heap.size rfl (.tmp 55) (.tmp 57) 22 3 (.int .i64 0) 8 rfl Try.underlying22 info_int rfl (by decide) (by omega) vn2 (zl N1) (L1.length : Int) [.int .i64 L1.length] rfl rfl rfl HM2.out.nxt HM2.out.bel HM2.out.bel.size (by rw [zl_len]; have := hnl.out; omega) (fun v4 w9 ho hb ha => ?_); have d1 : w9.cell? ⟨w1.heap.size + 1, 1, none⟩ = some vn2 := (by rw [cell_of_row _ _ _ _ _ _ (ha.cells HM2.out.out HM2.out.nxt (by decide))]; rfl); have f1 : w9.frozen? ⟨w1.heap.size + 1, 1, none⟩ = false := frozen_of_row _ _ _ _ _ (ha.cells HM2.out.out HM2.out.nxt (by decide)); have hm3 := HM2.out.nxt_step ho hb ha; obtain ⟨A4, c4', rfl⟩ := Kd.R_slice ho; rw [List.length_append, List.length_singleton] at hm3; have HM3 := Lib.hid hm3; clear ho hb ha hm3))
              go_roundw
              case rel => exact ⟨c + 1, _, by omega, by go_num, by rw [HE1.out]; exact HLL, by rw [HE1.out, HE2.out]; exact HM3⟩
              case measure => simp [intOf]; omega
        · have hce : c = k := by omega
          have e1k : (i + 1) * k = i * k + c := by rw [Nat.succ_mul, hce]
          have HMM : Hid (i + 1 ≤ (bs k step first ((i + 1) * k)).length ∧ (bs k step first ((i + 1) * k)).length ≤ 4096) := Lib.hid (by
            have h1 : (bs k step first (i * k)).length ≤ (bs k step first ((i + 1) * k)).length := by
              rw [bs_len, bs_len]; exact bw_le (by omega)
            exact ⟨by omega, by rw [e1k]; exact hL⟩)
          have HAC : Hid (sac k step first good (i + 1) (i * k + c) = sac k step first good i (i * k) ++ [good s]) := Lib.hid (by
            rw [sac_next good HSQ.out, sac_keep good (show i * k ≤ i * k + c by omega) (by omega)])
          have HEK := Lib.hid e1k
          have hacl : (sac k step first good i (i * k)).length ≤ 4096 := by unfold sac; rw [List.length_map, List.length_take]; omega
          have hi4 : i < 4097 := by omega
          clear e1k hce
          go_wp2
          have hcall2 := HGD.out s (i * k + c) (List.mem_of_getElem? HSQ.out) wr.drew GX.out.bel
          refine wp_region_held_drew (S := fun w' => w'.heap[w.heap.size]? = some (.cells #[.int .i64 kd, .int .i64 (k : Int), s1, s2, .int .i64 k2, s4, s5] 77 (0, 0)) ∧ w'.cell? ⟨lb2, i, none⟩ = some (.string (en s))) (by kernel_rfl) ⟨GX.out.box, cl1⟩ (fun hS => ?_)
          refine any_take (i := 0) rfl (by kernel_rfl) (by kernel_rfl) (by kernel_rfl) (fun _ _ _ h => h) hS (yi_row _ _ rfl (by rfl) (w.heap.size) rfl (#[.int .i64 kd, .int .i64 (k : Int), s1, s2, .int .i64 k2, s4, s5]) _ Try.underlying77 rfl (sp_z _ _ _ _ _ _ _) (fun w' h' => ⟨_, _, h'.1⟩)) ?_
          (try simp only [Act.put, List.setIfInBounds_toArray, List.set_cons_zero, List.set_cons_succ])
          refine any_take (i := 1) (v := ?v18) rfl (by kernel_rfl) (by kernel_rfl) (by kernel_rfl) (fun _ _ _ h => h) hS (.inl ⟨by rfl, ?y18⟩) ?_
          case y18 => (intro w' h'; go_simp; with_reducible rfl)
          (try simp only [Act.put, List.setIfInBounds_toArray, List.set_cons_zero, List.set_cons_succ])
          refine any_take (i := 2) (v := ?v19) rfl (by kernel_rfl) (by kernel_rfl) (by kernel_rfl) (fun _ _ _ h => h) hS (.inl ⟨by rfl, ?y19⟩) ?_
          case y19 => (intro w' h'; go_simp; with_reducible rfl)
          (try simp only [Act.put, List.setIfInBounds_toArray, List.set_cons_zero, List.set_cons_succ])
          refine any_take (i := 3) (v := ?v20) rfl (by kernel_rfl) (by kernel_rfl) (by kernel_rfl) (fun _ _ _ h => h) hS (.inl ⟨by rfl, ?y20⟩) ?_
          case y20 => (intro w' h'; go_simp; with_reducible rfl)
          (try simp only [Act.put, List.setIfInBounds_toArray, List.set_cons_zero, List.set_cons_succ])
          refine any_take (i := 4) (v := (.string (en s))) rfl (by kernel_rfl) (by kernel_rfl) (by kernel_rfl) (fun _ _ _ h => h) hS (yi_cell _ _ rfl (by rfl) ⟨lb2, i, none⟩ rfl _ Try.underlying9 rfl (fun w' h' => h'.2)) ?_
          (try simp only [Act.put, List.setIfInBounds_toArray, List.set_cons_zero, List.set_cons_succ])
          refine any_take (i := 5) (v := ?v23) rfl (by kernel_rfl) (by kernel_rfl) (by kernel_rfl) (fun _ _ _ h => h) hS (.inl ⟨by rfl, ?y23⟩) ?_
          case y23 => (intro w' h'; go_simp; with_reducible rfl)
          (try simp only [Act.put, List.setIfInBounds_toArray, List.set_cons_zero, List.set_cons_succ])
          refine any_call (i := 6) rfl (by kernel_rfl) (by rfl) 92 #[.agg #[.int .i64 kd, .int .i64 (k : Int), s1, s2, .int .i64 k2, s4, s5], .string (en s), .int .i64 how] ?x24 (hcall2) ?_
          case x24 => (simp [go_sem])
          (try simp only [Act.put, List.setIfInBounds_toArray, List.set_cons_zero, List.set_cons_succ])
          rintro e w6 ⟨rfl, hb⟩
          have hS6 : w6.heap[w.heap.size]? = some (.cells #[.int .i64 kd, .int .i64 (k : Int), s1, s2, .int .i64 k2, s4, s5] 77 (0, 0)) ∧ w6.cell? ⟨lb2, i, none⟩ = some (.string (en s)) := ⟨hp_below' hb hS.1, (hb.cell (World.block_lt_of_cell? _ _ hS.2)).trans hS.2⟩
          refine ⟨_, rfl, hS6, ?_⟩
          (try simp only [Act.put, List.setIfInBounds_toArray, List.set_cons_zero, List.set_cons_succ])
          refine any_take (i := 7) (v := ?v28) rfl (by kernel_rfl) (by kernel_rfl) (by kernel_rfl) (fun _ _ _ h => h) hS6 (.inl ⟨by rfl, ?y28⟩) ?_
          case y28 => (intro w' h'; go_simp; with_reducible rfl)
          (try simp only [Act.put, List.setIfInBounds_toArray, List.set_cons_zero, List.set_cons_succ])
          refine wpAnyH_done (by kernel_rfl) ?_ _
          have GD := Lib.hid (GX.out.below hb)
          have c5 : w6.cell? ⟨w1.heap.size + 1, 2, none⟩ = some va := by rw [cell_of_row _ _ _ _ _ _ GD.out.out]; rfl
          clear hb hS hS6 hcall2 GX G cl1 ck
          generalize good s = gs at *
          generalize sac k step first good i (i * k) = Ac at *
          go_wp2_with ((with_reducible refine gate_builtin (b := .append) (xs := #[.tmp 68, .tmp 70]) rfl ?_); at_builtin; refine wpl_append Kd.bool (w0 := w) w.heap.size rfl (.tmp 68) (.tmp 70) 23 4 (.bool false) 1 rfl Try.underlying23 info_bool rfl (by decide) (by omega) va Ac gs [.bool gs] rfl rfl rfl GD.out.acc GD.out.bel GD.out.bel.size (by omega) (fun v4 w9 ho hb ha => ?_); have d1 : w9.cell? ⟨w1.heap.size + 1, 2, none⟩ = some va := (by rw [cell_of_row _ _ _ _ _ _ (ha.cells GD.out.out GD.out.acc (by decide))]; rfl); have f1 : w9.frozen? ⟨w1.heap.size + 1, 2, none⟩ = false := frozen_of_row _ _ _ _ _ (ha.cells GD.out.out GD.out.acc (by decide)); have hm3 := GD.out.acc_step ho hb ha; obtain ⟨A4, c4', rfl⟩ := Kd.R_slice ho; rw [List.length_append, List.length_singleton] at hm3; have HM3 := Lib.hid hm3; clear ho hb ha hm3)
          go_roundw
          case rel => exact ⟨i + 1, _, _, by go_num, HMM, by rw [HEK.out, HAC.out]; exact HM3⟩
          case measure => simp [intOf]; omega
    · have hie : (bs k step first (i * k)).length = i := by omega
      have hcl : Closed k step first i := by unfold Closed; rw [← bs_len]; exact hie
      obtain ⟨e1, e2⟩ := sr_of_closed hk (by omega) hcl
      have HE0 : Hid (srE k step first = 0) := Lib.hid (by unfold srE; rw [if_pos (by omega)])
      have HV := Lib.hid (srV_ok good HE0.out)
      rw [e2] at HV
      have HAC : Hid ((srL k step first).map good = sac k step first good i (i * k)) := Lib.hid (by unfold sac; rw [e1, List.take_of_length_le (by omega)])
      obtain ⟨An, cn2, rfl⟩ := Kd.R_slice H.out.nxt
      obtain ⟨Aa, ca, rfl⟩ := Kd.R_slice H.out.acc
      clear e1 e2 hcl hlcell
      go_wp2_with (first | ((with_reducible refine gate_ld (t := 25) rfl ?_); refine ld_au (y := ⟨(k : Int), zl (nx k step first (i * k)), sac k step first good i (i * k)⟩) (A := An) (c := cn2) (B := Aa) (d := ca) _ rfl (w1.heap.size + 1) rfl H.out.out rfl ?_) | ((with_reducible refine gate_st (t := 25) rfl ?_); refine wpList_store_row rfl 25 _ _ rfl (w.heap.size + 1) (ac ⟨(k : Int), zl (nx k step first (i * k)), sac k step first good i (i * k)⟩ An cn2 Aa ca) rfl rfl 25 _ H.out.res (by show _ = some 3; kernel_rfl) rfl (by simp [Value.oneCell']) ?_))
      refine bodyPost_ret (v := .tuple #[.agg (ac ⟨(k : Int), zl (nx k step first (i * k)), sac k step first good i (i * k)⟩ An cn2 Aa ca), .int .i64 0]) ?_ rfl ⟨_, _, by rw [HV.out, HE0.out], ?_, ?_, bl_row H.out.bel (by omega) _⟩
      · refine (results_cell_tmp (p := 4) (t := 5) (by rfl) _ _ (w.heap.size + 1) 25 _ _ _ ?_ (setRow_heap _ _ _ _ _ _ H.out.res) Try.underlying25 rfl (by show _ = some 3; kernel_rfl)).trans ?_ <;> rfl
      · rw [HV.out]; exact own_rowT H.out.res H.out.nxt (by decide) rfl _
      · rw [HV.out]; show Kd.R Kd.bool 4 _ _ _ _ ((srL k step first).map good); rw [HAC.out]; exact own_rowT H.out.res H.out.acc (by decide) rfl _
end Go.Proofs.Ytjckidjljkjhfaa

namespace Go.Proofs.Ytjckidjljkjhfaa.PAutoMakes
open Go.RowKit Go.Proofs.YtjckidjljkjhfaaW.PrintWords Go.Proofs.YtjckidjljkjhfaaW.PrintLast Go.Proofs.YtjckidjljkjhfaaW.PrintMore
attribute [local go_sem] max2_int min2_int max_two min_two max_three min_three max_four min_four   -- for this text's walks alone
set_option linter.unusedVariables false
set_option linter.unusedSimpArgs false

/-! ### eggboxref08_value: function 98 -/
def eggboxref08_value.f (a0 : ByteArray) : Option (Int) := if 0 < (a0.size : Int) then (if 1 < (a0.size : Int) then (some (wrap64 ((wrap64 ((wrap64 (bt a0 0)) * 64)) + (wrap64 (bt a0 1))))) else (none)) else (none)
set_option maxHeartbeats 8000000 in
set_option maxRecDepth 100000 in
theorem eggboxref08_value.calls (a0 : ByteArray) (r : Int) (w : World) (h : eggboxref08_value.f a0 = some r) :
    Calls Try.prog 98 #[.string a0] w fun e w' => e = .returned (.int .i64 r) ∧ Drawn0 w w' := by
  have H : (if 0 < (a0.size : Int) then (if 1 < (a0.size : Int) then (some (wrap64 ((wrap64 ((wrap64 (bt a0 0)) * 64)) + (wrap64 (bt a0 1))))) else (none)) else (none)) = some r := h
  clear h
  by_cases c2 : 0 < (a0.size : Int)
  · rw [if_pos c2] at H
    have c2b0 : decide (0 < (a0.size : Int)) = true := decide_eq_true c2
    have c2b1 : decide (0 < a0.size) = true := decide_eq_true (by omega)
    clear c2
    by_cases c4 : 1 < (a0.size : Int)
    · rw [if_pos c4] at H
      have c4b0 : decide (1 < (a0.size : Int)) = true := decide_eq_true c4
      have c4b1 : decide (1 < a0.size) = true := decide_eq_true (by omega)
      clear c4
      obtain rfl := Option.some.inj H
      have p3 : 0 ≤ (0 : Int) := (by omega)
      have q3 : 0 < a0.size := (by have : (0 : Int) < (a0.size : Int) := of_decide_eq_true (by first | (with_reducible assumption) | assumption); omega)
      have hx3 : ∀ h : 0 < a0.size, ((a0[0]'h).toNat : Int) = bt a0 0 := bt_at a0 0
      clear p3
      have qi3 : (0 < (a0.size : Int)) = True := eq_true (of_decide_eq_true (by first | (with_reducible assumption) | assumption))
      replace q3 := eq_true q3
      have p5 : 0 ≤ (1 : Int) := (by omega)
      have q5 : 1 < a0.size := (by have : (1 : Int) < (a0.size : Int) := of_decide_eq_true (by first | (with_reducible assumption) | assumption); omega)
      have hx5 : ∀ h : 1 < a0.size, ((a0[1]'h).toNat : Int) = bt a0 1 := bt_at a0 1
      clear p5
      have qi5 : (1 < (a0.size : Int)) = True := eq_true (of_decide_eq_true (by first | (with_reducible assumption) | assumption))
      replace q5 := eq_true q5
      go_enter Try.func98, Try.ntmps98
      go_wp2
      repeat (go_quiet (fail); try go_wp2)
      go_ret
      exact ⟨by first | rfl | (simp; done) | (simp [*]; done), by repeat (first | exact Drawn0.refl _ | apply Drawn0.step)⟩
    · rw [if_neg c4] at H
      exact absurd H (by simp)
  · rw [if_neg c2] at H
    exact absurd H (by simp)

/-! ### eggboxref08_moved: function 99 -/
def eggboxref08_moved.l0 : Nat → ByteArray → Int → List Int → Int → Int → List Int → List Bool → Option (List Int)
  | 0, _, _, _, _, _, _, _ => none
  | k + 1, x1, x2, x7, x8, x248000, x248001, x248002 => if x8 < (x1.size : Int) then (if 0 ≤ x8 then (if (bt x1 x8) = 1 then (if 0 ≤ (wrap64 ((wrap64 (x8 * x248000)) + x2)) then (if (wrap64 ((wrap64 (x8 * x248000)) + x2)) < (x248001.length : Int) then (if 0 ≤ (rd x248001 (wrap64 ((wrap64 (x8 * x248000)) + x2))) then (if (rd x248001 (wrap64 ((wrap64 (x8 * x248000)) + x2))) < (x7.length : Int) then (eggboxref08_moved.l0 k x1 x2 (x7.set ((rd x248001 (wrap64 ((wrap64 (x8 * x248000)) + x2))) : Int).toNat 1) (wrap64 (x8 + 1)) x248000 x248001 x248002) else (none)) else (none)) else (none)) else (none)) else (eggboxref08_moved.l0 k x1 x2 x7 (wrap64 (x8 + 1)) x248000 x248001 x248002)) else (none)) else (some x7)
def eggboxref08_moved.f (k : Nat) (a0_0 : Int) (l0_1 : List Int) (l0_2 : List Bool) (a1 : ByteArray) (a2 : Int) : Option (List Int) := (eggboxref08_set.f (a1.size : Int)).bind fun t248 => (eggboxref08_moved.l0 k a1 a2 t248 0 a0_0 l0_1 l0_2)
theorem eggboxref08_moved.mono_l : ∀ k, (∀ y0 y1 y2 y3 y4 y5 y6, LeO (eggboxref08_moved.l0 k y0 y1 y2 y3 y4 y5 y6) (eggboxref08_moved.l0 (k + 1) y0 y1 y2 y3 y4 y5 y6))
  | 0 => fun _ _ _ _ _ _ _ r h => by simp [eggboxref08_moved.l0] at h
  | k + 1 => by
    have ih0 := eggboxref08_moved.mono_l k
    · intro y0 y1 y2 y3 y4 y5 y6
      unfold eggboxref08_moved.l0
      repeat' first
      | (with_reducible exact ih0 _ _ _ _ _ _ _)
      | (with_reducible exact LeO.refl _)
      | (with_reducible exact LeO.none _)
      | (with_reducible refine LeO.ite ?_ ?_)
      | (with_reducible refine LeO.bind ?_ (fun _ => ?_))
      | exact ih0 _ _ _ _ _ _ _
      | exact LeO.none _
      | refine LeO.ite ?_ ?_
      | refine LeO.bind ?_ (fun _ => ?_)
theorem eggboxref08_moved.mono : ∀ a0 a1 a2 a3 a4 k, LeO (eggboxref08_moved.f k a0 a1 a2 a3 a4) (eggboxref08_moved.f (k + 1) a0 a1 a2 a3 a4) := by
  intro a0 a1 a2 a3 a4 k
  have ih0 := eggboxref08_moved.mono_l k
  unfold eggboxref08_moved.f
  repeat' first
      | (with_reducible exact ih0 _ _ _ _ _ _ _)
      | (with_reducible exact LeO.refl _)
      | (with_reducible exact LeO.none _)
      | (with_reducible refine LeO.ite ?_ ?_)
      | (with_reducible refine LeO.bind ?_ (fun _ => ?_))
      | exact ih0 _ _ _ _ _ _ _
      | exact LeO.none _
      | refine LeO.ite ?_ ?_
      | refine LeO.bind ?_ (fun _ => ?_)
set_option maxHeartbeats 8000000 in
set_option maxRecDepth 100000 in
theorem eggboxref08_moved.calls (k : Nat) (a0_0 : Int) (A0_1 : Option Addr) (c0_1 : Nat) (l0_1 : List Int) (A0_2 : Option Addr) (c0_2 : Nat) (l0_2 : List Bool) (a1 : ByteArray) (a2 : Int) (r : List Int) (w : World) (hr0_1 : Kd.C (Kd.int .i64) w A0_1 l0_1.length l0_1) (hc0_1 : l0_1.length ≤ c0_1) (hr0_2 : Kd.C Kd.bool w A0_2 l0_2.length l0_2) (hc0_2 : l0_2.length ≤ c0_2) (h : eggboxref08_moved.f k a0_0 l0_1 l0_2 a1 a2 = some r) :
    Calls Try.prog 99 #[.agg #[.int .i64 a0_0, .slice A0_1 l0_1.length c0_1, .slice A0_2 l0_2.length c0_2], .string a1, .int .i64 a2] w fun e w' => ∃ v0_ : Value, e = .returned (v0_) ∧ Kd.R (Kd.int .u8) 5 w' w.heap.size (fun _ => True) v0_ r ∧ Below w.heap.size w w' := by
  have hu25 := Try.underlying25
  have HR0_1 := Aside0.mk hr0_1
  have HC0_1 := Aside0.mk hc0_1
  clear hr0_1 hc0_1
  have HR0_2 := Aside0.mk hr0_2
  have HC0_2 := Aside0.mk hc0_2
  clear hr0_2 hc0_2
  have HB := Aside0.mk (Below.refl w.heap.size w)
  have H : ((eggboxref08_set.f (a1.size : Int)).bind fun t248 => (eggboxref08_moved.l0 k a1 a2 t248 0 a0_0 l0_1 l0_2)) = some r := h
  clear h
  replace H := Option.bind_eq_some_iff.mp H
  obtain ⟨t248, A40, H⟩ := H
  replace H : (eggboxref08_moved.l0 k a1 a2 t248 0 a0_0 l0_1 l0_2) = some r := H
  have A4 := Aside0.mk A40
  clear A40
  have H' := Aside0.mk H
  clear H
  go_enter Try.func99, Try.ntmps99
  go_wp2_with (first | ((with_reducible refine gate_dst (N := 3) rfl ?_); refine box_event ?hg (N := 3) ?hd (cs := #[.int .i64 a0_0, .slice A0_1 l0_1.length c0_1, .slice A0_2 l0_2.length c0_2]) (t := 25) ?hr ?_; (case hd => rfl); (case hg => rfl); (case hr => first | (go_simp; done) | (go_simp; rfl)); intro gb247 hg w5 hbox hb; have n0_ := Aside0.mk (below_step (by repeat (first | (with_reducible first | exact HB.out | apply below_alloc | apply pw_below_drewN | apply below_drew1) | exact HB.out)) hb); have n1_ := Aside0.mk (hbox); have n2_ := Aside0.mk ((by rw [hg]; exact (below_size (by repeat (first | (with_reducible first | exact HB.out | apply below_alloc | apply pw_below_drewN | apply below_drew1) | exact HB.out))) : w.heap.size ≤ gb247)); have n3_ := Aside0.mk ((by rw [hg]; exact (below_size (by repeat (first | (with_reducible first | exact HB.out | apply below_alloc | apply pw_below_drewN | apply below_drew1) | exact HB.out))) : w.heap.size ≤ gb247)); clear HB; have HB := n0_; have BK247 := n1_; have GW247 := n2_; have GE247 := n3_; clear n0_ n1_ n2_ n3_; clear hb hbox hg) | ((with_reducible refine gate_callee (f := 97) rfl ?_); refine goesL_ (some 11) rfl rfl Try.func97 (by kernel_rfl) rfl #[.int .i64 (a1.size : Int)] rfl (by (try simp only [List.map_toArray, List.map_cons, List.map_nil]); first | done | rfl | (simp only [List.length_drop, List.length_take]; rfl)) ?_; (with_reducible refine (eggboxref08_set.calls (a1.size : Int) t248 _ A4.out).mono ?_); rintro e w6 ⟨v249, rfl, ho0, hb⟩; refine ⟨_, rfl, ?_⟩; have n0_ := Aside0.mk (Kd.R_lower ho0 (below_size (by repeat (first | (with_reducible first | exact HB.out | apply below_alloc | apply pw_below_drewN | apply below_drew1 | refine below_set ?_ GE247.out) | exact HB.out)))); have n1_ := Aside0.mk (blk_below (g := gb247) (o := .cells #[.int .i64 a0_0, .slice A0_1 l0_1.length c0_1, .slice A0_2 l0_2.length c0_2] 25 (0, 0)) (by (with_reducible repeat (first | refine blk_drewN ?_ _ | refine blk_drew ?_ | refine blk_alloc ?_ _)); exact BK247.out) hb); have n2_ := Aside0.mk (below_step (by repeat (first | (with_reducible first | exact HB.out | apply below_alloc | apply pw_below_drewN | apply below_drew1 | refine below_set ?_ GE247.out) | exact HB.out)) hb); clear BK247; clear HB; have HO250 := n0_; have BK247 := n1_; have HB := n2_; clear n0_ n1_ n2_; (try clear hb); (try clear hb2); (try clear hk); (try clear hi); (try clear ho0)))
  go_loopg [8] k (fun kq v8 w' => ∃ (x7_1 : List Int) (x8_1 : Int), v8 = .int .i64 x8_1 ∧ Aside0 (eggboxref08_moved.l0 kq a1 a2 x7_1 x8_1 a0_0 l0_1 l0_2 = some r) ∧ Aside0 (kq ≤ k) ∧ Aside0 (Kd.R (Kd.int .u8) 5 w' w.heap.size (fun _ => True) v249 x7_1) ∧ Aside0 (w'.heap[gb247]? = some (.cells #[.int .i64 a0_0, (.slice A0_1 l0_1.length c0_1), (.slice A0_2 l0_2.length c0_2)] 25 (0, 0))) ∧ Aside0 (Below w.heap.size w w'))
  case atStart => exact ⟨(t248), (0), (by first | rfl | (simp; done) | (simp [*]; done)), H', ⟨Nat.le_refl _⟩, ⟨by (with_reducible repeat (first | apply Kd.R_alloc | apply Kd.R_drewN | apply Kd.R_drew)); exact HO250.out⟩, ⟨by (with_reducible repeat (first | refine blk_drewN ?_ _ | refine blk_drew ?_ | refine blk_alloc ?_ _)); exact BK247.out⟩, ⟨by repeat (first | (with_reducible first | exact HB.out | apply below_alloc | apply pw_below_drewN | apply below_drew1 | refine below_set ?_ GE247.out) | exact HB.out)⟩⟩
  case round =>
    clear H'
    try clear p2
    obtain ⟨x7_1, x8_1, rfl, HA, HK1, HO_7, BK247, HB⟩ := hrel
    cases gk with
    | zero => exact absurd HA.out (by simp [eggboxref08_moved.l0])
    | succ k1 =>
      have H := HA.out
      clear HA
      simp only [eggboxref08_moved.l0] at H
      by_cases c7 : x8_1 < (a1.size : Int)
      · rw [if_pos c7] at H
        have c7b0 : decide (x8_1 < (a1.size : Int)) = true := decide_eq_true c7
        clear c7
        by_cases c8 : 0 ≤ x8_1
        · rw [if_pos c8] at H
          have c8b0 : decide (0 ≤ x8_1) = true := decide_eq_true c8
          clear c8
          by_cases c10 : (bt a1 x8_1) = 1
          · rw [if_pos c10] at H
            have c10b0 : ((bt a1 x8_1) == 1) = true := beq_iff_eq.mpr c10
            have c10b1 : ((bt a1 x8_1) != 1) = false := bne_eq_false_iff_eq.mpr c10
            clear c10
            obtain ⟨ji11, hji11⟩ : ∃ j_ : Int, (wrap64 ((wrap64 (x8_1 * a0_0)) + a2)) = j_ := ⟨_, rfl⟩
            replace H : (if 0 ≤ (ji11) then (if (ji11) < (l0_1.length : Int) then (if 0 ≤ (rd l0_1 (ji11)) then (if (rd l0_1 (ji11)) < (x7_1.length : Int) then (eggboxref08_moved.l0 k1 a1 a2 (x7_1.set ((rd l0_1 (ji11)) : Int).toNat 1) (wrap64 (x8_1 + 1)) a0_0 l0_1 l0_2) else (none)) else (none)) else (none)) else (none)) = some r := by first | (rw [hji11] at H; exact H) | (simp only [hji11] at H ⊢; exact H)
            have hji11w : (IntKind.i64.wrap ((wrap64 (x8_1 * a0_0)) + a2)) = ji11 := (i64_w _).trans hji11
            by_cases c12 : 0 ≤ (ji11)
            · rw [if_pos c12] at H
              have c12b0 : decide (0 ≤ (ji11)) = true := decide_eq_true c12
              clear c12
              by_cases c13 : (ji11) < (l0_1.length : Int)
              · rw [if_pos c13] at H
                have c13b0 : decide ((ji11) < (l0_1.length : Int)) = true := decide_eq_true c13
                clear c13
                by_cases c14 : 0 ≤ (rd l0_1 (ji11))
                · rw [if_pos c14] at H
                  have c14b0 : decide (0 ≤ (rd l0_1 (ji11))) = true := decide_eq_true c14
                  clear c14
                  by_cases c15 : (rd l0_1 (ji11)) < (x7_1.length : Int)
                  · rw [if_pos c15] at H
                    have c15b0 : decide ((rd l0_1 (ji11)) < (x7_1.length : Int)) = true := decide_eq_true c15
                    clear c15
                    obtain ⟨y252, hy252⟩ : ∃ y_ : List Int, y_ = (x7_1.set ((rd l0_1 (ji11)) : Int).toNat 1) := ⟨_, rfl⟩
                    replace H : (eggboxref08_moved.l0 k1 a1 a2 y252 (wrap64 (x8_1 + 1)) a0_0 l0_1 l0_2) = some r := by first | (rw [hy252]; with_reducible exact H) | (have H2_ := (Option.bind_some _ _).symm.trans H; rw [hy252]; with_reducible exact H2_) | (have H2_ := (Option.bind_some _ _).symm.trans H; with_reducible exact H2_) | with_reducible exact H | (rw [hy252]; exact H) | exact H
                    have Ny252 := Aside0.mk hy252
                    clear hy252
                    have H' := Aside0.mk H
                    clear H
                    have p9 : 0 ≤ (x8_1 : Int) := of_decide_eq_true (by first | (with_reducible assumption) | assumption)
                    have q9 : x8_1 < (a1.size : Int) := of_decide_eq_true (by first | (with_reducible assumption) | assumption)
                    have hx9 := bt_at a1 x8_1
                    replace p9 := eq_true p9
                    replace q9 := eq_true q9
                    have hcz17_0 : wr.cell? ⟨gb247, 0, none⟩ = some (.int .i64 a0_0) := (blk_cell BK247.out 0).trans rfl
                    have hcz17_1 : wr.cell? ⟨gb247, 1, none⟩ = some (.slice A0_1 l0_1.length c0_1) := (blk_cell BK247.out 1).trans rfl
                    have hcz17_2 : wr.cell? ⟨gb247, 2, none⟩ = some (.slice A0_2 l0_2.length c0_2) := (blk_cell BK247.out 2).trans rfl
                    have hfz17_0 := blk_frozen BK247.out 0
                    have hfz17_1 := blk_frozen BK247.out 1
                    have hfz17_2 := blk_frozen BK247.out 2
                    have p251 : 0 ≤ ((ji11) : Int) := of_decide_eq_true (by first | (with_reducible assumption) | assumption)
                    have q251 : (ji11) < (l0_1.length : Int) := of_decide_eq_true (by first | (with_reducible assumption) | assumption)
                    obtain ⟨ad251, e251, hx251_0⟩ := Kd.at_int HR0_1.out (ji11) p251 q251
                    cases e251
                    replace hx251_0 := (HB.out.cell (World.block_lt_of_cell? w _ hx251_0)).trans hx251_0
                    replace p251 := eq_true p251
                    replace q251 := eq_true q251
                    have p16 : 0 ≤ ((rd l0_1 (ji11)) : Int) := of_decide_eq_true (by first | (with_reducible assumption) | assumption)
                    have q16 : ((rd l0_1 (ji11)) : Int) < ((x7_1.length : Int) : Int) := of_decide_eq_true (by first | (with_reducible assumption) | assumption)
                    obtain ⟨go16, co16, eo16, gb16, gl16, cl16, HG16⟩ := Kd.R_form HO_7.out (by omega)
                    (first | cases eo16 | (injection eo16 with ea_ en_ ec_; (first | subst ea_ | (injection ea_ with ea_; subst ea_)); subst ec_; clear en_))
                    have GB16 := Aside0.mk gb16
                    have GG16 := Aside0.mk HG16
                    clear gb16 gl16 HG16
                    obtain ⟨hx16_0, hf16_0⟩ := Kd.R_celln 0 HO_7.out ((rd l0_1 (ji11)) : Int) p16 q16
                    replace p16 := eq_true p16
                    replace q16 := eq_true q16
                    have HP18 := Kd.R_putg HO_7.out ((rd l0_1 (ji11)) : Int) 1
                    go_wp2_with (first | ((with_reducible refine gate_store (t := 5) (p := 33) rfl ?_); refine store_event (t := 5) (p := 33) (v := ?vo_w19) (w1 := (wr.setCell ⟨go16, ((rd l0_1 (ji11)) : Int).toNat, none⟩ (.int .u8 1))) ?hg ?ho ?hn ?hr ?_; (case ho => rfl); (case hg => rfl); (case hn => rfl); (case hr => first | (go_simp; done) | (go_simp; rfl)); intro w19 hw; have hg : wr.grownBy w19 (some go16) := (by rw [hw]; exact HP18.2); have hp_ : Kd.R (Kd.int .u8) 5 w19 w.heap.size (fun _ => True) (.slice (some ⟨go16, 0, none⟩) x7_1.length co16) y252 := (by rw [hw, Ny252.out]; exact HP18.1); clear HP18; have n0_ := Aside0.mk (hp_); have n1_ := Aside0.mk (blk_grown (g := gb247) (o := .cells #[.int .i64 a0_0, .slice (some ad251) l0_1.length c0_1, .slice A0_2 l0_2.length c0_2] 25 (0, 0)) (by (with_reducible repeat (first | refine blk_drewN ?_ _ | refine blk_drew ?_ | refine blk_alloc ?_ _)); exact BK247.out) hg (Kd.R_ne HO_7.out BK247.out (by decide))); have n2_ := Aside0.mk ((by rw [hw]; exact below_set (HB.out) GB16.out : Below w.heap.size w w19)); clear HO_7; clear BK247; clear HB; have HO_7 := n0_; have BK247 := n1_; have HB := n2_; clear n0_ n1_ n2_; clear hg hw hp_))
                    go_roundg k1
                    case measure => have := HK1.out; omega
                    case rel => exact ⟨(y252), (wrap64 (x8_1 + 1)), (by first | rfl | (simp; done) | (simp [*]; done)), H', ⟨by have := HK1.out; omega⟩, ⟨by (with_reducible repeat (first | apply Kd.R_alloc | apply Kd.R_drewN | apply Kd.R_drew)); exact HO_7.out⟩, ⟨by (with_reducible repeat (first | refine blk_drewN ?_ _ | refine blk_drew ?_ | refine blk_alloc ?_ _)); exact BK247.out⟩, ⟨by repeat (first | (with_reducible first | exact HB.out | apply below_alloc | apply pw_below_drewN | apply below_drew1 | refine below_set ?_ GE247.out) | exact HB.out)⟩⟩
                  · rw [if_neg c15] at H
                    exact absurd H (by simp)
                · rw [if_neg c14] at H
                  exact absurd H (by simp)
              · rw [if_neg c13] at H
                exact absurd H (by simp)
            · rw [if_neg c12] at H
              exact absurd H (by simp)
          · rw [if_neg c10] at H
            have c10b0 : ((bt a1 x8_1) == 1) = false := beq_eq_false_iff_ne.mpr c10
            have c10b1 : ((bt a1 x8_1) != 1) = true := bne_iff_ne.mpr c10
            have H' := Aside0.mk H
            clear H
            have p9 : 0 ≤ (x8_1 : Int) := of_decide_eq_true (by first | (with_reducible assumption) | assumption)
            have q9 : x8_1 < (a1.size : Int) := of_decide_eq_true (by first | (with_reducible assumption) | assumption)
            have hx9 := bt_at a1 x8_1
            replace p9 := eq_true p9
            replace q9 := eq_true q9
            go_wp2
            go_roundg k1
            case measure => have := HK1.out; omega
            case rel => exact ⟨(x7_1), (wrap64 (x8_1 + 1)), (by first | rfl | (simp; done) | (simp [*]; done)), H', ⟨by have := HK1.out; omega⟩, ⟨by (with_reducible repeat (first | apply Kd.R_alloc | apply Kd.R_drewN | apply Kd.R_drew)); exact HO_7.out⟩, ⟨by (with_reducible repeat (first | refine blk_drewN ?_ _ | refine blk_drew ?_ | refine blk_alloc ?_ _)); exact BK247.out⟩, ⟨by repeat (first | (with_reducible first | exact HB.out | apply below_alloc | apply pw_below_drewN | apply below_drew1 | refine below_set ?_ GE247.out) | exact HB.out)⟩⟩
        · rw [if_neg c8] at H
          exact absurd H (by simp)
      · rw [if_neg c7] at H
        have c7b0 : decide (x8_1 < (a1.size : Int)) = false := decide_eq_false c7
        clear c7
        obtain rfl := Option.some.inj H
        go_wp2
        go_ret
        exact ⟨_, by first | rfl | (simp [errW_none, errW_some] <;> rfl) | (simp [*, errW_none, errW_some] <;> rfl), by (with_reducible repeat (first | apply Kd.R_alloc | apply Kd.R_drewN | apply Kd.R_drew)); exact HO_7.out, by repeat (first | (with_reducible first | exact HB.out | apply below_alloc | apply pw_below_drewN | apply below_drew1 | refine below_set ?_ GE247.out) | exact HB.out)⟩

end Go.Proofs.Ytjckidjljkjhfaa.PAutoMakes

namespace Go.Proofs.Ytjckidjljkjhfaa
open Go.RowKit Go.Proofs.YtjckidjljkjhfaaW.PrintWords Go.Proofs.Ytjckidjljkjhfaa.PAutoMakes
set_option linter.unusedSimpArgs false
set_option linter.unusedVariables false
/-- A number's text. -/
def nm (s : Nat) : ByteArray := ⟨#[UInt8.ofNat (s / 64), UInt8.ofNat (s % 64)]⟩
theorem nm_size (s : Nat) : (nm s).size = 2 := rfl
theorem nm_num {s : Nat} (h : s < 16384) : eggboxref08_number.f (s : Int) = some (nm s) := by
  have h1 : (wrap64 (Int.tdiv (s : Int) 64)) % 256 = ((s / 64 : Nat) : Int) := by
    rw [show Int.tdiv (s : Int) 64 = ((s / 64 : Nat) : Int) from rfl]
    unfold wrap64; omega
  have h2 : (Int.tmod (s : Int) 64) % 256 = ((s % 64 : Nat) : Int) := by
    rw [show Int.tmod (s : Int) 64 = ((s % 64 : Nat) : Int) from rfl]
    omega
  unfold eggboxref08_number.f
  rw [h1, h2]
  unfold strOfNums nm
  simp only [List.map_cons, List.map_nil, Int.toNat_natCast]
theorem nm_val {s : Nat} (h : s < 16384) : eggboxref08_value.f (nm s) = some (s : Int) := by
  have h0 : bt (nm s) 0 = ((s / 64 : Nat) : Int) := by
    unfold bt
    rw [dif_pos (show (0 : Int).toNat < (nm s).size from (show 0 < 2 by decide))]
    show ((UInt8.ofNat (s / 64)).toNat : Int) = _
    rw [UInt8.toNat_ofNat']
    omega
  have h1 : bt (nm s) 1 = ((s % 64 : Nat) : Int) := by
    unfold bt
    rw [dif_pos (show (1 : Int).toNat < (nm s).size from (show 1 < 2 by decide))]
    show ((UInt8.ofNat (s % 64)).toNat : Int) = _
    rw [UInt8.toNat_ofNat']
    omega
  unfold eggboxref08_value.f
  rw [nm_size, if_pos (by decide), if_pos (by decide), h0, h1]
  congr 1
  unfold wrap64; omega
theorem nm_inj {s t : Nat} (hs : s < 16384) (ht : t < 16384) (h : nm s = nm t) : s = t := by
  have h1 := nm_val hs
  rw [h, nm_val ht] at h1
  injection h1 with h1
  omega
theorem number_any (s : Nat) (h : s < 16384) (w : World) : Calls Try.prog 96 #[.int .i64 (s : Int)] w fun e w' => e = .returned (.string (nm s)) ∧ Below w.heap.size w w' := eggboxref08_number.calls _ _ w (nm_num h)
theorem value_any (s : Nat) (h : s < 16384) (w : World) : Calls Try.prog 98 #[.string (nm s)] w fun e w' => e = .returned (.int .i64 (s : Int)) ∧ Below w.heap.size w w' := (eggboxref08_value.calls _ _ w (nm_val h)).mono fun e w' ⟨he, n, hw⟩ => ⟨he, by rw [hw]; exact bl_drewN (Below.refl _ _) n⟩
set_option maxRecDepth 100000 in
set_option maxHeartbeats 400000 in
theorem rstart1_any (k k2 : Int) (s1 s2 s4 s5 : Value) (w : World) : Calls Try.prog 89 #[.agg #[.int .i64 1, .int .i64 k, s1, s2, .int .i64 k2, s4, s5]] w fun e w' => e = .returned (.string (nm 0)) ∧ Below w.heap.size w w' := by
  have HB := Lib.hid (bl_alloc (Below.refl w.heap.size w) (.cells #[.int .i64 1, .int .i64 k, s1, s2, .int .i64 k2, s4, s5] 77))
  go_enter Try.func89, Try.ntmps89
  go_wp2_with fail
  refine (number_any 0 (by decide) _).mono ?_
  rintro e w1 ⟨rfl, hb⟩
  have HB1 := Lib.hid (bl_then HB.out hb)
  clear hb HB
  go_wp2
  go_ret
  exact ⟨rfl, HB1.out⟩
set_option maxRecDepth 100000 in
set_option maxHeartbeats 400000 in
theorem rstep1_any (x : AutV) (A : Option Addr) (c : Nat) (B : Option Addr) (d : Nat) (k2 : Int) (s4 s5 : Value) (hx : AutOk x) (s l : Nat) (hs : s < x.acc.length) (hl : (l : Int) < x.k) (w : World) (hr : ARd w x A B) :
    Calls Try.prog 90 #[.agg #[.int .i64 1, .int .i64 x.k, .slice A x.next.length c, .slice B x.acc.length d, .int .i64 k2, s4, s5], .string (nm s), .int .i64 (l : Int)] w fun e w' => e = .returned (.string (nm (stp x s l))) ∧ Below w.heap.size w w' := by
  obtain ⟨q1, q2⟩ := stp_lt hx hs hl
  have hix := stp_idx hx hs hl
  have hk1 := hx.1; have hk2 := hx.2.1; have hn2 := hx.2.2.2.1; have hnl := hx.2.2.2.2.1
  obtain ⟨ad, hA, hcell⟩ := Kd.at_int hr.next ((s * x.k.toNat + l : Nat) : Int) (by omega) (by omega)
  rw [Int.toNat_natCast, q2] at hcell
  have hmul : (s : Int) * x.k = ((s * x.k.toNat : Nat) : Int) := by
    obtain ⟨kk, hkk⟩ := Int.eq_ofNat_of_zero_le (show 0 ≤ x.k by omega)
    rw [hkk, Int.toNat_natCast]; push_cast; rfl
  have hP : s * x.k.toNat ≤ 40960 := by
    have : s * x.k.toNat ≤ 4096 * 10 := Nat.mul_le_mul (by omega) (by omega)
    omega
  have hxl : x.next.length ≤ 32768 := by
    have := aut_mul hk1 hk2 hn2
    omega
  have HVAL := Aside0.mk (fun W => value_any s (by omega) W)
  have HNUM := Aside0.mk (fun W => number_any (stp x s l) (by omega) W)
  generalize s * x.k.toNat = p at *
  generalize stp x s l = z at *
  subst hA
  have HB := Lib.hid (hp_new (w := w) (o := .cells #[.int .i64 1, .int .i64 x.k, .slice (some ad) x.next.length c, .slice B x.acc.length d, .int .i64 k2, s4, s5] 77 (0, 0)) rfl); have HBL := Lib.hid (bl_alloc (Below.refl w.heap.size w) (.cells #[.int .i64 1, .int .i64 x.k, .slice (some ad) x.next.length c, .slice B x.acc.length d, .int .i64 k2, s4, s5] 77 (0, 0)))
  have HC := Lib.hid (alloc_cell (o := .cells #[.int .i64 1, .int .i64 x.k, .slice (some ad) x.next.length c, .slice B x.acc.length d, .int .i64 k2, s4, s5] 77 (0, 0)) hcell)
  have HM := Lib.hid hmul
  have hw12 : 0 ≤ (p : Int) + (l : Int) := by omega
  have hw14 : (p : Int) + (l : Int) < (x.next.length : Int) := by omega
  have hw13 : ((p : Int) + (l : Int)).toNat = p + l := by omega
  clear hmul hx hr hnl hix q1 q2 hs hl hn2 hcell
  go_enter Try.func90, Try.ntmps90
  go_wp2
  have hS0 : (w.alloc (.cells #[.int .i64 1, .int .i64 x.k, .slice (some ad) x.next.length c, .slice B x.acc.length d, .int .i64 k2, s4, s5] 77 (0, 0))).drew.heap[w.heap.size]? = some (Obj.cells #[.int .i64 1, .int .i64 x.k, .slice (some ad) x.next.length c, .slice B x.acc.length d, .int .i64 k2, s4, s5] 77 (0, 0)) ∧ (w.alloc (.cells #[.int .i64 1, .int .i64 x.k, .slice (some ad) x.next.length c, .slice B x.acc.length d, .int .i64 k2, s4, s5] 77 (0, 0))).drew.cell? (ad.add (p + l)) = some (.int .i64 (z : Int)) ∧ Below w.heap.size w (w.alloc (.cells #[.int .i64 1, .int .i64 x.k, .slice (some ad) x.next.length c, .slice B x.acc.length d, .int .i64 k2, s4, s5] 77 (0, 0))).drew := ⟨HB.out, HC.out, HBL.out.drew⟩
  refine wp_region_held_drew (S := fun w' => w'.heap[w.heap.size]? = some (Obj.cells #[.int .i64 1, .int .i64 x.k, .slice (some ad) x.next.length c, .slice B x.acc.length d, .int .i64 k2, s4, s5] 77 (0, 0)) ∧ w'.cell? (ad.add (p + l)) = some (.int .i64 (z : Int)) ∧ Below w.heap.size w w') (by kernel_rfl) hS0 (fun hS => ?_)
  refine any_take (i := 0) (v := ?v3) rfl (by kernel_rfl) (by kernel_rfl) (by kernel_rfl) (fun _ _ _ h => h) hS (.inl ⟨by rfl, ?y3⟩) ?_
  case y3 => (intro w' h'; go_simp; with_reducible rfl)
  (try simp only [Act.put, List.setIfInBounds_toArray, List.set_cons_zero, List.set_cons_succ])
  refine any_take (i := 1) (v := ?v4) rfl (by kernel_rfl) (by kernel_rfl) (by kernel_rfl) (fun _ _ _ h => h) hS (.inl ⟨by rfl, ?y4⟩) ?_
  case y4 => (intro w' h'; go_simp; with_reducible rfl)
  (try simp only [Act.put, List.setIfInBounds_toArray, List.set_cons_zero, List.set_cons_succ])
  refine any_take (i := 2) (v := (.slice (some ad) x.next.length c)) rfl (by kernel_rfl) (by kernel_rfl) (by kernel_rfl) (fun _ _ _ h => h) hS (yi_cell _ _ rfl (by rfl) ⟨w.heap.size, 2, none⟩ rfl _ Try.underlying22 rfl (fun w' h' => (by rw [cell_of_row _ _ _ _ _ _ h'.1]; rfl))) ?_
  (try simp only [Act.put, List.setIfInBounds_toArray, List.set_cons_zero, List.set_cons_succ])
  refine any_take (i := 3) (v := ?v7) rfl (by kernel_rfl) (by kernel_rfl) (by kernel_rfl) (fun _ _ _ h => h) hS (.inl ⟨by rfl, ?y7⟩) ?_
  case y7 => (intro w' h'; go_simp; with_reducible rfl)
  (try simp only [Act.put, List.setIfInBounds_toArray, List.set_cons_zero, List.set_cons_succ])
  refine any_take (i := 5) (v := ?v8) rfl (by kernel_rfl) (by kernel_rfl) (by kernel_rfl) (fun _ _ _ h => h) hS (.inl ⟨by rfl, ?y8⟩) ?_
  case y8 => (intro w' h'; go_simp; with_reducible rfl)
  (try simp only [Act.put, List.setIfInBounds_toArray, List.set_cons_zero, List.set_cons_succ])
  refine any_take (i := 7) (v := ?v9) rfl (by kernel_rfl) (by kernel_rfl) (by kernel_rfl) (fun _ _ _ h => h) hS (.inl ⟨by rfl, ?y9⟩) ?_
  case y9 => (intro w' h'; go_simp; with_reducible rfl)
  (try simp only [Act.put, List.setIfInBounds_toArray, List.set_cons_zero, List.set_cons_succ])
  refine any_call (i := 4) rfl (by kernel_rfl) (by rfl) 98 #[.string (nm s)] ?x10 (HVAL.out _) ?_
  case x10 => (simp [go_sem])
  (try simp only [Act.put, List.setIfInBounds_toArray, List.set_cons_zero, List.set_cons_succ])
  rintro e w1 ⟨rfl, hb1⟩
  have hS1 : w1.heap[w.heap.size]? = some (Obj.cells #[.int .i64 1, .int .i64 x.k, .slice (some ad) x.next.length c, .slice B x.acc.length d, .int .i64 k2, s4, s5] 77 (0, 0)) ∧ w1.cell? (ad.add (p + l)) = some (.int .i64 (z : Int)) ∧ Below w.heap.size w w1 := ⟨hp_below' hb1 hS.1, (hb1.cell (World.block_lt_of_cell? _ _ hS.2.1)).trans hS.2.1, bl_then hS.2.2 hb1⟩
  refine ⟨_, rfl, hS1, ?_⟩
  (try simp only [Act.put, List.setIfInBounds_toArray, List.set_cons_zero, List.set_cons_succ])
  have hw5 : IntKind.i64.wrap ((s : Int) * x.k) = (p : Int) := by rw [HM.out]; exact IntWalk.i64_in _ ⟨by omega, by omega⟩
  have hw11 : IntKind.i64.wrap ((p : Int) + (l : Int)) = (p : Int) + (l : Int) := IntWalk.i64_in _ ⟨by omega, by omega⟩
  refine any_take (i := 6) (v := (.int .i64 (p : Int))) rfl (by kernel_rfl) (by kernel_rfl) (by kernel_rfl) (fun _ _ _ h => h) hS1 (yi_val (by rfl) (fun w' h' => ?y13)) ?_
  case y13 => first | rfl | (go_simp; done) | (go_simp; omega)
  (try simp only [Act.put, List.setIfInBounds_toArray, List.set_cons_zero, List.set_cons_succ])
  refine any_take (i := 8) (v := (.int .i64 ((p : Int) + (l : Int)))) rfl (by kernel_rfl) (by kernel_rfl) (by kernel_rfl) (fun _ _ _ h => h) hS1 (yi_val (by rfl) (fun w' h' => ?y14)) ?_
  case y14 => first | rfl | (go_simp; done) | (go_simp; omega)
  (try simp only [Act.put, List.setIfInBounds_toArray, List.set_cons_zero, List.set_cons_succ])
  refine any_take (i := 9) (v := ?v16) rfl (by kernel_rfl) (by kernel_rfl) (by kernel_rfl) (fun _ _ _ h => h) hS1 (.inl ⟨by rfl, ?y16⟩) ?_
  case y16 => (intro w' h'; go_simp; with_reducible rfl)
  (try simp only [Act.put, List.setIfInBounds_toArray, List.set_cons_zero, List.set_cons_succ])
  refine any_take (i := 10) (v := (.int .i64 (z : Int))) rfl (by kernel_rfl) (by kernel_rfl) (by kernel_rfl) (fun _ _ _ h => h) hS1 (yi_cell _ _ rfl (by rfl) (ad.add (p + l)) rfl _ Try.underlying3 rfl (fun w' h' => h'.2.1)) ?_
  (try simp only [Act.put, List.setIfInBounds_toArray, List.set_cons_zero, List.set_cons_succ])
  refine any_call (i := 11) rfl (by kernel_rfl) (by rfl) 96 #[.int .i64 (z : Int)] ?x18 (HNUM.out _) ?_
  case x18 => (simp [go_sem])
  (try simp only [Act.put, List.setIfInBounds_toArray, List.set_cons_zero, List.set_cons_succ])
  rintro e w2 ⟨rfl, hb2⟩
  have hS2 : w2.heap[w.heap.size]? = some (Obj.cells #[.int .i64 1, .int .i64 x.k, .slice (some ad) x.next.length c, .slice B x.acc.length d, .int .i64 k2, s4, s5] 77 (0, 0)) ∧ w2.cell? (ad.add (p + l)) = some (.int .i64 (z : Int)) ∧ Below w.heap.size w w2 := ⟨hp_below' hb2 hS1.1, (hb2.cell (World.block_lt_of_cell? _ _ hS1.2.1)).trans hS1.2.1, bl_then hS1.2.2 hb2⟩
  refine ⟨_, rfl, hS2, ?_⟩
  (try simp only [Act.put, List.setIfInBounds_toArray, List.set_cons_zero, List.set_cons_succ])
  refine any_take (i := 12) (v := ?v22) rfl (by kernel_rfl) (by kernel_rfl) (by kernel_rfl) (fun _ _ _ h => h) hS2 (.inl ⟨by rfl, ?y22⟩) ?_
  case y22 => (intro w' h'; go_simp; with_reducible rfl)
  (try simp only [Act.put, List.setIfInBounds_toArray, List.set_cons_zero, List.set_cons_succ])
  refine wpAnyH_done (by kernel_rfl) ?_ _
  have HF := Lib.hid hS2.2.2
  clear hS hS0 hS1 hS2 hb1 hb2
  go_wp2
  go_ret
  exact ⟨rfl, HF.out⟩
set_option maxRecDepth 100000 in
set_option maxHeartbeats 400000 in
theorem rgood1_any (x : AutV) (A : Option Addr) (c : Nat) (B : Option Addr) (d : Nat) (k2 how : Int) (s4 s5 : Value) (s : Nat) (hs : s < x.acc.length) (hn : x.acc.length ≤ 4096) (w : World) (hr : ARd w x A B) :
    Calls Try.prog 92 #[.agg #[.int .i64 1, .int .i64 x.k, .slice A x.next.length c, .slice B x.acc.length d, .int .i64 k2, s4, s5], .string (nm s), .int .i64 how] w fun e w' => e = .returned (.bool (rdOf false x.acc (s : Int))) ∧ Below w.heap.size w w' := by
  obtain ⟨ad, hB, hcell⟩ := Kd.at_bool hr.acc (s : Int) (by omega) (by omega)
  rw [Int.toNat_natCast] at hcell
  have HVAL := Aside0.mk (fun W => value_any s (by omega) W)
  generalize rdOf false x.acc (s : Int) = b at *
  subst hB
  have HB := Lib.hid (hp_new (w := w) (o := .cells #[.int .i64 1, .int .i64 x.k, .slice A x.next.length c, .slice (some ad) x.acc.length d, .int .i64 k2, s4, s5] 77 (0, 0)) rfl); have HBL := Lib.hid (bl_alloc (Below.refl w.heap.size w) (.cells #[.int .i64 1, .int .i64 x.k, .slice A x.next.length c, .slice (some ad) x.acc.length d, .int .i64 k2, s4, s5] 77 (0, 0)))
  have HC := Lib.hid (alloc_cell (o := .cells #[.int .i64 1, .int .i64 x.k, .slice A x.next.length c, .slice (some ad) x.acc.length d, .int .i64 k2, s4, s5] 77 (0, 0)) hcell)
  clear hr hcell
  go_enter Try.func92, Try.ntmps92
  go_wp2
  have hS0 : (w.alloc (.cells #[.int .i64 1, .int .i64 x.k, .slice A x.next.length c, .slice (some ad) x.acc.length d, .int .i64 k2, s4, s5] 77 (0, 0))).drew.heap[w.heap.size]? = some (Obj.cells #[.int .i64 1, .int .i64 x.k, .slice A x.next.length c, .slice (some ad) x.acc.length d, .int .i64 k2, s4, s5] 77 (0, 0)) ∧ (w.alloc (.cells #[.int .i64 1, .int .i64 x.k, .slice A x.next.length c, .slice (some ad) x.acc.length d, .int .i64 k2, s4, s5] 77 (0, 0))).drew.cell? (ad.add s) = some (.bool b) ∧ Below w.heap.size w (w.alloc (.cells #[.int .i64 1, .int .i64 x.k, .slice A x.next.length c, .slice (some ad) x.acc.length d, .int .i64 k2, s4, s5] 77 (0, 0))).drew := ⟨HB.out, HC.out, HBL.out.drew⟩
  refine wp_region_held_drew (S := fun w' => w'.heap[w.heap.size]? = some (Obj.cells #[.int .i64 1, .int .i64 x.k, .slice A x.next.length c, .slice (some ad) x.acc.length d, .int .i64 k2, s4, s5] 77 (0, 0)) ∧ w'.cell? (ad.add s) = some (.bool b) ∧ Below w.heap.size w w') (by kernel_rfl) hS0 (fun hS => ?_)
  refine any_take (i := 0) (v := ?v25) rfl (by kernel_rfl) (by kernel_rfl) (by kernel_rfl) (fun _ _ _ h => h) hS (.inl ⟨by rfl, ?y25⟩) ?_
  case y25 => (intro w' h'; go_simp; with_reducible rfl)
  (try simp only [Act.put, List.setIfInBounds_toArray, List.set_cons_zero, List.set_cons_succ])
  refine any_take (i := 1) (v := ?v26) rfl (by kernel_rfl) (by kernel_rfl) (by kernel_rfl) (fun _ _ _ h => h) hS (.inl ⟨by rfl, ?y26⟩) ?_
  case y26 => (intro w' h'; go_simp; with_reducible rfl)
  (try simp only [Act.put, List.setIfInBounds_toArray, List.set_cons_zero, List.set_cons_succ])
  refine any_take (i := 2) (v := (.slice (some ad) x.acc.length d)) rfl (by kernel_rfl) (by kernel_rfl) (by kernel_rfl) (fun _ _ _ h => h) hS (yi_cell _ _ rfl (by rfl) ⟨w.heap.size, 3, none⟩ rfl _ Try.underlying23 rfl (fun w' h' => (by rw [cell_of_row _ _ _ _ _ _ h'.1]; rfl))) ?_
  (try simp only [Act.put, List.setIfInBounds_toArray, List.set_cons_zero, List.set_cons_succ])
  refine any_take (i := 3) (v := ?v29) rfl (by kernel_rfl) (by kernel_rfl) (by kernel_rfl) (fun _ _ _ h => h) hS (.inl ⟨by rfl, ?y29⟩) ?_
  case y29 => (intro w' h'; go_simp; with_reducible rfl)
  (try simp only [Act.put, List.setIfInBounds_toArray, List.set_cons_zero, List.set_cons_succ])
  refine any_call (i := 4) rfl (by kernel_rfl) (by rfl) 98 #[.string (nm s)] ?x30 (HVAL.out _) ?_
  case x30 => (simp [go_sem])
  (try simp only [Act.put, List.setIfInBounds_toArray, List.set_cons_zero, List.set_cons_succ])
  rintro e w1 ⟨rfl, hb1⟩
  have hS1 : w1.heap[w.heap.size]? = some (Obj.cells #[.int .i64 1, .int .i64 x.k, .slice A x.next.length c, .slice (some ad) x.acc.length d, .int .i64 k2, s4, s5] 77 (0, 0)) ∧ w1.cell? (ad.add s) = some (.bool b) ∧ Below w.heap.size w w1 := ⟨hp_below' hb1 hS.1, (hb1.cell (World.block_lt_of_cell? _ _ hS.2.1)).trans hS.2.1, bl_then hS.2.2 hb1⟩
  refine ⟨_, rfl, hS1, ?_⟩
  (try simp only [Act.put, List.setIfInBounds_toArray, List.set_cons_zero, List.set_cons_succ])
  refine any_take (i := 5) (v := ?v34) rfl (by kernel_rfl) (by kernel_rfl) (by kernel_rfl) (fun _ _ _ h => h) hS1 (.inl ⟨by rfl, ?y34⟩) ?_
  case y34 => (intro w' h'; go_simp; with_reducible rfl)
  (try simp only [Act.put, List.setIfInBounds_toArray, List.set_cons_zero, List.set_cons_succ])
  refine any_take (i := 6) (v := (.bool b)) rfl (by kernel_rfl) (by kernel_rfl) (by kernel_rfl) (fun _ _ _ h => h) hS1 (yi_cell _ _ rfl (by rfl) (ad.add s) rfl _ Try.underlying4 rfl (fun w' h' => h'.2.1)) ?_
  (try simp only [Act.put, List.setIfInBounds_toArray, List.set_cons_zero, List.set_cons_succ])
  refine any_take (i := 7) (v := ?v37) rfl (by kernel_rfl) (by kernel_rfl) (by kernel_rfl) (fun _ _ _ h => h) hS1 (.inl ⟨by rfl, ?y37⟩) ?_
  case y37 => (intro w' h'; go_simp; with_reducible rfl)
  (try simp only [Act.put, List.setIfInBounds_toArray, List.set_cons_zero, List.set_cons_succ])
  refine wpAnyH_done (by kernel_rfl) ?_ _
  have HF := Lib.hid hS1.2.2
  clear hS hS0 hS1 hb1
  go_wp2
  go_ret
  exact ⟨rfl, HF.out⟩
end Go.Proofs.Ytjckidjljkjhfaa

namespace Go.Proofs.Ytjckidjljkjhfaa
open Go.RowKit Go.Proofs.YtjckidjljkjhfaaW.PrintWords
set_option linter.unusedSimpArgs false
set_option linter.unusedVariables false
theorem st_sp_new {ops : Array Oper} {rest : List Oper} {o : Oper} {a : Act} {w : World} {Q : Exit → Act → World → Prop} {kd k k2 : Int} {s1 s2 s4 s5 : Value} {cs : Array Value} (p q : Operand) (ho : o.op = .store 77 p q) (hgd : o.guard = none)
    (hx : a.eval p = .pointer (some ⟨w.heap.size, 0, none⟩)) (hy : a.eval q = .agg #[.int .i64 kd, .int .i64 k, s1, s2, .int .i64 k2, s4, s5]) (hone : s1.oneCell' = true ∧ s2.oneCell' = true ∧ s4.oneCell' = true ∧ s5.oneCell' = true) (hc : cs.size = 7) (h : wpList Try.prog ops Q rest (a.put o.dst undef) (w.alloc (.cells #[.int .i64 kd, .int .i64 k, s1, s2, .int .i64 k2, s4, s5] 77))) : wpList Try.prog ops Q (o :: rest) a (w.alloc (.cells cs 77)) :=
  wpList_store_row hgd 77 p q ho w.heap.size _ hx hy 77 cs (hp_new rfl) (sp_z kd k k2 s1 s2 s4 s5) hc (by obtain ⟨h1, h2, h4, h5⟩ := hone; simp [h1, h2, h4, h5]; exact ⟨rfl, rfl, rfl⟩) (by rw [World.setRow_alloc_new]; exact h)
set_option maxRecDepth 100000 in
set_option maxHeartbeats 800000 in
theorem rreach_any (x : AutV) (A : Option Addr) (c : Nat) (B : Option Addr) (d : Nat) (hz : AutSz x c d) (w : World) (hr : ARd w x A B) :
    Calls Try.prog 25 #[.agg (ac x A c B d)] w fun e w' => ∃ vn va, e = .returned (.tuple #[.agg #[.int .i64 (fromV x 0 (fun s => rdOf false x.acc (s : Int))).k, vn, va], .int .i64 (autE x)]) ∧
      Own w' w.heap.size vn (fromV x 0 (fun s => rdOf false x.acc (s : Int))).next ∧ Kd.R Kd.bool 4 w' w.heap.size (fun _ => True) va (fromV x 0 (fun s => rdOf false x.acc (s : Int))).acc ∧ Below w.heap.size w w' := by
  have HR := Aside0.mk hr
  have h00 := ((Hp.start w).alloc (AB x A c B d)).alloc (.cells #[.int .i64 0, .slice none 0 0, .slice none 0 0] 25)
  rw [World.size_alloc] at h00
  have H0 := Lib.hid h00
  clear h00
  have CK := Aside0.mk (rcheck8_any x A c B d hz ((w.alloc (AB x A c B d)).alloc (.cells #[.int .i64 0, .slice none 0 0, .slice none 0 0] 25)) (hr.below H0.out.2))
  by_cases h0 : autE x = 0
  · have hx := autE_is h0
    have hkk : ((x.k.toNat : Nat) : Int) = x.k := by have := hx.1; omega
    have FR := fun (W : World) (H : Below w.heap.size w W) => rsearch_any nm 1 x.k.toNat (by have := hx.1; omega) (by have := hx.2.1; omega) (.slice A x.next.length c) (.slice B x.acc.length d) (.slice none 0 0) (.slice none 0 0) 0 0 (stp x) 0 (fun s => rdOf false x.acc (s : Int)) W
      ⟨rfl, rfl, rfl, rfl⟩ (fun m s hs t ht he => nm_inj (by have := stp_all hx (by have := hx.2.2.1; omega) m s hs; have := hx.2.2.2.1; omega) (by have := stp_all hx (by have := hx.2.2.1; omega) m t ht; have := hx.2.2.2.1; omega) he)
      (fun W' _ => rstart1_any _ 0 _ _ _ _ W')
      (fun s m l hs hl W' hb => by rw [hkk]; exact rstep1_any x A c B d 0 _ _ hx s l (stp_all hx (by have := hx.2.2.1; omega) m s hs) (by omega) W' ((HR.out.below H).below hb))
      (fun s m hs W' hb => by rw [hkk]; exact rgood1_any x A c B d 0 0 _ _ s (stp_all hx (by have := hx.2.2.1; omega) m s hs) hx.2.2.2.1 W' ((HR.out.below H).below hb))
    rw [sr_small hx (by have := hx.2.2.1; omega), hkk] at FR
    have FR := Aside0.mk FR
    have hV : fromV x 0 (fun s => rdOf false x.acc (s : Int)) = srV x.k.toNat (stp x) 0 (fun s => rdOf false x.acc (s : Int)) := by unfold fromV; rw [if_pos h0]
    rw [hV]
    rw [h0] at CK ⊢
    generalize srV x.k.toNat (stp x) 0 (fun s => rdOf false x.acc (s : Int)) = V at *
    clear hV hx hr h0 hkk hz
    go_enter Try.func25, Try.ntmps25
    go_wp2_with (refine ld_au _ rfl w.heap.size rfl (H0.out.at 1 rfl) rfl ?_)
    refine CK.out.mono ?_
    rintro e w1 ⟨rfl, hb⟩
    have H1 := Lib.hid (H0.out.keep hb)
    have H2 := Lib.hid (H1.out.alloc (.cells #[.int .i64 1, .int .i64 x.k, .slice A x.next.length c, .slice B x.acc.length d, .int .i64 0, .slice none 0 0, .slice none 0 0] 77))
    clear hb CK H0
    go_wp2_with (first | ((with_reducible refine gate_ld (t := 25) rfl ?_); refine ld_au _ rfl w.heap.size rfl (H1.out.at 1 rfl) rfl ?_) | ((with_reducible refine gate_st (t := 77) rfl ?_); refine st_sp_new (kd := 1) (k := x.k) (k2 := 0) (s1 := .slice A x.next.length c) (s2 := .slice B x.acc.length d) (s4 := .slice none 0 0) (s5 := .slice none 0 0) _ _ rfl rfl rfl rfl ⟨rfl, rfl, rfl, rfl⟩ rfl ?_) | ((with_reducible refine gate_ld (t := 77) rfl ?_); refine ld_sp (kd := 1) (k := x.k) (k2 := 0) (s1 := .slice A x.next.length c) (s2 := .slice B x.acc.length d) (s4 := .slice none 0 0) (s5 := .slice none 0 0) _ rfl w1.heap.size rfl (H2.out.at 0 rfl) rfl ?_))
    refine (FR.out _ H2.out.2).mono ?_
    rintro e w3 ⟨vn, va, rfl, hn, ha, hb⟩
    obtain ⟨An, cn, rfl⟩ := Kd.R_slice hn
    obtain ⟨Aa, ca, rfl⟩ := Kd.R_slice ha
    have H3 := Lib.hid (H2.out.keep hb)
    have HS := Lib.hid (show w3.heap[w.heap.size + 1]? = some (.cells #[.int .i64 0, .slice none 0 0, .slice none 0 0] 25 (0, 0)) from H3.out.at 1 rfl)
    have HN := Aside0.mk (Kd.R_lower hn H2.out.2.size)
    have HA := Aside0.mk (Kd.R_lower ha H2.out.2.size)
    clear hn ha hb FR H1 H2
    go_wp2_with ((with_reducible refine gate_st (t := 25) rfl ?_); refine wpList_store_row rfl 25 _ _ rfl (w.heap.size + 1) (ac V An cn Aa ca) rfl rfl 25 _ HS.out (by show _ = some 3; kernel_rfl) rfl (by simp [Value.oneCell']) ?_)
    refine bodyPost_ret (v := .tuple #[.agg (ac V An cn Aa ca), .int .i64 0]) ?_ rfl ⟨_, _, rfl, own_rowT HS.out HN.out (by decide) rfl _, own_rowT HS.out HA.out (by decide) rfl _, bl_row H3.out.2 (by omega) _⟩
    refine (results_cell_tmp (p := 2) (t := 3) (by rfl) _ _ (w.heap.size + 1) 25 _ _ _ ?_ (setRow_heap _ _ _ _ _ _ HS.out) Try.underlying25 rfl (by show _ = some 3; kernel_rfl)).trans ?_ <;> rfl
  · have h80 : autE x = 80 := autE_no (fun h => h0 (autE_ok h))
    have hV : fromV x 0 (fun s => rdOf false x.acc (s : Int)) = noV := by unfold fromV; rw [if_neg h0]
    rw [hV]
    rw [h80] at CK ⊢
    clear hV hr h0 h80
    go_enter Try.func25, Try.ntmps25
    go_wp2_with (refine ld_au _ rfl w.heap.size rfl (H0.out.at 1 rfl) rfl ?_)
    refine CK.out.mono ?_
    rintro e w1 ⟨rfl, hb⟩
    have H1 := Lib.hid (H0.out.keep hb)
    have HS := Lib.hid (show w1.heap[w.heap.size + 1]? = some (.cells #[.int .i64 0, .slice none 0 0, .slice none 0 0] 25 (0, 0)) from H1.out.at 0 rfl)
    clear hb CK H0
    go_wp2_with ((with_reducible refine gate_st (t := 25) rfl ?_); refine wpList_store_row rfl 25 _ _ rfl (w.heap.size + 1) #[.int .i64 0, .slice none 0 0, .slice none 0 0] rfl rfl 25 _ HS.out (by show _ = some 3; kernel_rfl) rfl (by simp [Value.oneCell']) ?_)
    refine bodyPost_ret (v := .tuple #[.agg #[.int .i64 0, .slice none 0 0, .slice none 0 0], .int .i64 80]) ?_ rfl ⟨_, _, rfl, Kd.R_nil _ _ _ _ _, Kd.R_nil _ _ _ _ _, bl_row H1.out.2 (by omega) _⟩
    refine (results_cell_tmp (p := 2) (t := 3) (by rfl) _ _ (w.heap.size + 1) 25 _ _ _ ?_ (setRow_heap _ _ _ _ _ _ HS.out) Try.underlying25 rfl (by show _ = some 3; kernel_rfl)).trans ?_ <;> rfl
/-- The first i of a list turned about. -/
def flp (l : List Bool) (i : Nat) : List Bool := (l.take i).map (fun b => !b) ++ l.drop i
theorem flp_len (l : List Bool) (i : Nat) : (flp l i).length = l.length := by simp [flp]; omega
theorem flp_zero (l : List Bool) : flp l 0 = l := by simp [flp]
theorem flp_end (l : List Bool) : flp l l.length = l.map (fun b => !b) := by simp [flp]
theorem flp_get (l : List Bool) (i : Nat) (h : i < l.length) : (flp l i).getD i false = l.getD i false := by
  simp [flp, List.getD_eq_getElem?_getD, List.getElem?_append_right, Nat.min_eq_left (Nat.le_of_lt h)]
theorem flp_set (l : List Bool) (i : Nat) (h : i < l.length) : (flp l i).set i (!l.getD i false) = flp l (i + 1) := by
  apply List.ext_getElem (by simp [flp]; omega)
  intro j h1 h2
  have hj : j < l.length := by rw [List.length_set, flp_len] at h1; exact h1
  simp only [flp, List.getElem_set, List.getElem_append, List.length_map, List.length_take, List.getElem_map, List.getElem_take, List.getElem_drop]
  by_cases e : i = j
  · subst e
    simp [Nat.min_def, h, List.getD_eq_getElem?_getD, show i + 1 ≤ l.length by omega]
  · rw [if_neg e]
    by_cases hlt : j < i
    · rw [dif_pos (by omega), dif_pos (by omega)]
    · rw [dif_neg (by omega), dif_neg (by omega)]
      congr 1
      omega
theorem fromV_not (x : AutV) (good : Nat → Bool) : (fromV x 0 (fun s => !good s)).k = (fromV x 0 good).k ∧ (fromV x 0 (fun s => !good s)).next = (fromV x 0 good).next ∧ (fromV x 0 (fun s => !good s)).acc = (fromV x 0 good).acc.map (fun b => !b) := by
  unfold fromV srV
  split
  · split
    · refine ⟨rfl, rfl, ?_⟩
      simp
    · exact ⟨rfl, rfl, rfl⟩
  · exact ⟨rfl, rfl, rfl⟩
set_option maxRecDepth 100000 in
set_option maxHeartbeats 800000 in
theorem rnot_any (x : AutV) (A : Option Addr) (c : Nat) (B : Option Addr) (d : Nat) (hz : AutSz x c d) (w : World) (hr : ARd w x A B) :
    Calls Try.prog 27 #[.agg (ac x A c B d)] w fun e w' => ∃ vn va, e = .returned (.tuple #[.agg #[.int .i64 (fromV x 0 (fun s => !rdOf false x.acc (s : Int))).k, vn, va], .int .i64 (autE x)]) ∧
      Own w' w.heap.size vn (fromV x 0 (fun s => !rdOf false x.acc (s : Int))).next ∧ Kd.R Kd.bool 4 w' w.heap.size (fun _ => True) va (fromV x 0 (fun s => !rdOf false x.acc (s : Int))).acc ∧ Below w.heap.size w w' := by
  obtain ⟨f1, f2, f3⟩ := fromV_not x (fun s => rdOf false x.acc (s : Int))
  rw [f1, f2, f3]
  have h00 := ((Hp.start w).alloc (AB x A c B d)).alloc (.cells #[.int .i64 0, .slice none 0 0, .slice none 0 0] 25)
  rw [World.size_alloc] at h00
  have H0 := Lib.hid h00
  clear h00
  have RC := Aside0.mk (rreach_any x A c B d hz ((w.alloc (AB x A c B d)).alloc (.cells #[.int .i64 0, .slice none 0 0, .slice none 0 0] 25)) (hr.below H0.out.2))
  have hvl : (fromV x 0 (fun s => rdOf false x.acc (s : Int))).acc.length ≤ 4096 := by
    unfold fromV
    split
    · unfold srV
      split
      · rw [List.length_map]; assumption
      · exact Nat.zero_le _
    · exact Nat.zero_le _
  generalize fromV x 0 (fun s => rdOf false x.acc (s : Int)) = V at *
  generalize autE x = E at *
  clear f1 f2 f3 hr hz
  go_enter Try.func27, Try.ntmps27
  go_wp2_with (refine ld_au _ rfl w.heap.size rfl (H0.out.at 1 rfl) rfl ?_)
  refine RC.out.mono ?_
  rintro e w1 ⟨vn, va, rfl, hn, ha, hb⟩
  obtain ⟨An, cn, rfl⟩ := Kd.R_slice hn
  obtain ⟨Aa, ca, rfl⟩ := Kd.R_slice ha
  have H1 := Lib.hid ((H0.out.keep hb).alloc (AB V An cn Aa ca))
  have HN := Aside0.mk (Kd.R_alloc (Kd.R_lower hn H0.out.2.size) (AB V An cn Aa ca))
  have HA := Aside0.mk (Kd.R_alloc (Kd.R_lower ha H0.out.2.size) (AB V An cn Aa ca))
  clear hn ha hb RC H0
  go_wp2_with ((with_reducible refine gate_st (t := 25) rfl ?_); refine st_au_new (y := V) (A := An) (c := cn) (B := Aa) (d := ca) _ _ rfl rfl rfl rfl rfl ?_)
  go_loopw [6] (fun i wr => ∃ q : Nat, q ≤ V.acc.length ∧ i = .int .i64 q ∧ Hid (Hp [(w1.heap.size, AB V An cn Aa ca), (w.heap.size + 1, .cells #[.int .i64 0, .slice none 0 0, .slice none 0 0] 25)] w wr) ∧ Hid (Own wr w.heap.size (.slice An V.next.length cn) V.next) ∧ Hid (Kd.R Kd.bool 4 wr w.heap.size (fun _ => True) (.slice Aa V.acc.length ca) (flp V.acc q))) (fun i _ => V.acc.length - (intOf i).toNat)
  case atStart => exact ⟨0, Nat.zero_le _, rfl, Lib.hid ⟨fun p hp => H1.out.1 p (by simp only [List.mem_cons, List.not_mem_nil, or_false] at hp ⊢; rcases hp with rfl | rfl <;> simp), H1.out.2⟩, Lib.hid HN.out, Lib.hid (by rw [flp_zero]; exact HA.out)⟩
  case round =>
    obtain ⟨i, hi, rfl, HH, HO, HB⟩ := hrel
    have c2 : wr.cell? ⟨w1.heap.size, 2, none⟩ = some (.slice Aa V.acc.length ca) := by rw [cell_of_row _ _ _ _ _ _ (HH.out.at 0 rfl)]; rfl
    clear H1 HN HA
    by_cases hil : i < V.acc.length
    · have hfl : (flp V.acc i).length = V.acc.length := flp_len _ _
      obtain ⟨g, cg, hAe, hg1, hg2, hg3⟩ := own_form false HB.out (by omega)
      injection hAe with hA1 hA3 hA2
      subst hA1
      subst hA2
      obtain ⟨q1, q2⟩ := hg3 i (by omega)
      rw [flp_get V.acc i hil] at q1
      obtain ⟨b, hbb⟩ : ∃ b, b = V.acc.getD i false := ⟨_, rfl⟩
      rw [← hbb] at q1
      have hne : g ≠ w1.heap.size := fun he => Kd.R_ne HB.out (HH.out.at 0 rfl) (by decide) (by rw [he]; rfl)
      have hput := Kd.R_putn HB.out (i : Int) (!b)
      rw [Int.toNat_natCast, hbb, flp_set V.acc i hil, ← hbb] at hput
      have HPT := Lib.hid hput
      have HNE := Lib.hid hne
      have HBB := Lib.hid hbb
      have hH2 : Hp [(w1.heap.size, AB V An cn (some ⟨g, 0, none⟩) ca), (w.heap.size + 1, .cells #[.int .i64 0, .slice none 0 0, .slice none 0 0] 25)] w (wr.setCell ⟨g, i, none⟩ (.bool !b)).drew := by
        refine ⟨fun p hp => ?_, (bl_cell HH.out.2 (show w.heap.size ≤ (⟨g, i, none⟩ : Addr).block from hg1) _).drew⟩
        have hold := HH.out.1 p hp
        refine (heap_setCell_other wr ⟨g, i, none⟩ p.1 (.bool !b) (fun e => ?_)).trans hold
        simp only [List.mem_cons, List.not_mem_nil, or_false] at hp
        rcases hp with rfl | rfl
        · exact hne e.symm
        · exact Kd.R_ne HB.out (HH.out.at 1 rfl) (by decide) (by simp only at e; rw [e]; rfl)
      have HH2 := Lib.hid hH2
      have HO2 := Lib.hid (Kd.R_drewN (own_cellS (W := wr) HO.out (sep_type HO.out HB.out (by decide)) rfl i (.bool !b)) 1)
      clear hput hne hbb hg3 hfl hA3 hH2
      go_wp2
      go_region
      go_wp2
      go_roundw
      case rel => exact ⟨i + 1, by omega, by go_num, HH2, HO2, Lib.hid (Kd.R_drewN HPT.out 1)⟩
      case measure => simp [intOf]; omega
    · have hie : i = V.acc.length := by omega
      have HB2 : Hid (Kd.R Kd.bool 4 wr w.heap.size (fun _ => True) (.slice Aa V.acc.length ca) (V.acc.map fun b => !b)) := Lib.hid (by have := HB.out; rw [hie, flp_end] at this; exact this)
      have HS := Lib.hid (HH.out.at 1 rfl)
      clear hie HB
      go_wp2_with (first | ((with_reducible refine gate_ld (t := 25) rfl ?_); refine ld_au (y := V) (A := An) (c := cn) (B := Aa) (d := ca) _ rfl w1.heap.size rfl (HH.out.at 0 rfl) rfl ?_) | ((with_reducible refine gate_st (t := 25) rfl ?_); refine wpList_store_row rfl 25 _ _ rfl (w.heap.size + 1) (ac V An cn Aa ca) rfl rfl 25 _ HS.out (by show _ = some 3; kernel_rfl) rfl (by simp [Value.oneCell']) ?_))
      refine bodyPost_ret (v := .tuple #[.agg (ac V An cn Aa ca), .int .i64 E]) ?_ rfl ⟨_, _, rfl, own_rowT HS.out HO.out (by decide) rfl _, own_rowT HS.out HB2.out (by decide) rfl _, bl_row HH.out.2 (by omega) _⟩
      refine (results_cell_tmp (p := 2) (t := 3) (by rfl) _ _ (w.heap.size + 1) 25 _ _ _ ?_ (setRow_heap _ _ _ _ _ _ HS.out) Try.underlying25 rfl (by show _ = some 3; kernel_rfl)).trans ?_ <;> rfl
end Go.Proofs.Ytjckidjljkjhfaa

namespace Go.Proofs.Ytjckidjljkjhfaa
open Go.RowKit Go.Proofs.YtjckidjljkjhfaaW.PrintWords
set_option linter.unusedSimpArgs false
set_option linter.unusedVariables false
theorem info_u8 : (Try.prog.info? 5).map (fun i => (i.zero, i.size, i.bytes)) = some (some (.int .u8 0), 1, 1) := by kernel_rfl
/-- Where Least stands between its two appends. -/
structure LeT (x : AutV) (k : Nat) (A : Option Addr) (c : Nat) (B : Option Addr) (d : Nat) (w wr : World) (mb mc : Nat) (v u : Value) (L : List Nat) (Ws : List (List Nat)) (m2 : Nat) : Prop where
  box : wr.heap[w.heap.size]? = some (AB x A c B d)
  met : Kd.R Kd.bool 4 wr w.heap.size (fun _ => True) (.slice (some ⟨mb, 0, none⟩) x.acc.length mc) (mtl x k m2)
  lst : Kd.R natK 3 wr w.heap.size (fun _ => True) v L
  wds : Kd.R wdK 9 wr w.heap.size (fun _ => True) u Ws
  bel : Below w.heap.size w wr
  mbb : w.heap.size ≤ mb
section
variable {x : AutV} {k : Nat} {A : Option Addr} {c : Nat} {B : Option Addr} {d : Nat} {w wr w1 : World} {mb mc : Nat} {v u v1 : Value} {m m2 : Nat} {L : List Nat} {Ws : List (List Nat)}
theorem LeS.lstep (h : LeS x k A c B d w wr mb mc v u m m2) {s : Nat} (hs : bs k (stp x) 0 m2 = bs k (stp x) 0 m ++ [s]) (ho : Kd.R natK 3 w1 w.heap.size (fun _ => True) v1 (bs k (stp x) 0 m ++ [s])) (hb : Below w.heap.size w w1) (ha : App wr w1 v v1) :
    LeT x k A c B d w w1 mb mc v1 u (bs k (stp x) 0 m2) (bw k (stp x) 0 m) m2 :=
  ⟨ha.cells h.box h.lst (by decide), (ha.own rfl h.met (sep_type h.met h.lst (by decide))).1, by rw [hs]; exact ho, (ha.own rfl h.wds (sep_type h.wds h.lst (by decide))).1, hb, h.mbb⟩
theorem LeT.drewN (h : LeT x k A c B d w wr mb mc v u L Ws m2) (n : Nat) : LeT x k A c B d w (wr.drewN n) mb mc v u L Ws m2 := ⟨h.box, Kd.R_drewN h.met n, Kd.R_drewN h.lst n, Kd.R_drewN h.wds n, bl_drewN h.bel n, h.mbb⟩
theorem LeT.drew (h : LeT x k A c B d w wr mb mc v u L Ws m2) : LeT x k A c B d w wr.drew mb mc v u L Ws m2 := h.drewN 1
theorem LeT.box1 (h : LeT x k A c B d w wr mb mc v u L Ws m2) (o : Obj) : LeT x k A c B d w (wr.alloc o) mb mc v u L Ws m2 :=
  ⟨hp_old h.box, Kd.R_grown h.met (World.grownBy_alloc wr o none) (fun _ _ => by simp), Kd.R_grown h.lst (World.grownBy_alloc wr o none) (fun _ _ => by simp), Kd.R_grown h.wds (World.grownBy_alloc wr o none) (fun _ _ => by simp), bl_alloc h.bel o, h.mbb⟩
theorem LeT.wstep (h : LeT x k A c B d w wr mb mc v u (bs k (stp x) 0 m2) (bw k (stp x) 0 m) m2) {wd : List Nat} (hs : bw k (stp x) 0 m2 = bw k (stp x) 0 m ++ [wd]) (ho : Kd.R wdK 9 w1 w.heap.size (fun _ => True) v1 (bw k (stp x) 0 m ++ [wd])) (hb : Below w.heap.size w w1) (ha : App wr w1 u v1) :
    LeS x k A c B d w w1 mb mc v v1 m2 m2 :=
  ⟨ha.cells h.box h.wds (by decide), (ha.own rfl h.met (sep_type h.met h.wds (by decide))).1, (ha.own rfl h.lst (sep_type h.lst h.wds (by decide))).1, by rw [hs]; exact ho, hb, h.mbb⟩
end
set_option maxRecDepth 100000 in
set_option maxHeartbeats 1600000 in
theorem rleast_any (x : AutV) (A : Option Addr) (c : Nat) (B : Option Addr) (d : Nat) (hz : AutSz x c d) (w : World) (hr : ARd w x A B) :
    Calls Try.prog 23 #[.agg (ac x A c B d)] w fun e w' => e = .returned (.tuple #[.string (lstS x), .bool (lstB x), .int .i64 (autE x)]) ∧ Below w.heap.size w w' := by
  have HR := Aside0.mk hr
  have h00 := (Hp.start w).alloc (AB x A c B d)
  have H0 := Lib.hid h00
  clear h00
  have CK := Aside0.mk (rcheck8_any x A c B d hz (w.alloc (AB x A c B d)) (hr.below H0.out.2))
  by_cases h0 : autE x = 0
  · have hx := autE_is h0
    have HX := Lib.hid hx
    have eS : lstS x = wb ((lstO x).getD []) := by unfold lstS; rw [if_pos h0]
    have eB : lstB x = (lstO x).isSome := by unfold lstB; rw [if_pos h0]
    rw [eS, eB]
    rw [h0] at CK ⊢
    obtain ⟨hk1, hk2, hn1, hn2, hnl, hn6⟩ := hx
    obtain ⟨k, hk⟩ : ∃ k : Nat, x.k = (k : Int) := Int.eq_ofNat_of_zero_le (by omega)
    have HK := Lib.hid hk
    have hkn : x.k.toNat = k := by omega
    have HKN := Lib.hid hkn
    clear eS eB h0 hr hnl hkn hn6 hz
    go_enter Try.func23, Try.ntmps23
    go_wp2_with (refine ld_au _ rfl w.heap.size rfl (H0.out.at 0 rfl) rfl ?_)
    refine CK.out.mono ?_
    rintro e w1 ⟨rfl, hb⟩
    have H1 := Lib.hid (H0.out.keep hb)
    clear hb CK H0
    have c2 : w1.cell? ⟨w.heap.size, 2, none⟩ = some (.slice B x.acc.length d) := by rw [cell_of_row _ _ _ _ _ _ (H1.out.at 0 rfl)]; rfl
    go_wp2_with (refine Kd.R_make Kd.bool (w0 := w) w.heap.size 4 rfl rfl 23 _ _ rfl (x.acc.length : Int) rfl rfl Try.underlying23 (.bool false) 1 info_bool rfl (by decide) (by decide) false (ok := fun _ => True) (okp := fun _ => False) rfl (fun _ h => h.elim) trivial (by omega) (by omega) H1.out.2 H1.out.2.size ?_)
    rintro v1 w2 hm hb hg b0 hb1 hb2
    obtain ⟨mb, mc, rfl, hmb, hmbs, hmcell⟩ := own_form false hm (by rw [List.length_replicate]; omega)
    obtain ⟨q1, q2⟩ := hmcell 0 (by rw [List.length_replicate]; omega)
    have hput := (Kd.R_put hm 0 true).1
    rw [Int.toNat_zero, mtl_zero x k] at hput
    have hmt : (List.replicate x.acc.length false).length = x.acc.length := by simp
    rw [hmt] at hput
    have hlen : (List.replicate x.acc.length false).length = x.acc.length := by simp
    have HPT := Lib.hid hput
    have hbx : w2.heap[w.heap.size]? = some (AB x A c B d) := (hg.block _ (hp_lt (H1.out.at 0 rfl)) (by simp)).trans (H1.out.at 0 rfl)
    have hmne : mb ≠ w.heap.size := fun he => by
      have := Kd.R_ne hm hbx (by decide)
      exact this (by rw [he]; rfl)
    have HBX := Lib.hid (show (w2.setCell ⟨mb, 0, none⟩ (.bool true)).heap[w.heap.size]? = some (AB x A c B d) from (heap_setCell_other _ _ _ _ (fun e => hmne e.symm)).trans hbx)
    have HBL := Lib.hid (bl_cell hb (show w.heap.size ≤ (⟨mb, 0, none⟩ : Addr).block from hmb) (.bool true))
    have q3 : ((0 : Int) < ((List.replicate x.acc.length false).length : Int)) := by rw [hlen]; omega
    rw [hlen]
    clear hput hg hb hm hmcell hbx hmne c2 H1 hb1 hb2 b0
    go_wp2
    have hz3 : (w2.setCell ⟨mb, 0, none⟩ (.bool true)).heap.size = w2.heap.size := by simp
    have HZ3 := Lib.hid hz3
    clear hz3
    generalize w2.setCell ⟨mb, 0, none⟩ (.bool true) = w3 at *
    have SI : Hid (LeS x k A c B d w ((w3.alloc (.cells #[.int .i64 0] 3)).alloc (.cells #[.string ByteArray.empty] 9)) mb mc (.slice (some ⟨w3.heap.size, 0, none⟩) 1 1) (.slice (some ⟨w3.heap.size + 1, 0, none⟩) 1 1) (0 * k) (0 * k)) := by
      rw [Nat.zero_mul]
      have e0 : bs k (stp x) 0 0 = [0] := rfl
      have e1 : bw k (stp x) 0 0 = [[]] := rfl
      have g1 := World.grownBy_alloc w3 (.cells #[.int .i64 0] 3) none
      have g2 := World.grownBy_alloc (w3.alloc (.cells #[.int .i64 0] 3)) (.cells #[.string ByteArray.empty] 9) none
      refine ⟨hp_old (hp_old HBX.out), Kd.R_grown (Kd.R_grown HPT.out g1 (fun _ _ => by simp)) g2 (fun _ _ => by simp), ?_, ?_, bl_alloc (bl_alloc HBL.out _) _, hmb⟩
      · rw [e0]
        refine Kd.R_of_own ⟨by simp [encs], .inr ⟨w3.heap.size, 1, _, rfl, HBL.out.size, hp_old (hp_new rfl), Nat.le_refl _, by unfold maxLen; omega, rfl, rfl⟩⟩ (fun _ _ => trivial)
      · rw [e1]
        refine Kd.R_of_own ⟨by simp [encs], .inr ⟨w3.heap.size + 1, 1, _, rfl, by have := HBL.out.size; omega, by rw [← World.size_alloc w3 (.cells #[.int .i64 0] 3)]; exact hp_new rfl, Nat.le_refl _, by unfold maxLen; omega, rfl, rfl⟩⟩ (fun _ _ => trivial)
    rw [HZ3.out] at SI
    have hk0 : 0 < k := by omega
    have HD : Hid (∀ m, ∀ s ∈ bs k (stp x) 0 m, s < x.acc.length) := Lib.hid (fun m => bs_all hk0 (fun s => s < x.acc.length) (by omega) (fun s c hs hc => (stp_lt HX.out hs (by omega)).1) m)
    have HLN : Hid (∀ m, (bs k (stp x) 0 m).length ≤ x.acc.length) := Lib.hid (fun m => nodup_le (bs_nodup m) (HD.out m))
    have HFE : Hid (∀ n, Closed k (stp x) 0 n → lstO x = fnd k (stp x) 0 (gdA x) n) := Lib.hid (fun n hn => by
      unfold lstO
      rw [HKN.out]
      refine fnd_stay hk0 _ hn ?_
      have h1 := HLN.out (n * k)
      rw [bs_len, hn] at h1
      omega)
    clear HBX HPT HBL hmb hmbs q1 q2 q3 hmt hlen
    go_loopw [7, 8, 9] (fun v u i wr => ∃ q : Nat, i = .int .i64 q ∧ Hid (q ≤ (bs k (stp x) 0 (q * k)).length) ∧ Hid (∀ j, j < q → ∀ s, (bs k (stp x) 0 (q * k))[j]? = some s → gdA x s = false) ∧ Hid (LeS x k A c B d w wr mb mc v u (q * k) (q * k))) (fun _ _ i _ => 4097 - (intOf i).toNat)
    case atStart => exact ⟨0, rfl, Lib.hid (Nat.zero_le _), Lib.hid (fun j hj => absurd hj (Nat.not_lt_zero j)), SI⟩
    case round =>
      obtain ⟨i, rfl, HQ, HN, H⟩ := hrel
      have hq := HQ.out
      have hql := HLN.out (i * k)
      obtain ⟨lb, lc, rfl, hlb, hlbs, hlcell⟩ := own_form (0 : Nat) H.out.lst (by rw [bs_len]; exact bw_len_pos _)
      obtain ⟨ub, uc, rfl, hub, hubs, hucell⟩ := own_form ([] : List Nat) H.out.wds (bw_len_pos _)
      by_cases hil : i < (bs k (stp x) 0 (i * k)).length
      · have hil2 : i < (bw k (stp x) 0 (i * k)).length := by rw [← bs_len]; exact hil
        obtain ⟨wd, hwd⟩ : ∃ wd, (bw k (stp x) 0 (i * k))[i]? = some wd := ⟨_, List.getElem?_eq_getElem hil2⟩
        obtain ⟨s, hs⟩ : ∃ s, s = rn (stp x) 0 wd := ⟨_, rfl⟩
        have hbs : (bs k (stp x) 0 (i * k))[i]? = some s := by rw [bs_get, hwd, hs]; rfl
        have hsd := HD.out _ s (List.mem_of_getElem? hbs)
        have cl1 := (hlcell i hil).1
        rw [List.getD_eq_getElem?_getD, hbs] at cl1
        replace cl1 : wr.cell? ⟨lb, i, none⟩ = some (.int .i64 (s : Int)) := cl1
        have cu1 := (hucell i hil2).1
        rw [List.getD_eq_getElem?_getD, hwd] at cu1
        replace cu1 : wr.cell? ⟨ub, i, none⟩ = some (.string (wb wd)) := cu1
        have c2 : wr.cell? ⟨w.heap.size, 2, none⟩ = some (.slice B x.acc.length d) := by rw [cell_of_row _ _ _ _ _ _ H.out.box]; rfl
        obtain ⟨ad, hB, hcell⟩ := Kd.at_bool (HR.out.below H.out.bel).acc (s : Int) (by omega) (by omega)
        rw [Int.toNat_natCast] at hcell
        obtain ⟨b, hb⟩ : ∃ b, b = gdA x s := ⟨_, rfl⟩
        replace hcell : wr.cell? (ad.add s) = some (.bool b) := by rw [hb]; exact hcell
        have HWD := Lib.hid hwd; have HS := Lib.hid hs; have HBS := Lib.hid hbs; have HBB := Lib.hid hb
        have hull : (bw k (stp x) 0 (i * k)).length = (bs k (stp x) 0 (i * k)).length := (bs_len _).symm
        rw [hull] at hil2 ⊢
        have HANS : Hid (b = false ∨ lstO x = some wd) := Lib.hid (by
          by_cases hbf : b = false
          · exact .inl hbf
          have hbt : b = true := by simpa using hbf
          right
          obtain ⟨n, _, hn⟩ := closed_of HLN.out
          rw [HFE.out n hn]
          refine fnd_at hk0 hn (m := i * k) hwd (by rw [← hs, ← hb]; exact hbt) (fun j hj u hu => HN.out j hj _ ?_)
          rw [bs_get, hu]; rfl)
        clear hwd hs hbs hb hlcell hucell
        generalize hL : (bs k (stp x) 0 (i * k)).length = L at *
        have HL := Lib.hid hL
        clear hL
        subst hB
        cases b
        · have c0 : wr.cell? ⟨w.heap.size, 0, none⟩ = some (.int .i64 (k : Int)) := by rw [cell_of_row _ _ _ _ _ _ H.out.box, ← HK.out]; rfl
          go_wp2
          go_quiet (fail)
          have G := Lib.hid (H.out.drewN nq)
          go_wp2
          generalize wr.drewN nq = w5 at *
          rw [hull] at G
          clear c0 c2 cl1 cu1 hcell H
          go_loopw [7, 8, 10] (fun v u l wi => ∃ c' : Nat, c' ≤ k ∧ l = .int .i64 c' ∧ Hid (LeS x k A c (some ad) d w wi mb mc v u (i * k + c') (i * k + c'))) (fun _ _ l _ => k - (intOf l).toNat)
          case atStart => exact ⟨0, by omega, rfl, G⟩
          case round =>
            obtain ⟨c', hc, rfl, G⟩ := hrel
            by_cases hck : c' < k
            · have hwq : (bw k (stp x) 0 (i * k + c'))[i]? = some wd := bw_keep (Nat.le_add_right _ _) HWD.out
              have hsq : (bs k (stp x) 0 (i * k + c'))[i]? = some s := bs_keep (Nat.le_add_right _ _) HBS.out
              have hll := HLN.out (i * k + c')
              have hbl2 : (bs k (stp x) 0 (i * k + c')).length = (bw k (stp x) 0 (i * k + c')).length := bs_len _
              obtain ⟨lb2, lc2, rfl, hlb2, hlbs2, hlcell2⟩ := own_form (0 : Nat) G.out.lst (by rw [bs_len]; exact bw_len_pos _)
              obtain ⟨ub2, uc2, rfl, hub2, hubs2, hucell2⟩ := own_form ([] : List Nat) G.out.wds (bw_len_pos _)
              have hi2 := (List.getElem?_eq_some_iff.1 hsq).1
              have hi3 := (List.getElem?_eq_some_iff.1 hwq).1
              have cl1 := (hlcell2 i hi2).1
              rw [List.getD_eq_getElem?_getD, hsq] at cl1
              replace cl1 : wr.cell? ⟨lb2, i, none⟩ = some (.int .i64 (s : Int)) := cl1
              have cu1 := (hucell2 i hi3).1
              rw [List.getD_eq_getElem?_getD, hwq] at cu1
              replace cu1 : wr.cell? ⟨ub2, i, none⟩ = some (.string (wb wd)) := cu1
              have c0 : wr.cell? ⟨w.heap.size, 0, none⟩ = some (.int .i64 (k : Int)) := by rw [cell_of_row _ _ _ _ _ _ G.out.box, ← HK.out]; rfl
              have c1 : wr.cell? ⟨w.heap.size, 1, none⟩ = some (.slice A x.next.length c) := by rw [cell_of_row _ _ _ _ _ _ G.out.box]; rfl
              have hck3 : (c' : Int) < x.k := by omega
              obtain ⟨z1, z2⟩ := stp_lt HX.out hsd hck3
              have hix := stp_idx HX.out hsd hck3
              have hxl : x.next.length ≤ 32768 := by
                have h1 := aut_mul hk1 hk2 hn2
                have h2 := HX.out.2.2.2.2.1
                omega
              obtain ⟨ad2, hA, hcell⟩ := Kd.at_int (HR.out.below G.out.bel).next ((s * x.k.toNat + c' : Nat) : Int) (by omega) (by omega)
              rw [Int.toNat_natCast, z2] at hcell
              rw [HKN.out] at hcell hix
              obtain ⟨t, ht⟩ : ∃ t, t = stp x s c' := ⟨_, rfl⟩
              rw [← ht] at hcell z1
              have hml : (mtl x k (i * k + c')).length = x.acc.length := mtl_len _ _ _
              obtain ⟨hm1, hm2⟩ := Kd.R_celln false G.out.met (t : Int) (by omega) (by omega)
              unfold rdOf at hm1
              rw [Int.toNat_natCast, mtl_get x k _ t z1] at hm1
              rw [Int.toNat_natCast] at hm2
              have htw : stp x (rn (stp x) 0 wd) c' = t := by rw [ht, ← HS.out]
              have hbwn := bw_step (step := stp x) hck hwq
              rw [htw] at hbwn
              have hmul : (s : Int) * (k : Int) = ((s * k : Nat) : Int) := by push_cast; rfl
              have hP : s * k ≤ 40960 := by
                have : s * k ≤ 4096 * 10 := Nat.mul_le_mul (by omega) (by omega)
                omega
              have HMUL := Lib.hid hmul
              have htw2 : stp x (rn (stp x) 0 wd) c' = t := htw
              clear hmul ht htw hlcell2 hucell2 hsq hck3 z2 hml
              generalize s * k = p at *
              subst hA
              have hw5 : IntKind.i64.wrap ((s : Int) * (k : Int)) = (p : Int) := by rw [HMUL.out]; exact IntWalk.i64_in _ ⟨by omega, by omega⟩
              have hw11 : IntKind.i64.wrap ((p : Int) + (c' : Int)) = (p : Int) + (c' : Int) := IntWalk.i64_in _ ⟨by omega, by omega⟩
              have hw12 : 0 ≤ (p : Int) + (c' : Int) := by omega
              have hw14 : (p : Int) + (c' : Int) < (x.next.length : Int) := by omega
              have hw13 : ((p : Int) + (c' : Int)).toNat = p + c' := by omega
              by_cases hm : t ∈ bs k (stp x) 0 (i * k + c')
              · rw [decide_eq_true hm] at hm1
                rw [if_pos hm] at hbwn
                have G2 := Lib.hid (G.out.stay hbwn)
                clear hbwn hm hwq
                go_wp2
                go_quiet (fail)
                go_wp2
                go_roundw
                case rel => exact ⟨c' + 1, by omega, by go_num, Lib.hid (G2.out.drewN _)⟩
                case measure => simp [intOf]; omega
              · rw [decide_eq_false hm] at hm1
                rw [if_neg hm] at hbwn
                have HTW : Hid (rn (stp x) 0 (wd ++ [c']) = t) := Lib.hid (by rw [rn_snoc]; exact htw2)
                have hbsn := bs_of_bw hbwn
                rw [HTW.out] at hbsn
                have HBW := Lib.hid hbwn; have HBN := Lib.hid hbsn; have HWQ := Lib.hid hwq
                have hlbw : (bw k (stp x) 0 (i * k + c')).length ≤ 4096 := by omega
                clear hm hwq hbwn hbsn htw2 hbl2
                go_wp2
                go_quiet (fail)
                have G2 := Lib.hid (G.out.drewN nq)
                have G3 := Lib.hid (G2.out.mark HBN.out)
                have HSZ : Hid (Value.slice (some ⟨wr.heap.size, 0, none⟩) 1 1 = Value.slice (some ⟨((wr.drewN nq).setCell ⟨mb, t, none⟩ (.bool true)).heap.size, 0, none⟩) 1 1) := Lib.hid (by simp)
                clear G G2
                go_wp2_with ((with_reducible refine gate_builtin (b := .append) (xs := #[.tmp 70, .tmp 72]) rfl ?_); at_builtin; refine wpl_append natK (w0 := w) w.heap.size rfl (.tmp 70) (.tmp 72) 22 3 (.int .i64 0) 8 rfl Try.underlying22 info_int rfl (by decide) (by omega) _ (bs k (stp x) 0 (i * k + c')) t [.int .i64 t] rfl HSZ.out rfl G3.out.lst G3.out.bel G3.out.bel.size (by omega) (fun v3 w8 ho hb ha => ?_); have G4 := Lib.hid (G3.out.lstep HBN.out ho hb ha); clear ho hb ha)
                clear c0 c1 cl1 cu1 hcell hm1 hm2 G3
                have cu2 : w8.cell? ⟨ub2, i, none⟩ = some (.string (wb wd)) := by
                  have h1 := (Kd.R_celln ([] : List Nat) G4.out.wds (i : Int) (by omega) (by omega)).1
                  rw [Int.toNat_natCast] at h1
                  rw [h1]
                  unfold rdOf
                  rw [Int.toNat_natCast, List.getD_eq_getElem?_getD, HWQ.out]
                  rfl
                have G5 := Lib.hid G4.out.drew
                have hws : (wb wd).size ≤ 4096 := by
                  rw [wb_size]
                  have := bw_short hk0 HWD.out
                  omega
                have hw97 : IntKind.i64.wrap (97 + (c' : Int)) = 97 + (c' : Int) := IntWalk.i64_in _ ⟨by omega, by omega⟩
                have hw98 : IntKind.u8.wrap (97 + (c' : Int)) = 97 + (c' : Int) := by
                  have := (show c' = 0 ∨ c' = 1 ∨ c' = 2 ∨ c' = 3 ∨ c' = 4 ∨ c' = 5 ∨ c' = 6 ∨ c' = 7 by omega)
                  rcases this with rfl | rfl | rfl | rfl | rfl | rfl | rfl | rfl <;> rfl
                refine wp_region_held_drew (S := fun w' => w'.cell? ⟨ub2, i, none⟩ = some (.string (wb wd))) (by kernel_rfl) cu2 (fun hS => ?_)
                refine any_take (i := 0) (v := ?v3) rfl (by kernel_rfl) (by kernel_rfl) (by kernel_rfl) (fun _ _ _ h => h) hS (.inl ⟨by rfl, ?y3⟩) ?_
                case y3 => (intro w' h'; go_simp; with_reducible rfl)
                (try simp only [Act.put, List.setIfInBounds_toArray, List.set_cons_zero, List.set_cons_succ])
                refine any_take (i := 1) (v := ?v4) rfl (by kernel_rfl) (by kernel_rfl) (by kernel_rfl) (fun _ _ _ h => h) hS (.inl ⟨by rfl, ?y4⟩) ?_
                case y4 => (intro w' h'; go_simp; with_reducible rfl)
                (try simp only [Act.put, List.setIfInBounds_toArray, List.set_cons_zero, List.set_cons_succ])
                refine any_take (i := 2) (v := ?v5) rfl (by kernel_rfl) (by kernel_rfl) (by kernel_rfl) (fun _ _ _ h => h) hS (.inl ⟨by rfl, ?y5⟩) ?_
                case y5 => (intro w' h'; go_simp; with_reducible rfl)
                (try simp only [Act.put, List.setIfInBounds_toArray, List.set_cons_zero, List.set_cons_succ])
                refine any_take (i := 3) (v := ?v6) rfl (by kernel_rfl) (by kernel_rfl) (by kernel_rfl) (fun _ _ _ h => h) hS (.inl ⟨by rfl, ?y6⟩) ?_
                case y6 => (intro w' h'; go_simp; with_reducible rfl)
                (try simp only [Act.put, List.setIfInBounds_toArray, List.set_cons_zero, List.set_cons_succ])
                refine any_take (i := 4) (v := (.string (wb wd))) rfl (by kernel_rfl) (by kernel_rfl) (by kernel_rfl) (fun _ _ _ h => h) hS (yi_cell _ _ rfl (by rfl) ⟨ub2, i, none⟩ rfl _ Try.underlying9 rfl (fun w' h' => h')) ?_
                (try simp only [Act.put, List.setIfInBounds_toArray, List.set_cons_zero, List.set_cons_succ])
                refine any_take (i := 5) (v := ?v9) rfl (by kernel_rfl) (by kernel_rfl) (by kernel_rfl) (fun _ _ _ h => h) hS (.inl ⟨by rfl, ?y9⟩) ?_
                case y9 => (intro w' h'; go_simp; with_reducible rfl)
                (try simp only [Act.put, List.setIfInBounds_toArray, List.set_cons_zero, List.set_cons_succ])
                refine any_take (i := 6) (v := (.int .i64 (97 + (c' : Int)))) rfl (by kernel_rfl) (by kernel_rfl) (by kernel_rfl) (fun _ _ _ h => h) hS (yi_val (by rfl) (fun w' h' => ?y10)) ?_
                case y10 => first | rfl | (go_simp; done) | (go_simp; omega)
                (try simp only [Act.put, List.setIfInBounds_toArray, List.set_cons_zero, List.set_cons_succ])
                refine any_take (i := 7) (v := (.int .u8 (97 + (c' : Int)))) rfl (by kernel_rfl) (by kernel_rfl) (by kernel_rfl) (fun _ _ _ h => h) hS (yi_val (by rfl) (fun w' h' => ?y11)) ?_
                case y11 => first | rfl | (go_simp; done) | (go_simp; omega)
                (try simp only [Act.put, List.setIfInBounds_toArray, List.set_cons_zero, List.set_cons_succ])
                refine any_one (i := 8) rfl (by kernel_rfl) (by rfl) (wp_box 73 5 _ rfl (.int .u8 (97 + (c' : Int))) [.int .u8 (97 + (c' : Int))] rfl (run_box1 73 5 Try.underlying73 info_u8 rfl rfl w8.drew) ?_)
                have hS2 : (w8.drew.alloc (.cells [.int .u8 (97 + (c' : Int))].toArray 5)).cell? ⟨ub2, i, none⟩ = some (.string (wb wd)) := alloc_cell hS
                refine ⟨hS2, ?_⟩
                (try simp only [Act.put, List.setIfInBounds_toArray, List.set_cons_zero, List.set_cons_succ])
                have hrow : ReadsInt (w8.drew.alloc (.cells [.int .u8 (97 + (c' : Int))].toArray 5)) .u8 (some ⟨w8.drew.heap.size, 0, none⟩) 1 [97 + (c' : Int)] := by
                  refine ⟨rfl, by decide, fun _ => ⟨⟨w8.drew.heap.size, 0, none⟩, rfl, fun j hj => ?_⟩⟩
                  obtain rfl : j = 0 := by simpa using hj
                  rw [add_plain, cell_of_row _ _ _ _ _ _ (hp_new rfl)]
                  rfl
                have hcv := string_of_reads (c := 1) Try.underlying73 Try.underlying5 Try.underlying9 hrow
                refine any_val (i := 9) (v := .string ⟨#[UInt8.ofNat (97 + c')]⟩) rfl (by kernel_rfl) (by rfl) hS2 ?y9 ?_
                case y9 =>
                  unfold execOp
                  simp only [Sem.run_bind]
                  exact (congrArg (fun r => Result.andThen r _) hcv).trans rfl
                (try simp only [Act.put, List.setIfInBounds_toArray, List.set_cons_zero, List.set_cons_succ])
                refine any_take (i := 10) (v := (.string (wb wd ++ ⟨#[UInt8.ofNat (97 + c')]⟩))) rfl (by kernel_rfl) (by kernel_rfl) (by kernel_rfl) (fun _ _ _ h => h) hS2 (yi_val (by rfl) (fun w' h' => ?y15)) ?_
                case y15 => first | rfl | (go_simp; done) | (go_simp; omega)
                (try simp only [Act.put, List.setIfInBounds_toArray, List.set_cons_zero, List.set_cons_succ])
                rw [← wb_snoc]
                have G6 := Lib.hid (G5.out.box1 (.cells [.int .u8 (97 + (c' : Int))].toArray 5))
                generalize w8.drew.alloc (.cells [.int .u8 (97 + (c' : Int))].toArray 5) = w9 at *
                refine any_one (i := 11) rfl (by kernel_rfl) (by rfl) (wp_box 72 9 _ rfl (.string (wb (wd ++ [c']))) [.string (wb (wd ++ [c']))] rfl (run_box1 72 9 Try.underlying72 info_str rfl rfl w9) ?_)
                have hS3 : (w9.alloc (.cells [.string (wb (wd ++ [c']))].toArray 9)).cell? ⟨ub2, i, none⟩ = some (.string (wb wd)) := alloc_cell hS2
                refine ⟨hS3, ?_⟩
                (try simp only [Act.put, List.setIfInBounds_toArray, List.set_cons_zero, List.set_cons_succ])
                have G7 := Lib.hid (G6.out.box1 (.cells [.string (wb (wd ++ [c']))].toArray 9))
                refine any_one (i := 12) rfl (by kernel_rfl) (by rfl) (wp_app1 encW (w0 := w) w.heap.size _ _ 72 9 (.string ByteArray.empty) 16 rfl Try.underlying72 info_str rfl (by decide) _ (bw k (stp x) 0 (i * k + c')) (wd ++ [c']) w9.heap.size rfl rfl (hp_new rfl) G7.out.wds G7.out.bel G7.out.bel.size (by omega) (fun v4 w10 ho hb ha => ?_))
                have hS4 : w10.cell? ⟨ub2, i, none⟩ = some (.string (wb wd)) := (ha.pre ub2 rfl i (by omega)).trans hS3
                have G8 := Lib.hid (G7.out.wstep HBW.out ho hb ha.app)
                refine ⟨hS4, ?_⟩
                (try simp only [Act.put, List.setIfInBounds_toArray, List.set_cons_zero, List.set_cons_succ])
                refine any_take (i := 13) (v := ?v20) rfl (by kernel_rfl) (by kernel_rfl) (by kernel_rfl) (fun _ _ _ h => h) hS4 (.inl ⟨by rfl, ?y20⟩) ?_
                case y20 => (intro w' h'; go_simp; with_reducible rfl)
                (try simp only [Act.put, List.setIfInBounds_toArray, List.set_cons_zero, List.set_cons_succ])
                refine wpAnyH_done (by kernel_rfl) ?_ _
                clear ho hb ha hS hS2 hS3 hS4 cu2 hrow hcv G4 G5 G6 G7
                go_wp2
                go_roundw
                case rel => exact ⟨c' + 1, by omega, by go_num, G8⟩
                case measure => simp [intOf]; omega
            · have hce : c' = k := by omega
              have hmm : i * k + c' = (i + 1) * k := by rw [Nat.succ_mul, hce]
              have hle : (bs k (stp x) 0 (i * k)).length ≤ (bs k (stp x) 0 ((i + 1) * k)).length := by
                rw [bs_len, bs_len]; exact bw_le (Nat.mul_le_mul_right k (Nat.le_succ i))
              have HQ2 : Hid (i + 1 ≤ (bs k (stp x) 0 ((i + 1) * k)).length) := Lib.hid (by have := HL.out; omega)
              have HN2 : Hid (∀ j, j < i + 1 → ∀ s, (bs k (stp x) 0 ((i + 1) * k))[j]? = some s → gdA x s = false) := Lib.hid (by
                intro j hj s' hs'
                by_cases hji : j < i
                · have hjl : j < (bs k (stp x) 0 (i * k)).length := by have := HL.out; omega
                  have h1 := bs_keep (k := k) (step := stp x) (first := 0) (Nat.mul_le_mul_right k (Nat.le_succ i)) (List.getElem?_eq_getElem hjl)
                  have h2 := hs'.symm.trans h1
                  injection h2 with h2
                  rw [h2]
                  exact HN.out j hji _ (List.getElem?_eq_getElem hjl)
                · obtain rfl : j = i := by omega
                  have h1 := bs_keep (k := k) (step := stp x) (first := 0) (Nat.mul_le_mul_right k (Nat.le_succ j)) HBS.out
                  have h2 := hs'.symm.trans h1
                  injection h2 with h2
                  rw [h2]
                  exact HBB.out.symm)
              rw [hmm] at G
              have HLT : Hid (i < 4096) := Lib.hid (by omega)
              have c0 : wr.cell? ⟨w.heap.size, 0, none⟩ = some (.int .i64 (k : Int)) := by rw [cell_of_row _ _ _ _ _ _ G.out.box, ← HK.out]; rfl
              have hckd : decide ((c' : Int) < (k : Int)) = false := decide_eq_false (by omega)
              clear hce
              clear hle
              go_wp2
              go_roundw
              case rel => exact ⟨i + 1, by go_num, HQ2, HN2, G⟩
              case measure => have := HLT.out; simp [intOf]; omega
        · go_wp2
          go_quiet (fail)
          go_wp2
          go_ret3
          rcases HANS.out with hh | hh
          · cases hh
          · exact ⟨by rw [hh]; rfl, bl_drewN H.out.bel _⟩
      · have hcl : Closed k (stp x) 0 i := by unfold Closed; rw [← bs_len]; omega
        have hno : lstO x = none := by
          rw [HFE.out i hcl]
          refine fnd_end hcl (fun j hj u hu => HN.out j hj _ ?_)
          rw [bs_get, hu]; rfl
        have HNO := Lib.hid hno
        clear hno hcl hlcell hucell
        go_wp2
        go_ret3
        exact ⟨by rw [HNO.out]; rfl, H.out.bel⟩
  · have h80 : autE x = 80 := autE_no (fun h => h0 (autE_ok h))
    have eS : lstS x = ByteArray.empty := by unfold lstS; rw [if_neg h0]
    have eB : lstB x = false := by unfold lstB; rw [if_neg h0]
    rw [eS, eB]
    rw [h80] at CK ⊢
    clear eS eB h0 h80 hr hz
    go_enter Try.func23, Try.ntmps23
    go_wp2_with (refine ld_au _ rfl w.heap.size rfl (H0.out.at 0 rfl) rfl ?_)
    refine CK.out.mono ?_
    rintro e w1 ⟨rfl, hb⟩
    have H1 := Lib.hid (H0.out.keep hb)
    clear hb CK H0
    go_wp2
    go_ret3
    exact ⟨rfl, H1.out.2⟩
end Go.Proofs.Ytjckidjljkjhfaa

