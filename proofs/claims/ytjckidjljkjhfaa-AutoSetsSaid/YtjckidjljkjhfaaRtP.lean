/- Sets of states as texts; the reference's moved, some. -/
import Derived.Test.YtjckidjljkjhfaaC4
import Derived.Test.YtjckidjljkjhfaaStW
import Derived.Test.YtjckidjljkjhfaaPAutoMakesx5
namespace Go.Proofs.Ytjckidjljkjhfaa
open Go.RowKit Go.Proofs.YtjckidjljkjhfaaW.PrintWords Go.Proofs.Ytjckidjljkjhfaa.PAutoMakes
set_option linter.unusedSimpArgs false
set_option linter.unusedVariables false
/-- The flags of a set of n states. -/
def flI (n : Nat) (m : Sta) : List Int := (List.range n).map fun i => if m.getLsbD i then 1 else 0
theorem flI_len (n : Nat) (m : Sta) : (flI n m).length = n := by simp [flI]
theorem flI_get {n : Nat} {m : Sta} {i : Nat} (h : i < n) : (flI n m).getD i 0 = if m.getLsbD i then 1 else 0 := by
  simp [flI, List.getD_eq_getElem?_getD, h]
theorem flI_zero (n : Nat) : List.replicate n (0 : Int) = flI n noS := by
  apply List.ext_getElem (by simp [flI])
  intro i h1 h2
  simp [flI, noS_bit]
theorem flI_set {n : Nat} {m : Sta} {t : Nat} (h : t < n) (h4 : n ≤ 4096) : (flI n m).set t 1 = flI n (adS m t) := by
  apply List.ext_getElem (by simp [flI])
  intro i h1 h2
  have hi : i < n := by simpa [flI] using h2
  simp only [flI, List.getElem_set, List.getElem_map, List.getElem_range, adS_bit]
  by_cases e : t = i
  · subst e
    have : decide (t < 4096) = true := decide_eq_true (by omega)
    simp [this]
  · rw [if_neg e, decide_eq_false e]; simp
/-- A set's text. -/
def enT (n : Nat) (m : Sta) : ByteArray := strOfNums (flI n m)
theorem enT_size (n : Nat) (m : Sta) : (enT n m).size = n := by
  unfold enT strOfNums
  simp [ByteArray.size, flI]
theorem enT_bt {n : Nat} {m : Sta} {i : Nat} (h : i < n) : bt (enT n m) (i : Int) = if m.getLsbD i then 1 else 0 := by
  have hs : i < (enT n m).size := by rw [enT_size]; exact h
  unfold bt
  rw [Int.toNat_natCast, dif_pos hs]
  have e : (enT n m)[i] = UInt8.ofNat (if m.getLsbD i then 1 else 0) := by
    show (enT n m).data[i]'_ = _
    unfold enT strOfNums flI
    simp
    split <;> rfl
  rw [e]
  split <;> rfl
theorem enT_inj {n : Nat} {s t : Sta} (hs : ∀ j, s.getLsbD j = true → j < n) (ht : ∀ j, t.getLsbD j = true → j < n) (h : enT n s = enT n t) : s = t := by
  apply sta_ext
  intro i _
  by_cases hi : i < n
  · have h1 := enT_bt (m := s) hi
    rw [h, enT_bt hi] at h1
    cases e1 : s.getLsbD i <;> cases e2 : t.getLsbD i <;> simp_all
  · cases e1 : s.getLsbD i
    · cases e2 : t.getLsbD i
      · rfl
      · exact absurd (ht i e2) hi
    · exact absurd (hs i e1) hi
theorem wrap_nat (n : Nat) (h : n ≤ 1000000) : wrap64 (n : Int) = (n : Int) := by unfold wrap64; omega
theorem wrap_add (p l : Nat) (h : p + l ≤ 1000000) : wrap64 ((p : Int) + (l : Int)) = ((p + l : Nat) : Int) := by unfold wrap64; omega
theorem wrap_one (p : Nat) (h : p + 1 ≤ 1000000) : wrap64 ((p : Int) + 1) = ((p + 1 : Nat) : Int) := by unfold wrap64; omega
theorem rmoved_l {x : AutV} (hx : AutOk x) (m : Sta) (l : Nat) (hl : (l : Int) < x.k) : ∀ (k i : Nat), i ≤ x.acc.length → x.acc.length + 1 ≤ i + k → eggboxref08_moved.l0 k (enT x.acc.length m) (l : Int) (flI x.acc.length (fwS x m l i)) (i : Int) x.k x.next x.acc = some (flI x.acc.length (fwS x m l x.acc.length))
  | 0, i, h1, h2 => by omega
  | k + 1, i, h1, h2 => by
    have hn2 := hx.2.2.2.1
    unfold eggboxref08_moved.l0
    rw [enT_size]
    by_cases hil : i < x.acc.length
    · rw [if_pos (by omega), if_pos (by omega)]
      rw [wrap_one i (by omega)]
      have hnx : fwS x m l (i + 1) = if m.getLsbD i then adS (fwS x m l i) (stp x i l) else fwS x m l i := rfl
      have ih := rmoved_l hx m l hl k (i + 1) (by omega) (by omega)
      cases hm : m.getLsbD i
      · have eb : bt (enT x.acc.length m) (i : Int) = 0 := by rw [enT_bt hil, hm]; rfl
        rw [hm, if_neg (by decide)] at hnx
        rw [eb, if_neg (by decide), ← hnx]
        exact ih
      · have eb : bt (enT x.acc.length m) (i : Int) = 1 := by rw [enT_bt hil, hm]; rfl
        rw [hm, if_pos rfl] at hnx
        rw [eb, if_pos rfl]
        obtain ⟨q1, q2⟩ := stp_lt hx hil hl
        have hix := stp_idx hx hil hl
        have hk1 := hx.1; have hk2 := hx.2.1
        have hmul : (i : Int) * x.k = ((i * x.k.toNat : Nat) : Int) := by
          obtain ⟨kk, hkk⟩ := Int.eq_ofNat_of_zero_le (show 0 ≤ x.k by omega)
          rw [hkk, Int.toNat_natCast]; push_cast; rfl
        have hP : i * x.k.toNat ≤ 40960 := by
          have : i * x.k.toNat ≤ 4096 * 10 := Nat.mul_le_mul (by omega) (by omega)
          omega
        rw [hmul]
        rw [hnx] at ih
        have hset : (flI x.acc.length (fwS x m l i)).set (stp x i l) 1 = flI x.acc.length (adS (fwS x m l i) (stp x i l)) := flI_set q1 hn2
        have hfl := flI_len x.acc.length (fwS x m l i)
        rw [← hset] at ih
        clear hnx hmul hset
        generalize i * x.k.toNat = p at *
        generalize flI x.acc.length (fwS x m l i) = F at *
        generalize flI x.acc.length (fwS x m l x.acc.length) = R at *
        generalize enT x.acc.length m = T at *
        generalize stp x i l = t at *
        rw [wrap_nat p (by omega), wrap_add p l (by omega), q2, if_pos (by omega), if_pos (by omega), if_pos (by omega), if_pos (by omega), Int.toNat_natCast]
        exact ih
    · have hie : i = x.acc.length := by omega
      rw [if_neg (by omega), hie]
theorem rmoved_any (x : AutV) (A : Option Addr) (c : Nat) (B : Option Addr) (d : Nat) (hz : AutSz x c d) (hx : AutOk x) (m : Sta) (l : Nat) (hl : (l : Int) < x.k) (w : World) (hr : ARd w x A B) :
    Calls Try.prog 99 #[.agg (ac x A c B d), .string (enT x.acc.length m), .int .i64 (l : Int)] w fun e w' => ∃ v, e = .returned v ∧ Kd.R (Kd.int .u8) 5 w' w.heap.size (fun _ => True) v (flI x.acc.length (fwS x m l x.acc.length)) ∧ Below w.heap.size w w' :=
  eggboxref08_moved.calls (x.acc.length + 1) x.k A c x.next B d x.acc (enT x.acc.length m) (l : Int) _ w hr.next hz.1 hr.acc hz.2.1 (by
    have hn2 := hx.2.2.2.1
    have h := rmoved_l hx m l hl (x.acc.length + 1) 0 (by omega) (by omega)
    unfold eggboxref08_moved.f eggboxref08_set.f
    rw [enT_size, if_pos (by omega), if_pos (by omega), Option.bind_some, Int.toNat_natCast, flI_zero]
    exact h)
theorem rsome_l {x : AutV} (hn2 : x.acc.length ≤ 4096) (m : Sta) : ∀ (k i : Nat), i ≤ x.acc.length → x.acc.length + 1 ≤ i + k → (∀ j, j < i → (rdOf false x.acc (j : Int) && m.getLsbD j) = false) → eggboxref08_some.l0 k (enT x.acc.length m) (i : Int) x.k x.next x.acc = some (meS x m)
  | 0, i, h1, h2, _ => by omega
  | k + 1, i, h1, h2, hN => by
    unfold eggboxref08_some.l0
    rw [enT_size]
    by_cases hil : i < x.acc.length
    · rw [if_pos (by omega), if_pos (by omega)]
      rw [wrap_one i (by omega)]
      have ih := rsome_l hn2 m k (i + 1) (by omega) (by omega)
      cases hm : m.getLsbD i
      · have eb : bt (enT x.acc.length m) (i : Int) = 0 := by rw [enT_bt hil, hm]; rfl
        rw [eb, if_neg (by decide)]
        exact ih (fun j hj => by
          by_cases e : j = i
          · subst e; rw [hm, Bool.and_false]
          · exact hN j (by omega))
      · have eb : bt (enT x.acc.length m) (i : Int) = 1 := by rw [enT_bt hil, hm]; rfl
        rw [eb, if_pos rfl, if_pos (by omega)]
        by_cases ha : rdOf false x.acc (i : Int) = true
        · rw [if_pos ha]
          have : meS x m = true := by
            unfold meS
            rw [List.any_eq_true]
            exact ⟨i, List.mem_range.2 hil, by rw [ha, hm]; rfl⟩
          rw [this]
        · rw [if_neg ha]
          exact ih (fun j hj => by
            by_cases e : j = i
            · subst e
              have : rdOf false x.acc (j : Int) = false := by simpa using ha
              rw [this, Bool.false_and]
            · exact hN j (by omega))
    · rw [if_neg (by omega)]
      have hno : meS x m = false := by
        unfold meS
        rw [List.any_eq_false]
        intro j hj
        have := hN j (by have := List.mem_range.1 hj; omega)
        rw [this]; decide
      rw [hno]
theorem rsome_any (x : AutV) (A : Option Addr) (c : Nat) (B : Option Addr) (d : Nat) (hz : AutSz x c d) (hn2 : x.acc.length ≤ 4096) (m : Sta) (w : World) (hr : ARd w x A B) :
    Calls Try.prog 100 #[.agg (ac x A c B d), .string (enT x.acc.length m)] w fun e w' => e = .returned (.bool (meS x m)) ∧ Below w.heap.size w w' :=
  eggboxref08_some.calls (x.acc.length + 1) x.k A c x.next B d x.acc (enT x.acc.length m) _ w hr.next hz.1 hr.acc hz.2.1 (by
    unfold eggboxref08_some.f
    exact rsome_l hn2 m (x.acc.length + 1) 0 (by omega) (by omega) (fun j hj => absurd hj (Nat.not_lt_zero j)))
theorem rset_any (n : Nat) (hn : n ≤ 4096) (w : World) : Calls Try.prog 97 #[.int .i64 (n : Int)] w fun e w' => ∃ v, e = .returned v ∧ Kd.R (Kd.int .u8) 5 w' w.heap.size (fun _ => True) v (flI n noS) ∧ Below w.heap.size w w' :=
  eggboxref08_set.calls (n : Int) _ w (by
    unfold eggboxref08_set.f
    rw [if_pos (by omega), if_pos (by omega), Int.toNat_natCast, flI_zero])
theorem conv_any (w : World) (A : Option Addr) (n c : Nat) (m : Sta) (h : Kd.C (Kd.int .u8) w A n (flI n m)) : (convert 73 9 (.slice A n c)).run Try.prog w = .ok (.string (enT n m)) w :=
  Kd.C_string Try.underlying73 Try.underlying5 Try.underlying9 h
section
variable {ops : Array Oper} {rest : List Oper} {o : Oper} {a : Act} {w : World} {Q : Exit → Act → World → Prop}
theorem gate_conv {s t : TypeId} {x : Operand} (_ho : o.op = .convert s t x) (h : wpList Try.prog ops Q (o :: rest) a w) : wpList Try.prog ops Q (o :: rest) a w := h
theorem wpl_conv (hgd : o.guard = none) (x : Operand) (ho : o.op = .convert 73 9 x) {A : Option Addr} {n c : Nat} {m : Sta} (hx : a.eval x = .slice A n c) (hC : Kd.C (Kd.int .u8) w A n (flI n m)) (h : wpList Try.prog ops Q rest (a.put o.dst (.string (enT n m))) w) : wpList Try.prog ops Q (o :: rest) a w :=
  wpList_plain hgd fun K hK => by
    have h1 := conv_any w A n c m hC
    unfold Oper.wp execOp
    simp only [ho, hx, Sem.run_bind, h1, Result.andThen_ok, Sem.run_pure]
    exact hK _ _ h
end
end Go.Proofs.Ytjckidjljkjhfaa
