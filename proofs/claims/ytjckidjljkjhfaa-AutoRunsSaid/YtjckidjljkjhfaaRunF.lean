/- The reference's Run and Accepts answer as the program's: in plain Lean, over what the print tool wrote of them. -/
import Derived.Test.YtjckidjljkjhfaaAcc
import Derived.Test.YtjckidjljkjhfaaRunC
namespace Go.Proofs.Ytjckidjljkjhfaa.PAutoRuns
open Go.RowKit Go.Proofs.Ytjckidjljkjhfaa Go.Proofs.YtjckidjljkjhfaaW.PrintWords
set_option linter.unusedVariables false
set_option linter.unusedSimpArgs false
theorem w64_in {i : Int} (h : -9223372036854775808 ≤ i ∧ i ≤ 9223372036854775807) : wrap64 i = i := by unfold wrap64; omega
open Classical in
theorem rchk_l {n : Int} {a : Int} {next : List Int} {acc : List Bool} (hl : next.length ≤ 17592186043904) : ∀ (k i : Nat), i ≤ next.length → next.length - i < k →
    eggboxref08_Check.l0 k n (i : Int) a next acc = some (if (∀ j : Nat, i ≤ j → j < next.length → 0 ≤ rd next j ∧ rd next j < n) then 0 else 80)
  | 0, i, _, h => absurd h (by omega)
  | k + 1, i, hi, h => by
    unfold eggboxref08_Check.l0
    by_cases hil : i < next.length
    · rw [if_pos (by omega), if_pos (by omega)]
      by_cases h1 : rd next i < 0
      · rw [if_pos h1, if_neg]
        intro hh; have := hh i (Nat.le_refl _) hil; omega
      · rw [if_neg h1]
        by_cases h2 : rd next i ≥ n
        · rw [if_pos h2, if_neg]
          intro hh; have := hh i (Nat.le_refl _) hil; omega
        · rw [if_neg h2, show wrap64 ((i : Int) + 1) = ((i + 1 : Nat) : Int) from by rw [w64_in (by omega)]; omega, rchk_l hl k (i + 1) (by omega) (by omega)]
          by_cases hh : ∀ j : Nat, i + 1 ≤ j → j < next.length → 0 ≤ rd next j ∧ rd next j < n
          · rw [if_pos hh, if_pos]
            intro j hj hjl
            by_cases e : j = i
            · subst e; omega
            · exact hh j (by omega) hjl
          · rw [if_neg hh, if_neg]
            intro h3; exact hh (fun j hj hjl => h3 j (by omega) hjl)
    · rw [if_neg (by omega), if_pos]
      intro j h1 h2; omega
theorem chk_j0 (k : Nat) (n : Int) (y : Bool) (a : Int) (next : List Int) (acc : List Bool) : eggboxref08_Check.j0 (k + 1) n y a next acc = if y = true then some 80 else eggboxref08_Check.l0 k n 0 a next acc := rfl
theorem run_j0 (k : Nat) (s : Int) (v : ByteArray) (e : Int) (y : Bool) (a : Int) (next : List Int) (acc : List Bool) : eggboxref08_Run.j0 (k + 1) s v e y a next acc = if y = true then eggboxref08_Run.j1 k s v 11 a next acc else eggboxref08_Run.j1 k s v e a next acc := rfl
theorem run_j1 (k : Nat) (s : Int) (v : ByteArray) (e : Int) (a : Int) (next : List Int) (acc : List Bool) : eggboxref08_Run.j1 (k + 1) s v e a next acc = if e = 0 then ((eggboxref01_Check.f k a v).bind fun t142 => (if t142 = 0 then ((eggboxref08_Go.f k a next acc s v).bind fun t143 => (some (t143, 0))) else (some (0, t142)))) else (some (0, e)) := rfl
theorem fol_cons (x : AutV) (s : Nat) (b : UInt8) (l : List UInt8) : fol x s (b :: l) = fol x (stp x s (b.toNat - 97)) l := rfl
theorem rchk_f (x : AutV) (hl : x.next.length ≤ 17592186043904) {k : Nat} (hk : x.next.length + 1 < k) : eggboxref08_Check.f k x.k x.next x.acc = some (autE x) := by
  obtain ⟨k, rfl⟩ : ∃ m, k = m + 1 := ⟨k - 1, by omega⟩
  have no : ∀ {y}, y = true → ¬ AutOk x → eggboxref08_Check.j0 (k + 1) (x.acc.length : Int) y x.k x.next x.acc = some (autE x) := fun e hn => by
    subst e; rw [chk_j0, if_pos rfl, autE_no hn]
  unfold eggboxref08_Check.f
  by_cases h1 : x.k < 1
  · rw [if_pos h1]; exact no rfl (fun h => by have := h.1; omega)
  rw [if_neg h1]
  by_cases h2 : x.k > 8
  · rw [if_pos h2]; exact no rfl (fun h => by have := h.2.1; omega)
  rw [if_neg h2]
  by_cases h3 : (x.acc.length : Int) < 1
  · rw [if_pos h3]; exact no rfl (fun h => by have := h.2.2.1; omega)
  rw [if_neg h3]
  by_cases h4 : (x.acc.length : Int) > 4096
  · rw [if_pos h4]; exact no rfl (fun h => by have := h.2.2.2.1; omega)
  rw [if_neg h4]
  have hm := aut_mul (m := x.acc.length) (show 1 ≤ x.k by omega) (show x.k ≤ 8 by omega) (by omega)
  rw [w64_in (i := (x.acc.length : Int) * x.k) (by omega)]
  by_cases h5 : (x.next.length : Int) = (x.acc.length : Int) * x.k
  · rw [show ((x.next.length : Int) != (x.acc.length : Int) * x.k) = false from by rw [bne_eq_false_iff_eq]; exact h5]
    rw [chk_j0, if_neg (by decide)]
    have := rchk_l (n := (x.acc.length : Int)) (a := x.k) (acc := x.acc) hl k 0 (by omega) (by omega)
    rw [show (((0 : Nat) : Int)) = 0 from rfl] at this
    rw [this]
    by_cases hh : ∀ j : Nat, 0 ≤ j → j < x.next.length → 0 ≤ rd x.next j ∧ rd x.next j < (x.acc.length : Int)
    · rw [if_pos hh, autE_ok ⟨by omega, by omega, by omega, by omega, h5, fun j hj => hh j (Nat.zero_le _) hj⟩]
    · rw [if_neg hh, autE_no (fun h => hh (fun j _ hj => h.2.2.2.2.2 j hj))]
  · rw [show ((x.next.length : Int) != (x.acc.length : Int) * x.k) = true from by rw [bne_iff_ne]; exact h5]
    exact no rfl (fun h => h5 h.2.2.2.2.1)
theorem bt_eq {s : ByteArray} {i : Nat} (h : i < s.size) : bt s (i : Int) = ((s[i]'h).toNat : Int) := by
  have := bt_at s (i : Int) (by rw [Int.toNat_natCast]; exact h)
  simp only [Int.toNat_natCast] at this
  exact this.symm
theorem rwrd_l {a : Int} (h1 : 1 ≤ a) (h8 : a ≤ 8) {s : ByteArray} (hs : s.size ≤ 140737488351232) : ∀ (k i : Nat), i ≤ s.size → s.size - i < k → (∀ j (hj : j < s.size), j < i → 97 ≤ (s[j]'hj).toNat ∧ ((s[j]'hj).toNat : Int) < 97 + a) →
    eggboxref01_Check.l0 k a s (i : Int) = some (if letB a s then 0 else 21)
  | 0, i, _, h, _ => absurd h (by omega)
  | k + 1, i, hi, h, hb => by
    unfold eggboxref01_Check.l0
    by_cases hil : i < s.size
    · rw [if_pos (by omega), if_pos (by omega), bt_eq hil]
      have hr : (s[i]'hil).toNat < 256 := (s[i]'hil).toNat_lt
      by_cases c1 : ((s[i]'hil).toNat : Int) < 97
      · rw [if_pos c1, letB_no hil (by omega)]; rfl
      · rw [if_neg c1]
        by_cases c2 : (((s[i]'hil).toNat : Int) - 97) % 256 ≥ a
        · rw [if_pos c2, letB_no hil (by omega)]; rfl
        · rw [if_neg c2, show wrap64 ((i : Int) + 1) = ((i + 1 : Nat) : Int) from by rw [w64_in (by omega)]; omega]
          exact rwrd_l h1 h8 hs k (i + 1) (by omega) (by omega) (fun j hj hji => by
            by_cases e : j = i
            · subst e; omega
            · exact hb j hj (by omega))
    · rw [if_neg (by omega), letB_of (fun j hj => hb j hj (by omega))]; rfl
theorem rwrd_f (a : Int) {s : ByteArray} (hs : s.size ≤ 140737488351232) {k : Nat} (hk : s.size < k) : eggboxref01_Check.f k a s = some (wrdE a s) := by
  unfold eggboxref01_Check.f eggboxref01_Letters.f wrdE
  by_cases h1 : a < 1
  · rw [if_pos h1, if_pos (.inl h1)]; rfl
  · by_cases h2 : a > 8
    · rw [if_neg h1, if_pos h2, if_pos (.inr h2)]; rfl
    · rw [if_neg h1, if_neg h2, if_neg (by omega)]
      have := rwrd_l (a := a) (by omega) (by omega) hs k 0 (by omega) (by omega) (fun j hj h => absurd h (by omega))
      exact this
theorem rgo_s {x : AutV} (hx : AutOk x) {s c : Nat} (hsn : s < x.acc.length) (hck : (c : Int) < x.k) : wrap64 (wrap64 ((s : Int) * x.k) + (c : Int)) = ((s * x.k.toNat + c : Nat) : Int) := by
  have hk1 := hx.1; have hk2 := hx.2.1; have hn2 := hx.2.2.2.1
  have hmul : (s : Int) * x.k = ((s * x.k.toNat : Nat) : Int) := by
    obtain ⟨kk, hkk⟩ := Int.eq_ofNat_of_zero_le (show 0 ≤ x.k by omega)
    rw [hkk, Int.toNat_natCast]; push_cast; rfl
  have hP : s * x.k.toNat ≤ 40960 := by
    have : s * x.k.toNat ≤ 4096 * 10 := Nat.mul_le_mul (by omega) (by omega)
    omega
  rw [hmul]
  generalize s * x.k.toNat = p at *
  rw [w64_in (i := (p : Int)) (by omega), w64_in (by omega)]; omega
theorem rgo_l {x : AutV} (hx : AutOk x) {v : ByteArray} (hs : v.size ≤ 140737488351232) (hv : letB x.k v = true) (k : Nat) : ∀ (i s : Nat), i ≤ v.size → v.size - i < k → s < x.acc.length →
    eggboxref08_Go.l0 k (s : Int) v (i : Int) x.k x.next x.acc = some ((fol x s (v.data.toList.drop i) : Nat) : Int) := by
  induction k with
  | zero => intro i s _ h _; omega
  | succ k ih =>
    intro i s hi h hsn
    unfold eggboxref08_Go.l0
    by_cases hil : i < v.size
    · have hb12 := letB_at hv i hil
      have hr : (v[i]'hil).toNat < 256 := (v[i]'hil).toNat_lt
      have e3 : v.data.toList.drop i = v[i] :: v.data.toList.drop (i + 1) := List.drop_eq_getElem_cons (by simpa using hil)
      have hbt := bt_eq hil
      rw [e3, fol_cons, hbt]
      generalize (v[i]'hil).toNat = bb at *
      clear e3 hbt
      obtain ⟨c, hc⟩ : ∃ c : Nat, c = bb - 97 := ⟨_, rfl⟩
      rw [← hc]
      have hck : (c : Int) < x.k := by omega
      have e1 : ((bb : Int) - 97) % 256 = (c : Int) := by omega
      have f1 : (i : Int) < (v.size : Int) := by omega
      have f2 : (0 : Int) ≤ (i : Int) := by omega
      have hi2 : i + 1 ≤ v.size := hil
      have hk2 : v.size - (i + 1) < k := by omega
      have hix := stp_idx hx hsn hck
      have f3 : (0 : Int) ≤ ((s * x.k.toNat + c : Nat) : Int) := Int.natCast_nonneg _
      have f4 : ((s * x.k.toNat + c : Nat) : Int) < (x.next.length : Int) := Int.ofNat_lt.2 hix
      have e4 : wrap64 ((i : Int) + 1) = ((i + 1 : Nat) : Int) := by rw [w64_in (by omega)]; omega
      have e2 := rgo_s hx hsn hck
      obtain ⟨q1, q2⟩ := stp_lt hx hsn hck
      rw [if_pos f1, if_pos f2, e1, e2, if_pos f3, if_pos f4, q2, e4]
      exact ih (i + 1) (stp x s c) hi2 hk2 q1
    · have f1 : ¬ (i : Int) < (v.size : Int) := by omega
      have e : v.data.toList.drop i = [] := List.drop_eq_nil_of_le (by have : v.data.toList.length = v.size := by simp
                                                                       omega)
      rw [if_neg f1, e]; rfl
theorem rrun_f (x : AutV) (hl : x.next.length ≤ 17592186043904) (s : Int) {v : ByteArray} (hs : v.size ≤ 140737488351232) {k : Nat} (hk : x.next.length + v.size + 10 < k) :
    eggboxref08_Run.f k x.k x.next x.acc s v = some ((runV x s v : Int), runE x s v) := by
  obtain ⟨k, rfl⟩ : ∃ m, k = m + 2 := ⟨k - 2, by omega⟩
  unfold eggboxref08_Run.f
  rw [rchk_f x hl (by omega)]
  show (if autE x = 0 then _ else _) = _
  by_cases h0 : autE x = 0
  · have hx := autE_is h0
    rw [if_pos h0]
    by_cases h1 : s < 0
    · rw [if_pos h1]
      rw [run_j0, if_pos rfl, run_j1]
      unfold runV runE
      rw [if_neg (by decide), if_neg (by omega), if_pos h0, if_neg (by omega)]; rfl
    · rw [if_neg h1]
      rw [run_j0]
      by_cases h2 : s ≥ (x.acc.length : Int)
      · rw [if_pos (decide_eq_true h2)]
        rw [run_j1]
        unfold runV runE
        rw [if_neg (by decide), if_neg (by omega), if_pos h0, if_neg (by omega)]; rfl
      · rw [if_neg (by rw [decide_eq_true_eq]; exact h2)]
        rw [run_j1]
        rw [if_pos h0, rwrd_f x.k hs (by omega)]
        show (if wrdE x.k v = 0 then _ else _) = _
        have r1 : runE x s v = wrdE x.k v := by unfold runE; rw [if_pos h0, if_pos ⟨by omega, by omega⟩]
        rw [r1]
        by_cases h3 : wrdE x.k v = 0
        · obtain ⟨n, rfl⟩ : ∃ n : Nat, s = (n : Int) := Int.eq_ofNat_of_zero_le (by omega)
          have r2 : runV x (n : Int) v = fol x n v.data.toList := by unfold runV; rw [if_pos ⟨h0, by omega, by omega, h3⟩, Int.toNat_natCast]
          rw [if_pos h3, h3, r2]
          unfold eggboxref08_Go.f
          have := rgo_l hx hs (wrdE_ok h3) k 0 n (by omega) (by omega) (by omega)
          rw [show (((0 : Nat) : Int)) = 0 from rfl, List.drop_zero] at this
          rw [this]; rfl
        · have r2 : runV x s v = 0 := by unfold runV; rw [if_neg (fun h => h3 h.2.2.2)]
          rw [if_neg h3, r2]; rfl
  · rw [if_neg h0]
    rw [run_j0, if_neg (by decide), run_j1]
    unfold runV runE
    rw [if_neg h0, if_neg (by omega), if_neg h0]
    rw [autE_no (fun h => h0 (autE_ok h))]; rfl
theorem racs_f (x : AutV) (hl : x.next.length ≤ 17592186043904) {v : ByteArray} (hs : v.size ≤ 140737488351232) {k : Nat} (hk : x.next.length + v.size + 10 < k) :
    eggboxref08_Accepts.f k x.k x.next x.acc v = some (acsV x v, runE x 0 v) := by
  unfold eggboxref08_Accepts.f acsV
  rw [rrun_f x hl 0 hs hk]
  show (if runE x 0 v = 0 then _ else _) = _
  by_cases h : runE x 0 v = 0
  · obtain ⟨_, _, _, h4⟩ := run_lt h
    rw [if_pos h, if_pos h, if_pos (by show (0 : Int) ≤ (runV x 0 v : Int); omega), if_pos (by show (runV x 0 v : Int) < _; omega), h]
  · rw [if_neg h, if_neg h]
end Go.Proofs.Ytjckidjljkjhfaa.PAutoRuns
