/- asks at two tables that hold the same. -/
import Derived.Test.YtpebnldoimoahaaTabD
namespace Go.Proofs.Ytpebnldoimoahaa
open Go.RowKit Go.Proofs.YtpebnldoimoahaaW.PrintWords
set_option linter.unusedSimpArgs false
set_option linter.unusedVariables false
set_option maxRecDepth 100000
section
variable {w : World} {base : Nat} {c : Nat → Nat} {i g b : Nat} {sl : Value} {n : Int} {L : List (Int × List Nat)}
theorem put_any (h : PTabAt w base c i g b sl n L) (hL : LOk n L) (hbase : base ≤ w.heap.size) (hf : ∀ k, w.heap.size ≤ k → c k = i) (x : Int × List Nat) (hx : okT x) :
    Calls Try.prog 61 #[.pointer (some ⟨g, 0, none⟩), .agg (tvv x.1 x.2)] w (PutR w base c i (.pointer (some ⟨g, 0, none⟩)) n (putR n L x)) := by
  cases hg : goodT x.1 x.2
  · exact put_no1 h hL hbase x hx hg
  · by_cases hn : x.1 = n
    · exact put_yes h hL hbase hf x hx hg hn
    · exact put_no2 h hL hbase x hx hg hn
theorem rput_any (h : RTabAt w base c i g sl n L) (hL : LOk n L) (hbase : base ≤ w.heap.size) (hf : ∀ k, w.heap.size ≤ k → c k = i) (x : Int × List Nat) (hx : okT x) :
    Calls Try.prog 62 #[.pointer (some ⟨g, 0, none⟩), .agg (tvv x.1 x.2)] w (RputR w base c i (.pointer (some ⟨g, 0, none⟩)) n (putR n L x)) := by
  cases hg : goodT x.1 x.2
  · exact rput_no1 h hL hbase x hx hg
  · by_cases hn : x.1 = n
    · exact rput_yes h hL hbase hf x hx hg hn
    · exact rput_no2 h hL hbase x hx hg hn
/-- The value of a number. -/
def atT (L : List (Int × List Nat)) (j : Int) : Int × List Nat := if 0 ≤ j ∧ j < L.length then L.getD j.toNat (0, zq) else (0, zq)
theorem atT_eq (L : List (Int × List Nat)) (j : Int) : (if 0 ≤ j ∧ j < (L.length : Int) then tvv (L.getD j.toNat (0, zq)).1 (L.getD j.toNat (0, zq)).2 else tvv 0 zq) = tvv (atT L j).1 (atT L j).2 := by
  unfold atT; split <;> rfl
theorem atT_len {n : Int} {L : List (Int × List Nat)} (h : LOk n L) (j : Int) : (atT L j).2.length = 7 := by
  unfold atT
  split
  · rename_i hj
    have hlt : j.toNat < L.length := by omega
    rw [List.getD_eq_getElem?_getD, List.getElem?_eq_getElem hlt]
    exact (h.ok _ (List.getElem_mem hlt)).1
  · exact zq_len
theorem at_any (h : PTabAt w base c i g b sl n L) (hL : LOk n L) (j : Int) :
    Calls Try.prog 65 #[.pointer (some ⟨g, 0, none⟩), .int .i64 j] w fun e w' => e = .returned (.tuple #[.agg (tvv (atT L j).1 (atT L j).2), .bool (decide (0 ≤ j ∧ j < L.length))]) ∧ Below w.heap.size w w' := by
  rw [← atT_eq]; exact at_alive h hL j
theorem rat_any (h : RTabAt w base c i g sl n L) (hL : LOk n L) (j : Int) :
    Calls Try.prog 66 #[.pointer (some ⟨g, 0, none⟩), .int .i64 j] w fun e w' => e = .returned (.tuple #[.agg (tvv (atT L j).1 (atT L j).2), .bool (decide (0 ≤ j ∧ j < L.length))]) ∧ Below w.heap.size w w' := by
  rw [← atT_eq]; exact rat_alive h hL j
end
/-- A table of the program's and one of the reference's that hold the same; or neither is there. -/
def Pair (w : World) (base : Nat) (c : Nat → Nat) (i j : Nat) (x d : Value) : Prop := (x = .pointer none ∧ d = .pointer none) ∨ ∃ n L, PTab w base c i x n L ∧ RTab w base c j d n L ∧ LOk n L
def Own2 (c : Nat → Nat) (i j k : Nat) : Prop := c k = i ∨ c k = i + 1 ∨ c k = i + 2 ∨ c k = j ∨ c k = j + 1
def AskR (w : World) (base : Nat) (c : Nat → Nat) (i j : Nat) (x d : Value) (e : Ending) (w' : World) : Prop :=
  e = .returned (.bool true) ∧ ∃ c', (∀ k, k < w.heap.size → c' k = c k) ∧ Pair w' base c' i j x d ∧ Fr w w' base (Own2 c i j)
/-- New blocks get a colour. -/
def ext (c : Nat → Nat) (N i : Nat) (k : Nat) : Nat := if k < N then c k else i
theorem ext_lt {c : Nat → Nat} {N i k : Nat} (h : k < N) : ext c N i k = c k := if_pos h
theorem ext_ge {c : Nat → Nat} {N i k : Nat} (h : N ≤ k) : ext c N i k = i := if_neg (by omega)
theorem Pair.frame {w w' : World} {base : Nat} {c c' : Nat → Nat} {i j : Nat} {x d : Value} (h : Pair w base c i j x d) (hk : ∀ k, k < w.heap.size → Own2 c i j k → w'.heap[k]? = w.heap[k]?) (hc : ∀ k, k < w.heap.size → c' k = c k) : Pair w' base c' i j x d := by
  rcases h with h | ⟨n, L, ⟨g, b, sl, hx, hp⟩, ⟨g', sl', hd, hr⟩, hL⟩
  · exact .inl h
  · exact .inr ⟨n, L, ⟨g, b, sl, hx, hp.frame (fun k h1 h2 => hk k h1 (by rcases h2 with h | h | h <;> simp [Own2, h])) hc⟩, ⟨g', sl', hd, hr.frame (fun k h1 h2 => hk k h1 (by rcases h2 with h | h <;> simp [Own2, h])) hc⟩, hL⟩
/-- The colours that Put is called under, and those of the reference's. -/
def col1 (c : Nat → Nat) (N N0 i j : Nat) : Nat → Nat := ext (ext c N (j + 2)) N0 i
theorem col1_lt {c : Nat → Nat} {N N0 i j k : Nat} (h : k < N) (hN : N ≤ N0) : col1 c N N0 i j k = c k := (ext_lt (by omega)).trans (ext_lt h)
theorem col1_eq {c : Nat → Nat} {N N0 i j : Nat} (hN : N < N0) : col1 c N N0 i j N = j + 2 := (ext_lt hN).trans (ext_ge (Nat.le_refl _))
theorem pair_mid {w w0 w1 : World} {base : Nat} {c : Nat → Nat} {i j g' : Nat} {sl' : Value} {n : Int} {L : List (Int × List Nat)} (hij : i + 2 < j) (h0 : Below w.heap.size w w0) (h0s : w.heap.size < w0.heap.size) (hr : RTabAt w base c j g' sl' n L)
    (hf1 : Fr w0 w1 base (fun k => col1 c w.heap.size w0.heap.size i j k = i ∨ col1 c w.heap.size w0.heap.size i j k = i + 1 ∨ col1 c w.heap.size w0.heap.size i j k = i + 2)) {o : OpV} (ho : w0.heap[w.heap.size]? = some (OB o)) :
    RTabAt w1 base (ext (col1 c w.heap.size w0.heap.size i j) w1.heap.size j) j g' sl' n L ∧ w1.heap[w.heap.size]? = some (OB o) := by
  refine ⟨hr.frame (fun k hk h2 => ?_) (fun k hk => ?_), ?_⟩
  · refine (hf1.block k (by omega) ?_).trans (h0.block k hk)
    rw [col1_lt hk (by omega)]; omega
  · exact (ext_lt (by have := hf1.size; omega)).trans (col1_lt hk (by omega))
  · refine (hf1.block _ h0s ?_).trans ho
    rw [col1_eq h0s]; omega
theorem pair_fin {w w0 w1 w2 : World} {base : Nat} {c : Nat → Nat} {i j : Nat} {x d : Value} {n : Int} {L' : List (Int × List Nat)} (hij : i + 2 < j) (hbase : base ≤ w.heap.size) (h0 : Below w.heap.size w w0) (h0s : w.heap.size < w0.heap.size)
    (hf1 : Fr w0 w1 base (fun k => col1 c w.heap.size w0.heap.size i j k = i ∨ col1 c w.heap.size w0.heap.size i j k = i + 1 ∨ col1 c w.heap.size w0.heap.size i j k = i + 2)) (hp1 : PTab w1 base (col1 c w.heap.size w0.heap.size i j) i x n L')
    (hf2 : Fr w1 w2 base (fun k => ext (col1 c w.heap.size w0.heap.size i j) w1.heap.size j k = j ∨ ext (col1 c w.heap.size w0.heap.size i j) w1.heap.size j k = j + 1)) (hr2 : RTab w2 base (ext (col1 c w.heap.size w0.heap.size i j) w1.heap.size j) j d n L') (hL : LOk n L') :
    ∃ c', (∀ k, k < w.heap.size → c' k = c k) ∧ Pair w2 base c' i j x d ∧ Fr w w2 base (Own2 c i j) := by
  have hs1 := hf1.size
  have hs2 := hf2.size
  refine ⟨_, fun k hk => (ext_lt (by omega)).trans (col1_lt hk (by omega)), .inr ⟨n, L', ?_, hr2, hL⟩, ?_, by omega, ?_⟩
  · obtain ⟨g, b, sl, hx, hp⟩ := hp1
    refine ⟨g, b, sl, hx, hp.frame (fun k hk h2 => hf2.block k hk ?_) (fun k hk => ext_lt hk)⟩
    rw [ext_lt hk]; omega
  · exact ((h0.mono hbase).trans hf1.below).trans hf2.below
  · intro k hk hM
    have e1 : col1 c w.heap.size w0.heap.size i j k = c k := col1_lt hk (by omega)
    have e2 : ext (col1 c w.heap.size w0.heap.size i j) w1.heap.size j k = c k := (ext_lt (by omega)).trans e1
    unfold Own2 at hM
    refine (hf2.block k (by omega) (by rw [e2]; omega)).trans ((hf1.block k (by omega) (by rw [e1]; omega)).trans (h0.block k hk))
theorem pair_below {w w' : World} {base : Nat} {c : Nat → Nat} {i j : Nat} {x d : Value} (h : Pair w base c i j x d) (hb : Below w.heap.size w w') (hbase : base ≤ w.heap.size) : ∃ c', (∀ k, k < w.heap.size → c' k = c k) ∧ Pair w' base c' i j x d ∧ Fr w w' base (Own2 c i j) :=
  ⟨c, fun _ _ => rfl, h.frame (fun k hk _ => hb.block k hk) (fun _ _ => rfl), Fr.of_below hb hbase⟩
/-- asks at a pair. -/
theorem asks_pair (w : World) (base : Nat) (c : Nat → Nat) (i j : Nat) (hij : i + 2 < j) (x d : Value) (o : OpV) (ho : o.ok) (h : Pair w base c i j x d) (hbase : base ≤ w.heap.size) :
    Calls Try.prog 30 #[x, d, .agg o.cells.toArray] w (AskR w base c i j x d) := by
  rcases h with ⟨rfl, rfl⟩ | ⟨n, L, ⟨g, b, sl, rfl, hp⟩, ⟨g', sl', rfl, hr⟩, hLk⟩
  · exact (asks_dead _ o w (.inl rfl) ho).mono fun e w' hh => ⟨hh.1, c, fun _ _ => rfl, .inl ⟨rfl, rfl⟩, Fr.of_below hh.2 hbase⟩
  have HL := Lib.hid ho.1.1
  have HOT := Lib.hid ho.1
  have HLK := Lib.hid hLk
  have HBS := Lib.hid hbase
  have HO0 := Lib.hid (hp_new (w := w) (o := OB o) rfl)
  have c0 := OB_0 HO0.out
  have H0 := Lib.hid (bl_alloc (Below.refl w.heap.size w) (OB o))
  have HP := Lib.hid hp
  have HR := Lib.hid hr
  clear hp hr ho hLk hbase
  by_cases h1 : o.k = 1
  · have hk1 : (o.k == 1) = true := by simpa using h1
    clear h1
    have H0S : Hid (w.heap.size < (w.alloc (OB o)).heap.size) := Lib.hid (by simp)
    have HP0 := Lib.hid (HP.out.frame (w' := w.alloc (OB o)) (c' := col1 c w.heap.size (w.alloc (OB o)).heap.size i j) (fun k hk _ => H0.out.block k hk) (fun k hk => col1_lt hk H0.out.size))
    have HB0 := Lib.hid (Nat.le_trans HBS.out H0.out.size)
    have HF0 := Lib.hid (show ∀ k, (w.alloc (OB o)).heap.size ≤ k → col1 c w.heap.size (w.alloc (OB o)).heap.size i j k = i from fun k hk => ext_ge hk)
    have HOK2 := Lib.hid (putR_ok HLK.out HOT.out)
    go_enter Try.func30, Try.ntmps30
    go_wp2_with (refine ld3 _ rfl rfl _ rfl HL.out (OB_t HO0.out) ?_)
    refine (put_any HP0.out HLK.out HB0.out HF0.out (o.n, o.ws) HOT.out).mono ?_
    generalize hrr : putR n L (o.n, o.ws) = r at *
    have HRR := Lib.hid hrr
    clear hrr
    rintro e w1 ⟨rfl, hp1, hf1⟩
    have HPM := Lib.hid (pair_mid hij H0.out H0S.out HR.out hf1 HO0.out)
    have HO1 := Lib.hid HPM.out.2
    have HP1 := Lib.hid hp1; have HF1 := Lib.hid hf1
    have HB1 := Lib.hid (Nat.le_trans HB0.out hf1.size)
    clear hp1 hf1 c0
    obtain ⟨ra, rb, re, rL⟩ := r
    go_wp2_with (refine ld3 _ rfl rfl _ rfl HL.out (OB_t HO1.out) ?_)
    refine (rput_any HPM.out.1 HLK.out HB1.out (fun k hk => ext_ge hk) (o.n, o.ws) HOT.out).mono ?_
    rw [HRR.out]
    rintro e w2 ⟨rfl, hr2, hf2⟩
    have HFIN := Lib.hid (pair_fin hij HBS.out H0.out H0S.out HF1.out HP1.out hf2 hr2 HOK2.out)
    clear hr2 hf2 HRR
    go_wp2_with fail
    refine (num_any re _).mono ?_
    rintro e w' ⟨rfl, rfl⟩
    go_wp2
    go_ret
    exact ⟨rfl, HFIN.out⟩
  · have hk1 : (o.k == 1) = false := by simpa using h1
    have HPR := Lib.hid (show Pair w base c i j (.pointer (some ⟨g, 0, none⟩)) (.pointer (some ⟨g', 0, none⟩)) from .inr ⟨n, L, ⟨g, b, sl, rfl, HP.out⟩, ⟨g', sl', rfl, HR.out⟩, HLK.out⟩)
    have HPW := Lib.hid (HP.out.below H0.out); have HRW := Lib.hid (HR.out.below H0.out)
    clear h1
    by_cases h2 : o.k = 2
    · have hk2 : (o.k == 2) = true := by simpa using h2
      have FA := Aside0.mk (find_alive HPW.out HLK.out (o.n, o.ws) HOT.out)
      have FB := Aside0.mk (fun (w1 : World) (hb : Below (w.alloc (OB o)).heap.size (w.alloc (OB o)) w1) => rfind_alive (HRW.out.below hb) HLK.out (o.n, o.ws) HOT.out)
      generalize fndN L (o.n, o.ws) = f at *
      generalize decide ((o.n, o.ws) ∈ L) = q at *
      clear h2
      go_enter Try.func30, Try.ntmps30
      go_wp2_with (refine ld3 _ rfl rfl _ rfl HL.out (OB_t HO0.out) ?_)
      refine FA.out.mono ?_
      rintro e w1 ⟨rfl, hb⟩
      have HO1 := Lib.hid (hp_below' hb HO0.out); have H1 := Lib.hid (bl_then H0.out hb)
      have FB1 := Aside0.mk (FB.out w1 hb)
      clear hb c0 FB FA
      go_wp2_with (refine ld3 _ rfl rfl _ rfl HL.out (OB_t HO1.out) ?_)
      refine FB1.out.mono ?_
      rintro e w2 ⟨rfl, hb⟩
      have H2 := Lib.hid (bl_then H1.out hb)
      clear hb FB1
      go_wp2
      go_ret
      exact ⟨rfl, pair_below HPR.out H2.out HBS.out⟩
    · have hk2 : (o.k == 2) = false := by simpa using h2
      clear h2
      by_cases h3 : o.k = 3
      · have hk3 : (o.k == 3) = true := by simpa using h3
        have FA := Aside0.mk (at_any HPW.out HLK.out o.m)
        have FB := Aside0.mk (fun (w1 : World) (hb : Below (w.alloc (OB o)).heap.size (w.alloc (OB o)) w1) => rat_any (HRW.out.below hb) HLK.out o.m)
        have HYL := Lib.hid (atT_len HLK.out o.m)
        generalize atT L o.m = y at *
        generalize decide (0 ≤ o.m ∧ o.m < (L.length : Int)) = q at *
        clear h3
        have c9 := OB_9 HO0.out HL.out
        go_enter Try.func30, Try.ntmps30
        go_wp2_with fail
        refine FA.out.mono ?_
        rintro e w1 ⟨rfl, hb⟩
        have HO1 := Lib.hid (hp_below' hb HO0.out); have H1 := Lib.hid (bl_then H0.out hb)
        have FB1 := Aside0.mk (FB.out (w1.alloc (TR y.1 y.2)) (bl_alloc hb _))
        clear hb c0 c9 FB FA
        have c9 : (w1.alloc (TR y.1 y.2)).cell? ⟨w.heap.size, 9, none⟩ = some (.int .i64 o.m) := OB_9 (hp_old HO1.out) HL.out
        have HT1 := Lib.hid (show (w1.alloc (TR y.1 y.2)).heap[w1.heap.size]? = some (TR y.1 y.2) from hp_new rfl)
        go_wp2_with (refine st2 _ _ rfl rfl rfl rfl HYL.out rfl ?_)
        refine FB1.out.mono ?_
        rintro e w2 ⟨rfl, hb⟩
        have HT2 := Lib.hid (hp_below' hb HT1.out); have H2 := Lib.hid (bl_then (bl_alloc H1.out _) hb)
        clear hb HT1 H1 c9 HO1 FB1
        go_wp2_with (first | (refine st2 _ _ rfl rfl rfl rfl HYL.out rfl ?_) | (refine ld2 _ rfl w2.heap.size rfl HYL.out (hp_new rfl) rfl ?_) | (refine ld2 _ rfl w1.heap.size rfl HYL.out (hp_old HT2.out) rfl ?_) | (refine eq2 _ _ _ rfl true (sameT_dec _ _) rfl rfl HYL.out HYL.out rfl ?_))
        go_ret
        exact ⟨rfl, pair_below HPR.out (bl_alloc H2.out _) HBS.out⟩
      · have hk3 : (o.k == 3) = false := by simpa using h3
        clear h3
        go_enter Try.func30, Try.ntmps30
        go_wp2_with fail
        refine (len_alive HPW.out).mono ?_
        rintro e w' ⟨rfl, rfl⟩
        go_wp2_with fail
        refine (rlen_alive HRW.out).mono ?_
        rintro e w' ⟨rfl, rfl⟩
        go_wp2
        go_ret
        exact ⟨rfl, pair_below HPR.out H0.out HBS.out⟩
end Go.Proofs.Ytpebnldoimoahaa
