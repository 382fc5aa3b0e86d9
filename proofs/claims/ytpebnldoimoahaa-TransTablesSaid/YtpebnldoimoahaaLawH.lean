/- The walk of the statement TransTables. -/
import Derived.Test.YtpebnldoimoahaaTabF
import Derived.Test.YtpebnldoimoahaaLawG
namespace Go.Proofs.Ytpebnldoimoahaa
open Go.RowKit Go.Proofs.YtpebnldoimoahaaW.PrintWords
set_option linter.unusedSimpArgs false
set_option linter.unusedVariables false
theorem newE_3 : newE 3 = 0 := by decide
/-- What the loop keeps. -/
def TT (w wr : World) (x d y v : Value) : Prop := ∃ c, Pair wr w.heap.size c 0 3 x d ∧ Pair wr w.heap.size c 5 8 y v ∧ Below w.heap.size w wr
theorem own2_apart (c : Nat → Nat) (k : Nat) : Own2 c 5 8 k → ¬ Own2 c 0 3 k := by unfold Own2; omega
theorem own2_apart' (c : Nat → Nat) (k : Nat) : Own2 c 0 3 k → ¬ Own2 c 5 8 k := by unfold Own2; omega
theorem TT.one {w wr : World} {x d y v : Value} (h : TT w wr x d y v) (o : OpV) (ho : o.ok) :
    Calls Try.prog 30 #[x, d, .agg o.cells.toArray] wr fun e w' => e = .returned (.bool true) ∧ TT w w' x d y v := by
  obtain ⟨c, h1, h2, hb⟩ := h
  refine (asks_pair wr _ c 0 3 (by omega) x d o ho h1 hb.size).mono ?_
  rintro e w' ⟨he, c', hc, hp, hf⟩
  exact ⟨he, c', hp, h2.frame (fun k hk ho => hf.block k hk (own2_apart c k ho)) hc, hb.trans hf.below⟩
theorem TT.two {w wr : World} {x d y v : Value} (h : TT w wr x d y v) (o : OpV) (ho : o.ok) :
    Calls Try.prog 30 #[y, v, .agg o.cells.toArray] wr fun e w' => e = .returned (.bool true) ∧ TT w w' x d y v := by
  obtain ⟨c, h1, h2, hb⟩ := h
  refine (asks_pair wr _ c 5 8 (by omega) y v o ho h2 hb.size).mono ?_
  rintro e w' ⟨he, c', hc, hp, hf⟩
  exact ⟨he, c', h1.frame (fun k hk ho => hf.block k hk (own2_apart' c k ho)) hc, hp, hb.trans hf.below⟩
/-- Two that hold the same are of one length. -/
theorem Pair.lens {w : World} {base : Nat} {c : Nat → Nat} {i j : Nat} {x d : Value} (h : Pair w base c i j x d) : ∃ m : Int, (Calls Try.prog 31 #[x] w fun e w' => e = .returned (.int .i64 m) ∧ w = w') ∧ (Calls Try.prog 34 #[d] w fun e w' => e = .returned (.int .i64 m) ∧ w = w') := by
  rcases h with ⟨rfl, rfl⟩ | ⟨n, L, ⟨g, b, sl, rfl, hp⟩, ⟨g', sl', rfl, hr⟩, _⟩
  · exact ⟨0, len_dead _ w (.inl rfl), rlen_nil w⟩
  · exact ⟨L.length, len_alive hp, rlen_alive hr⟩
set_option maxRecDepth 100000 in
set_option maxHeartbeats 4000000 in
theorem transTables_any (w : World) (n : Int) (A : Option Addr) (ca : Nat) (l : List OpV) (hA : opKd.C w A l.length l) (B : Option Addr) (cb : Nat) (m : List OpV) (hB : opKd.C w B m.length m) :
    Calls Try.prog 8 #[.int .i64 n, .slice A l.length ca, .slice B m.length cb] w fun e w' => e = .returned (.bool true) ∧ Below w.heap.size w w' := by
  have HA := Aside0.mk hA; have HB := Aside0.mk hB
  have hma := Kd.C_max hA; have hmb := Kd.C_max hB
  clear hA hB
  go_enter Try.func8, Try.ntmps8
  go_wp2_with fail
  refine (new_any n _).mono ?_
  rintro e w1 ⟨x, rfl, hb1, hqx, hx⟩
  have QX := Aside0.mk hqx; have HX := Lib.hid hx; have B1 := Lib.hid hb1
  clear hqx hx hb1
  go_wp2_with fail
  refine (new_any 3 _).mono ?_
  rintro e w2 ⟨y, rfl, hb2, hqy, hy⟩
  have HY := Lib.hid hy; have B2 := Lib.hid hb2
  clear hqy hy hb2
  go_wp2_with fail
  refine (rnew_any n _).mono ?_
  rintro e w3 ⟨d, rfl, hb3, hqd, hd⟩
  have QD := Aside0.mk hqd; have HD := Lib.hid hd; have B3 := Lib.hid hb3
  clear hqd hd hb3
  go_wp2_with fail
  refine (rnew_any 3 _).mono ?_
  rintro e w4 ⟨v, rfl, hb4, hqv, hv⟩
  have HV := Lib.hid hv; have B4 := Lib.hid hb4
  clear hqv hv hb4
  rw [newE_3]
  generalize newE n = er at *
  go_wp2_with fail
  refine (num_any er _).mono ?_
  rintro e w' ⟨rfl, rfl⟩
  go_wp2_with fail
  refine (num_any 0 _).mono ?_
  rintro e w' ⟨rfl, rfl⟩
  have hxd : (x = .pointer none ∧ d = .pointer none) ∨ ∃ ax ad, x = .pointer (some ax) ∧ d = .pointer (some ad) := by
    rcases HX.out with ⟨h1, h2⟩ | ⟨h1, h2, _⟩
    · rcases HD.out with ⟨_, h3⟩ | ⟨h3, _⟩
      · exact .inl ⟨h2, h3⟩
      · rw [h1] at h3; cases h3
    · rcases HD.out with ⟨h3, _⟩ | ⟨_, h3, _⟩
      · rw [h1] at h3; cases h3
      · exact .inr ⟨_, _, h2, h3⟩
  have K2 := Lib.hid (Below.trans B3.out (B4.out.mono B3.out.size))
  have K1 := Lib.hid (Below.trans B2.out (K2.out.mono B2.out.size))
  have HTT : Hid (∀ w5, Below w4.heap.size w4 w5 → TT w w5 x d y v) := Lib.hid (fun w5 hb5 => by
    have s1 := B1.out.size; have s2 := B2.out.size; have s3 := B3.out.size; have s4 := B4.out.size
    have e3 : badN 3 = false := by decide
    have hy2 : y = .pointer (some ⟨w1.heap.size + 1, 0, none⟩) ∧ w2.heap[w1.heap.size + 1]? = some (.cells #[.int .i64 3, .map (some w1.heap.size), .slice none 0 0] 55 (0, 0)) ∧ w2.heap[w1.heap.size]? = some (.map #[] 0) := by
      rcases HY.out with ⟨h, _⟩ | ⟨_, h⟩
      · rw [e3] at h; cases h
      · exact h
    have hv2 : v = .pointer (some ⟨w3.heap.size, 0, none⟩) ∧ w4.heap[w3.heap.size]? = some (.cells #[.int .i64 3, .slice none 0 0] 118 (0, 0)) := by
      rcases HV.out with ⟨h, _⟩ | ⟨_, h⟩
      · rw [e3] at h; cases h
      · exact h
    have l2 := hp_lt hy2.2.1
    have q1 : Below w1.heap.size w1 w5 := K1.out.trans (hb5.mono (by omega))
    have q2 : Below w2.heap.size w2 w5 := K2.out.trans (hb5.mono (by omega))
    have q3 : Below w3.heap.size w3 w5 := B4.out.trans (hb5.mono (by omega))
    refine ⟨fun k => if k = w1.heap.size + 1 then 6 else if k = w1.heap.size then 7 else if k = w3.heap.size then 9 else if k = w2.heap.size then 4 else if k = w.heap.size + 1 then 1 else if k = w.heap.size then 2 else 10, ?_, ?_, (B1.out.trans (q1.mono (by omega)))⟩
    · rcases HX.out with ⟨hx1, hx2⟩ | ⟨hx1, hx2, hx3, hx4⟩
      · rcases HD.out with ⟨_, hd2⟩ | ⟨hd1, _⟩
        · exact .inl ⟨hx2, hd2⟩
        · rw [hx1] at hd1; cases hd1
      · rcases HD.out with ⟨hd1, _⟩ | ⟨hd1, hd2, hd3⟩
        · rw [hx1] at hd1; cases hd1
        · have l1 := hp_lt hx3
          have l3 := hp_lt hd3
          exact pair_new (.inr ⟨hx1, hx2, hx3, hx4⟩) (.inr ⟨hd1, hd2, hd3⟩) q1 q3 (by omega) (by omega)
            (by show (if _ then _ else _) = _; rw [if_neg (by omega), if_neg (by omega), if_neg (by omega), if_neg (by omega), if_pos rfl])
            (by show (if _ then _ else _) = _; rw [if_neg (by omega), if_neg (by omega), if_neg (by omega), if_neg (by omega), if_neg (by omega), if_pos rfl])
            (by show (if _ then _ else _) = _; rw [if_neg (by omega), if_neg (by omega), if_neg (by omega), if_pos rfl])
    · exact pair_new (n := 3) (.inr ⟨e3, hy2⟩) (.inr ⟨e3, hv2⟩) q2 hb5 (by omega) (by omega)
        (by show (if _ then _ else _) = _; rw [if_pos rfl])
        (by show (if _ then _ else _) = _; rw [if_neg (by omega), if_pos rfl])
        (by show (if _ then _ else _) = _; rw [if_neg (by omega), if_neg (by omega), if_pos rfl]))
  clear QX QD HX HD HY HV K1 K2 B1 B2 B3 B4
  rcases hxd with ⟨rfl, rfl⟩ | ⟨ax, ad', rfl, rfl⟩
  · go_wp2_with fail
    refine (knows_any _).mono ?_
    rintro e w5 ⟨rfl, hb5⟩
    have HT := Lib.hid (HTT.out w5 hb5)
    clear hb5 HTT
    go_wp2
    go_loopw [15] (fun i' wr => ∃ k : Nat, i' = .int .i64 k ∧ (k ≤ l.length ∨ k ≤ m.length) ∧ Hid (TT w wr (.pointer none) (.pointer none) y v)) (fun i' _ => max l.length m.length - (intOf i').toNat)
    case atStart => exact ⟨0, rfl, by omega, HT⟩
    case round =>
      clear HT
      obtain ⟨k, rfl, hk, HT⟩ := hrel
      have HCA := Aside0.mk (Kd.C_below HA.out HT.out.choose_spec.2.2)
      have HCB := Aside0.mk (Kd.C_below HB.out HT.out.choose_spec.2.2)
      by_cases h1 : k < l.length
      · obtain ⟨ad1, cs, hA1, hcl, ⟨hok, rfl⟩, hcell⟩ := Kd.C_get HCA.out default k (by omega) (by omega)
        rw [Int.toNat_natCast] at hok hcell hcl
        generalize l.getD k default = o1 at *
        have HC1 := Lib.hid hcell; have HOK1 := Lib.hid hok
        subst hA1
        clear hcell hok hcl
        by_cases h2 : k < m.length
        · obtain ⟨ad2, cs2, hB2, hcl2, ⟨hok2, rfl⟩, hcell2⟩ := Kd.C_get HCB.out default k (by omega) (by omega)
          rw [Int.toNat_natCast] at hok2 hcell2 hcl2
          generalize hgen : m.getD k default = o2 at *
          have HOK2 := Lib.hid hok2; have HGEN := Lib.hid hgen
          subst hB2
          clear hcell2 hok2 hcl2 hgen
          go_wp2_with (refine ld_op _ rfl ad1 k rfl HOK1.out HC1.out rfl ?_)
          refine (HT.out.one o1 HOK1.out).mono ?_
          rintro e w6 ⟨rfl, ht⟩
          have HT2 := Lib.hid ht
          obtain ⟨ad3, cs3, hB3, _, ⟨_, hc3⟩, hcell3⟩ := Kd.C_get (Kd.C_below HB.out ht.choose_spec.2.2) default k (by omega) (by omega)
          rw [Int.toNat_natCast] at hc3 hcell3
          rw [HGEN.out] at hc3
          have ead := Option.some.inj hB3
          subst ead
          subst hc3
          have HC2 := Lib.hid hcell3
          clear ht hcell3 hB3 HT HC1 HCA HCB
          go_wp2_with (refine ld_op _ rfl ad2 k rfl HOK2.out HC2.out rfl ?_)
          refine (HT2.out.two o2 HOK2.out).mono ?_
          rintro e w7 ⟨rfl, ht⟩
          have HT3 := Lib.hid ht
          clear ht HT2 HC2
          go_wp2
          go_roundw
          case rel => exact ⟨k + 1, by go_num, by omega, HT3⟩
          case measure => simp [intOf]; omega
        · go_wp2_with (refine ld_op _ rfl ad1 k rfl HOK1.out HC1.out rfl ?_)
          refine (HT.out.one o1 HOK1.out).mono ?_
          rintro e w6 ⟨rfl, ht⟩
          have HT2 := Lib.hid ht
          clear ht HT HC1 HCA HCB
          go_wp2
          go_roundw
          case rel => exact ⟨k + 1, by go_num, by omega, HT2⟩
          case measure => simp [intOf]; omega
      · by_cases h2 : k < m.length
        · obtain ⟨ad2, cs2, hB2, hcl2, ⟨hok2, rfl⟩, hcell2⟩ := Kd.C_get HCB.out default k (by omega) (by omega)
          rw [Int.toNat_natCast] at hok2 hcell2 hcl2
          generalize m.getD k default = o2 at *
          have HOK2 := Lib.hid hok2; have HC2 := Lib.hid hcell2
          subst hB2
          clear hcell2 hok2 hcl2
          go_wp2_with (refine ld_op _ rfl ad2 k rfl HOK2.out HC2.out rfl ?_)
          refine (HT.out.two o2 HOK2.out).mono ?_
          rintro e w6 ⟨rfl, ht⟩
          have HT2 := Lib.hid ht
          clear ht HT HC2 HCA HCB
          go_wp2
          go_roundw
          case rel => exact ⟨k + 1, by go_num, by omega, HT2⟩
          case measure => simp [intOf]; omega
        · obtain ⟨c, hp1, hp2, hbel⟩ := HT.out
          obtain ⟨m1, ha1, ha2⟩ := hp1.lens
          obtain ⟨m2, hb1, hb2⟩ := hp2.lens
          have A1 := Aside0.mk ha1; have A2 := Aside0.mk ha2; have B1 := Aside0.mk hb1; have B2 := Aside0.mk hb2
          have HBL := Lib.hid hbel
          clear ha1 ha2 hb1 hb2 hp1 hp2 hbel HCA HCB
          go_wp2_with fail
          refine A1.out.mono ?_
          rintro e w' ⟨rfl, rfl⟩
          go_wp2_with fail
          refine A2.out.mono ?_
          rintro e w' ⟨rfl, rfl⟩
          go_wp2_with fail
          refine B1.out.mono ?_
          rintro e w' ⟨rfl, rfl⟩
          go_wp2_with fail
          refine B2.out.mono ?_
          rintro e w' ⟨rfl, rfl⟩
          go_wp2
          go_ret
          exact ⟨rfl, HBL.out⟩
  · go_wp2_with fail
    refine (knows_any _).mono ?_
    rintro e w5 ⟨rfl, hb5⟩
    have HT := Lib.hid (HTT.out w5 hb5)
    clear hb5 HTT
    go_wp2
    go_loopw [15] (fun i' wr => ∃ k : Nat, i' = .int .i64 k ∧ (k ≤ l.length ∨ k ≤ m.length) ∧ Hid (TT w wr (.pointer (some ax)) (.pointer (some ad')) y v)) (fun i' _ => max l.length m.length - (intOf i').toNat)
    case atStart => exact ⟨0, rfl, by omega, HT⟩
    case round =>
      clear HT
      obtain ⟨k, rfl, hk, HT⟩ := hrel
      have HCA := Aside0.mk (Kd.C_below HA.out HT.out.choose_spec.2.2)
      have HCB := Aside0.mk (Kd.C_below HB.out HT.out.choose_spec.2.2)
      by_cases h1 : k < l.length
      · obtain ⟨ad1, cs, hA1, hcl, ⟨hok, rfl⟩, hcell⟩ := Kd.C_get HCA.out default k (by omega) (by omega)
        rw [Int.toNat_natCast] at hok hcell hcl
        generalize l.getD k default = o1 at *
        have HC1 := Lib.hid hcell; have HOK1 := Lib.hid hok
        subst hA1
        clear hcell hok hcl
        by_cases h2 : k < m.length
        · obtain ⟨ad2, cs2, hB2, hcl2, ⟨hok2, rfl⟩, hcell2⟩ := Kd.C_get HCB.out default k (by omega) (by omega)
          rw [Int.toNat_natCast] at hok2 hcell2 hcl2
          generalize hgen : m.getD k default = o2 at *
          have HOK2 := Lib.hid hok2; have HGEN := Lib.hid hgen
          subst hB2
          clear hcell2 hok2 hcl2 hgen
          go_wp2_with (refine ld_op _ rfl ad1 k rfl HOK1.out HC1.out rfl ?_)
          refine (HT.out.one o1 HOK1.out).mono ?_
          rintro e w6 ⟨rfl, ht⟩
          have HT2 := Lib.hid ht
          obtain ⟨ad3, cs3, hB3, _, ⟨_, hc3⟩, hcell3⟩ := Kd.C_get (Kd.C_below HB.out ht.choose_spec.2.2) default k (by omega) (by omega)
          rw [Int.toNat_natCast] at hc3 hcell3
          rw [HGEN.out] at hc3
          have ead := Option.some.inj hB3
          subst ead
          subst hc3
          have HC2 := Lib.hid hcell3
          clear ht hcell3 hB3 HT HC1 HCA HCB
          go_wp2_with (refine ld_op _ rfl ad2 k rfl HOK2.out HC2.out rfl ?_)
          refine (HT2.out.two o2 HOK2.out).mono ?_
          rintro e w7 ⟨rfl, ht⟩
          have HT3 := Lib.hid ht
          clear ht HT2 HC2
          go_wp2
          go_roundw
          case rel => exact ⟨k + 1, by go_num, by omega, HT3⟩
          case measure => simp [intOf]; omega
        · go_wp2_with (refine ld_op _ rfl ad1 k rfl HOK1.out HC1.out rfl ?_)
          refine (HT.out.one o1 HOK1.out).mono ?_
          rintro e w6 ⟨rfl, ht⟩
          have HT2 := Lib.hid ht
          clear ht HT HC1 HCA HCB
          go_wp2
          go_roundw
          case rel => exact ⟨k + 1, by go_num, by omega, HT2⟩
          case measure => simp [intOf]; omega
      · by_cases h2 : k < m.length
        · obtain ⟨ad2, cs2, hB2, hcl2, ⟨hok2, rfl⟩, hcell2⟩ := Kd.C_get HCB.out default k (by omega) (by omega)
          rw [Int.toNat_natCast] at hok2 hcell2 hcl2
          generalize m.getD k default = o2 at *
          have HOK2 := Lib.hid hok2; have HC2 := Lib.hid hcell2
          subst hB2
          clear hcell2 hok2 hcl2
          go_wp2_with (refine ld_op _ rfl ad2 k rfl HOK2.out HC2.out rfl ?_)
          refine (HT.out.two o2 HOK2.out).mono ?_
          rintro e w6 ⟨rfl, ht⟩
          have HT2 := Lib.hid ht
          clear ht HT HC2 HCA HCB
          go_wp2
          go_roundw
          case rel => exact ⟨k + 1, by go_num, by omega, HT2⟩
          case measure => simp [intOf]; omega
        · obtain ⟨c, hp1, hp2, hbel⟩ := HT.out
          obtain ⟨m1, ha1, ha2⟩ := hp1.lens
          obtain ⟨m2, hb1, hb2⟩ := hp2.lens
          have A1 := Aside0.mk ha1; have A2 := Aside0.mk ha2; have B1 := Aside0.mk hb1; have B2 := Aside0.mk hb2
          have HBL := Lib.hid hbel
          clear ha1 ha2 hb1 hb2 hp1 hp2 hbel HCA HCB
          go_wp2_with fail
          refine A1.out.mono ?_
          rintro e w' ⟨rfl, rfl⟩
          go_wp2_with fail
          refine A2.out.mono ?_
          rintro e w' ⟨rfl, rfl⟩
          go_wp2_with fail
          refine B1.out.mono ?_
          rintro e w' ⟨rfl, rfl⟩
          go_wp2_with fail
          refine B2.out.mono ?_
          rintro e w' ⟨rfl, rfl⟩
          go_wp2
          go_ret
          exact ⟨rfl, HBL.out⟩
/-- In the form of the row. -/
theorem transTables_row (w : World) (n : Int) (_ : -9223372036854775808 ≤ n ∧ n ≤ 9223372036854775807) (A : Option Addr) (ca : Nat) (l : List OpV) (hA : opKd.C w A l.length l) (B : Option Addr) (cb : Nat) (m : List OpV) (hB : opKd.C w B m.length m) :
    Calls Try.prog 8 #[.int .i64 n, .slice A l.length ca, .slice B m.length cb] w fun e w' => e = .returned (.bool true) ∧ Below w.heap.size w w' :=
  transTables_any w n A ca l hA B cb m hB
end Go.Proofs.Ytpebnldoimoahaa
