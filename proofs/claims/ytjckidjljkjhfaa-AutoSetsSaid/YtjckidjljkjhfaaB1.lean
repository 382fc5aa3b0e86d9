/- Merged by tools/merge2.py out of: XLentM XStayM XLnA XApartM XApN (a claim bears 60 files at most). -/
import Derived.Test.YtjckidjljkjhfaaA1
import Derived.Test.YtjckidjljkjhfaaWRepsOne
import Derived.Test.YtjckidjljkjhfaaWApart
import Derived.Test.YtjckidjljkjhfaaWShare
import Derived.Test.YtjckidjljkjhfaaWMore
namespace Go.Proofs.Ytjckidjljkjhfaa
open Go.RowKit Go.Proofs.YtjckidjljkjhfaaW.PrintWords Go.Proofs.YtjckidjljkjhfaaW.PrintLast Go.Proofs.YtjckidjljkjhfaaW.PrintMore
/-- A lent list: its room reads on with two marks. -/
def LentR (l : List Int) (w : World) (e : Ending) (w' : World) : Prop :=
  ∃ A c, e = .returned (.slice A l.length c) ∧ Own w' w.heap.size (.slice A (l ++ [(-77), (-78)]).length c) (l ++ [(-77), (-78)]) ∧ Below w.heap.size w w'
set_option maxRecDepth 100000 in
set_option maxHeartbeats 4000000 in
theorem lent_any (A0 : Option Addr) (c0 : Nat) (l0 : List Int) (w : World) (hr0 : Kd.C (Kd.int .i64) w A0 l0.length l0) (hlen : l0.length ≤ 17592186043904) :
    Calls Try.prog 50 #[.slice A0 l0.length c0] w (LentR l0 w) := by
  have HR0 := Aside0.mk hr0
  have HLEN := Aside0.mk hlen
  clear hr0 hlen
  have HB := Aside0.mk (Below.refl w.heap.size w)
  obtain ⟨y101, hy101⟩ : ∃ y_ : List Int, y_ = (([] : List Int)) := ⟨_, rfl⟩
  have Ny101 := Aside0.mk hy101
  clear hy101
  obtain ⟨y104, hy104⟩ : ∃ y_ : List Int, y_ = (y101 ++ l0) := ⟨_, rfl⟩
  have Ny104 := Aside0.mk hy104
  clear hy104
  obtain ⟨y107, hy107⟩ : ∃ y_ : List Int, y_ = (([(-77), (-78)] : List Int)) := ⟨_, rfl⟩
  have Ny107 := Aside0.mk hy107
  clear hy107
  obtain ⟨y110, hy110⟩ : ∃ y_ : List Int, y_ = (y104 ++ y107) := ⟨_, rfl⟩
  have Ny110 := Aside0.mk hy110
  clear hy110
  have h104 : y104.length = l0.length := by rw [Ny104.out, Ny101.out]; simp
  have h107 : y107.length = 2 := by rw [Ny107.out]; rfl
  have h101 : y101.length = 0 := by rw [Ny101.out]; rfl
  have h110 : y110.length = l0.length + 2 := by rw [Ny110.out, List.length_append, h104, h107]
  have LM101 := Aside0.mk h101
  have LM104 := Aside0.mk h104
  have LM107 := Aside0.mk h107
  have LM110 := Aside0.mk h110
  have c5b1 : decide ((l0.length : Int) ≤ (y110.length : Int)) = true := decide_eq_true (by omega)
  clear h101 h104 h107 h110
  go_enter Try.func50, Try.ntmps50
  go_wp2_with (first | ((with_reducible refine gate_dst (N := 4) rfl ?_); refine Kd.R_lit (Kd.int .i64) _ 3 ?hg (N := 4) ?hd (xs := ([] : List Int)) (inner := []) (ok := fun _ => True) (okp := fun _ => True) ?hr ?hp (fun _ hk => hk) trivial (Below.refl _ _) (Nat.le_refl _) (by simp) ?_; (case hd => rfl); (case hg => rfl); (case hr => first | (go_simp; done) | (go_simp; rfl)); (case hp => exact (Reps.none _ _)); intro v102 w6 ho7 hb hg_ hnew_; clear hg_ hnew_; (first | rw [← Ny101.out] at ho7 | (simp only [Int.reduceToNat] at ho7; rw [← Ny101.out] at ho7)); have n0_ := Aside0.mk (Kd.R_lower ho7 (below_size (by repeat (first | (with_reducible first | exact HB.out | apply below_alloc | apply pw_below_drewN | apply below_drew1) | exact HB.out)))); have n1_ := Aside0.mk (below_step (by repeat (first | (with_reducible first | exact HB.out | apply below_alloc | apply pw_below_drewN | apply below_drew1) | exact HB.out)) hb); clear HB; have HO103 := n0_; have HB := n1_; clear n0_ n1_; clear hb ho7) | ((with_reducible refine gate_builtin (b := .append) (xs := #[.tmp 4, .tmp 5]) rfl ?_); at_builtin; refine Kd.R_append_rows (Kd.int .i64) (w0 := w) w.heap.size rfl (.tmp 4) (.tmp 5) 22 3 (.int .i64 0) 8 rfl Try.underlying22 info_int rfl (by decide) (by omega) v102 y101 l0 _ _ _ (fun _ => True) (fun _ => False) rfl rfl ?aO ?aR (fun _ _ h => h) (fun _ h => h.elim) ?aF ?aB ?aS ?aL ?_; (case aR => repeat (first | exact (Kd.C_below HR0.out HB.out) | (with_reducible refine Kd.C_alloc ?_ _) | (with_reducible refine Kd.C_drewN ?_ _) | (with_reducible refine Kd.C_drew ?_))); (case aB => exact (by repeat (first | (with_reducible first | exact HB.out | apply below_alloc | apply pw_below_drewN | apply below_drew1) | exact HB.out))); (case aF => exact (fun _ _ => trivial)); (case aO => exact (by (with_reducible repeat (first | apply Kd.R_alloc | apply Kd.R_drewN | apply Kd.R_drew)); exact HO103.out)); (case aS => exact (below_size (by repeat (first | (with_reducible first | exact HB.out | apply below_alloc | apply pw_below_drewN | apply below_drew1) | exact HB.out)))); (case aL => have := HLEN.out; have := LM101.out; omega); intro v105 w8 ho hb hg hat; rw [← Ny104.out] at ho; have n0_ := Aside0.mk (hb); have n1_ := Aside0.mk (ho); clear HB; clear HO103; have HB := n0_; have HO106 := n1_; clear n0_ n1_; clear ho hb hg hat) | ((with_reducible refine gate_dst (N := 8) rfl ?_); refine Kd.R_lit (Kd.int .i64) _ 3 ?hg (N := 8) ?hd (xs := ([(-77), (-78)] : List Int)) (inner := [.int .i64 (-77), .int .i64 (-78)]) (ok := fun _ => True) (okp := fun _ => True) ?hr ?hp (fun _ hk => hk) trivial (Below.refl _ _) (Nat.le_refl _) (by simp) ?_; (case hd => rfl); (case hg => rfl); (case hr => first | (go_simp; done) | (go_simp; rfl)); (case hp => exact (Reps.one (show Kd.M (Kd.int .i64) _ _ _ (-77) [.int .i64 (-77)] from rfl) (Reps.one (show Kd.M (Kd.int .i64) _ _ _ (-78) [.int .i64 (-78)] from rfl) (Reps.none _ _)))); intro v108 w9 ho10 hb hg_ hnew_; clear hg_ hnew_; (first | rw [← Ny107.out] at ho10 | (simp only [Int.reduceToNat] at ho10; rw [← Ny107.out] at ho10)); have n0_ := Aside0.mk (Kd.R_elder' (by (with_reducible repeat (first | apply Kd.R_alloc | apply Kd.R_drewN | apply Kd.R_drew)); exact HO106.out) (Kd.R_base ho10) hb); have n1_ := Aside0.mk (Kd.R_lower (Kd.R_new' ho10 (Kd.R_lt (by (with_reducible repeat (first | apply Kd.R_alloc | apply Kd.R_drewN | apply Kd.R_drew)); exact HO106.out))) (below_size (by repeat (first | (with_reducible first | exact HB.out | apply below_alloc | apply pw_below_drewN | apply below_drew1) | exact HB.out)))); have n2_ := Aside0.mk (below_step (by repeat (first | (with_reducible first | exact HB.out | apply below_alloc | apply pw_below_drewN | apply below_drew1) | exact HB.out)) hb); clear HO106; clear HB; have HO106 := n0_; have HO109 := n1_; have HB := n2_; clear n0_ n1_ n2_; clear hb ho10; obtain ⟨Ao12, co12, eo12⟩ := Kd.R_slice HO109.out; subst eo12) | ((with_reducible refine gate_builtin (b := .append) (xs := #[.tmp 7, .tmp 8]) rfl ?_); at_builtin; refine Kd.R_append_rows (Kd.int .i64) (w0 := w) w.heap.size rfl (.tmp 7) (.tmp 8) 22 3 (.int .i64 0) 8 rfl Try.underlying22 info_int rfl (by decide) (by omega) v105 y104 y107 _ _ _ (fun k_ => some k_ ≠ (.slice Ao12 y107.length co12 : Value).ownBlock) (fun _ => False) rfl rfl ?aO ?aR (fun _ _ h => h) (fun _ h => h.elim) ?aF ?aB ?aS ?aL ?_; (case aR => repeat (first | exact (Kd.R_reads' HO109.out).2.2 | (with_reducible refine Kd.C_alloc ?_ _) | (with_reducible refine Kd.C_drewN ?_ _) | (with_reducible refine Kd.C_drew ?_))); (case aB => exact (by repeat (first | (with_reducible first | exact HB.out | apply below_alloc | apply pw_below_drewN | apply below_drew1) | exact HB.out))); (case aF => exact (fun k_ hk => Kd.fresh' (Kd.R_lt (by (with_reducible repeat (first | apply Kd.R_alloc | apply Kd.R_drewN | apply Kd.R_drew)); exact HO109.out)) k_ hk)); (case aO => exact (by (with_reducible repeat (first | apply Kd.R_alloc | apply Kd.R_drewN | apply Kd.R_drew)); exact Kd.R_mono HO106.out (fun _ hk => hk.2))); (case aS => exact (below_size (by repeat (first | (with_reducible first | exact HB.out | apply below_alloc | apply pw_below_drewN | apply below_drew1) | exact HB.out)))); (case aL => have := HLEN.out; have := LM104.out; have := LM107.out; omega); intro v111 w11 ho hb hg hat; rw [← Ny110.out] at ho; have n1_ := Aside0.mk (hb); have n2_ := Aside0.mk (ho); clear HO109; clear HB; clear HO106; have HB := n1_; have HO112 := n2_; clear n1_ n2_; clear ho hb hg hat; obtain ⟨Ao13, co13, eo13⟩ := Kd.R_slice HO112.out; subst eo13; have q14 : ((l0.length : Int) : Int) ≤ ((y110.length : Int) : Int) := of_decide_eq_true (by first | (with_reducible assumption) | assumption); obtain ⟨i014, hi014, _, hsz14, _⟩ := info_parts info_int; have hcut14 := cut_to (P := Try.prog) 22 3 .i64 Try.underlying22 hi014 Ao13 y110.length co13 (l0.length : Int) (by omega) q14 (Kd.R_reads' HO112.out).2.1; clear hi014 hsz14; replace q14 := eq_true q14))

  go_ret
  refine ⟨Ao13, co13, by simp, ?_, HB.out⟩
  have e : y110 = l0 ++ [(-77), (-78)] := by rw [Ny110.out, Ny104.out, Ny101.out, Ny107.out]; rfl
  rw [← e]
  exact Kd.R_mono HO112.out (fun _ _ => trivial)
end Go.Proofs.Ytjckidjljkjhfaa

namespace Go.Proofs.Ytjckidjljkjhfaa
open Go.RowKit Go.Proofs.YtjckidjljkjhfaaW.PrintWords Go.Proofs.YtjckidjljkjhfaaW.PrintLast Go.Proofs.YtjckidjljkjhfaaW.PrintMore
set_option maxRecDepth 100000 in
set_option maxHeartbeats 800000 in
theorem same_any (A : Option Addr) (c : Nat) (l : List Int) (B : Option Addr) (d : Nat) (m : List Int) (w : World) (hA : Kd.C (Kd.int .i64) w A l.length l) (hB : Kd.C (Kd.int .i64) w B m.length m) :
    Calls Try.prog 61 #[.slice A l.length c, .slice B m.length d] w fun e w' => e = .returned (.bool (decide (l = m))) ∧ Below w.heap.size w w' := by
  have HA := Aside0.mk hA
  have HB := Aside0.mk hB
  have hmax := Kd.C_max hA
  clear hA hB
  by_cases hlen : l.length = m.length
  · have HE := Lib.hid hlen
    have h1 : ((l.length : Int) != (m.length : Int)) = false := by rw [bne_eq_false_iff_eq]; omega
    have h2 : (l.length != m.length) = false := by rw [bne_eq_false_iff_eq]; omega
    clear hlen
    go_enter Try.func61, Try.ntmps61
    go_wp2
    go_loopw [5] (fun i wr => ∃ k : Nat, k ≤ l.length ∧ i = .int .i64 k ∧ Hid (∀ j : Nat, j < k → rd l j = rd m j) ∧ Hid (Below w.heap.size w wr)) (fun i _ => l.length - (intOf i).toNat)
    case atStart => exact ⟨0, by omega, rfl, Lib.hid (by omega), Lib.hid (Below.refl _ _)⟩
    case round =>
      obtain ⟨k, hk, rfl, HI, H⟩ := hrel
      by_cases hkl : k < l.length
      · obtain ⟨ad, rfl, hcell⟩ := Kd.at_int (Kd.C_below HA.out H.out) k (by omega) (by omega)
        have hkm : k < m.length := by have := HE.out; omega
        obtain ⟨bd, rfl, hcell2⟩ := Kd.at_int (Kd.C_below HB.out H.out) k (by omega) (by omega)
        rw [Int.toNat_natCast] at hcell hcell2
        by_cases hp : rd l k = rd m k
        · have HI2 : Hid (∀ j : Nat, j < k + 1 → rd l j = rd m j) := Lib.hid (fun i hi => by
            by_cases e : i = k
            · subst e; exact hp
            · exact HI.out i (by omega))
          rw [← hp] at hcell2
          have hpb : (rd l k != rd l k) = false := by simp
          clear hp
          generalize rd l k = p at *
          go_wp2
          go_quiet (fail)
          go_wp2
          go_roundw
          case rel => exact ⟨k+1, by omega, by go_num, HI2, Lib.hid (bl_drewN H.out _)⟩
          case measure => simp [intOf]; omega
        · have hpb : (rd l k != rd m k) = true := by rw [bne_iff_ne]; exact hp
          have HN := Lib.hid (list_ne hp)
          clear hp
          generalize rd l k = p at *
          generalize rd m k = q at *
          go_wp2
          go_quiet (fail)
          go_wp2
          go_ret
          exact ⟨by rw [decide_eq_false HN.out]; rfl, bl_drewN H.out _⟩
      · have : k = l.length := by omega
        subst this
        have HN := Lib.hid (list_eq HE.out HI.out)
        go_wp2
        go_ret
        exact ⟨by rw [decide_eq_true HN.out]; rfl, H.out⟩
  · have HN : Hid (l ≠ m) := Lib.hid (fun e => hlen (by rw [e]))
    have h1 : ((l.length : Int) != (m.length : Int)) = true := by rw [bne_iff_ne]; omega
    have h2 : (l.length != m.length) = true := by rw [bne_iff_ne]; omega
    go_enter Try.func61, Try.ntmps61
    go_wp2
    go_ret
    exact ⟨by rw [decide_eq_false HN.out]; rfl, Below.refl _ _⟩
theorem cut_up {P : Program} (t e : TypeId) (kh : IntKind) {i : TypeInfo} (ht : P.underlying t = some (.slice e)) (hi : P.info? e = some i) (A : Option Addr) (n c : Nat) (j : Int) (h0 : 0 ≤ j) (hm : j ≤ c) :
    ∀ W : World, (Instr.slice t (.slice A n c) none (some (.int kh j)) none).run P W = .ok (.slice A j.toNat c) W := by
  intro W
  have hel : P.elem t = e := by simp [Program.elem, ht]
  have hu : P.underlying t = some (.slice (P.elem t)) := by rw [hel]; exact ht
  have ha : (A.map fun x => x.add 0) = A := by cases A <;> simp [Addr.add]
  rw [run_slice_h W t A n c hu kh j h0 (by omega), hel]
  simp [sizeOf, typeInfo, hi, sliced, Result.andThen, ha]
theorem rd_end1 (l : List Int) (a b : Int) : rd (l ++ [a, b]) (l.length : Int) = a := by
  unfold rd
  rw [Int.toNat_natCast, List.getD_eq_getElem?_getD, List.getElem?_append_right (Nat.le_refl _), Nat.sub_self]; rfl
theorem rd_end2 (l : List Int) (a b : Int) : rd (l ++ [a, b]) ((l.length : Int) + 1) = b := by
  unfold rd
  rw [show ((l.length : Int) + 1).toNat = l.length + 1 by omega, List.getD_eq_getElem?_getD, List.getElem?_append_right (by omega), Nat.add_sub_cancel_left]; rfl
/-- What was lent stays: StayInts says so. -/
theorem stay_any (A : Option Addr) (c : Nat) (l : List Int) (B : Option Addr) (d : Nat) (w : World) (hlen : l.length ≤ 17592186043904) (hA : Kd.C (Kd.int .i64) w A (l ++ [(-77), (-78)]).length (l ++ [(-77), (-78)])) (hc : l.length + 2 ≤ c) (hB : Kd.C (Kd.int .i64) w B l.length l) :
    Calls Try.prog 54 #[.slice A l.length c, .slice B l.length d] w fun e w' => e = .returned (.bool true) ∧ Below w.heap.size w w' := by
  have HA := Aside0.mk hA
  have HB := Aside0.mk hB
  clear hA hB
  obtain ⟨i0, hi0, hz1, hz0, hz2⟩ := info_parts info_int
  have hcut1 := cut_up (P := Try.prog) 22 3 .i64 Try.underlying22 hi0 A l.length c ((l.length : Int) + 2) (by omega) (by omega)
  have hcut2 := cut_up (P := Try.prog) 22 3 .i64 Try.underlying22 hi0 A (l.length + 2) c (l.length : Int) (by omega) (by omega)
  rw [show ((l.length : Int) + 2).toNat = l.length + 2 by omega] at hcut1
  rw [Int.toNat_natCast] at hcut2
  clear hi0 hz0 hz1 hz2
  go_enter Try.func54, Try.ntmps54
  go_wp2_with fail
  have hpre : Kd.C (Kd.int .i64) w A l.length l := by
    have := Kd.C_take (m := l.length) HA.out (by simp)
    simpa using this
  refine (same_any A c l B d l _ hpre HB.out).mono ?_
  clear hpre
  rintro e w1 ⟨rfl, hb⟩
  rw [decide_eq_true rfl]
  have hl2 : (l ++ [(-77), (-78)]).length = l.length + 2 := by simp
  obtain ⟨ad, rfl, hcell1⟩ := Kd.at_int (Kd.C_below HA.out hb) l.length (by omega) (by omega)
  obtain ⟨ad2, e2, hcell2⟩ := Kd.at_int (Kd.C_below HA.out hb) ((l.length : Int) + 1) (by omega) (by omega)
  obtain rfl := Option.some.inj e2
  rw [Int.toNat_natCast, rd_end1] at hcell1
  rw [show ((l.length : Int) + 1).toNat = l.length + 1 by omega, rd_end2] at hcell2
  rw [Addr.add, if_neg (by omega)] at hcell2
  have HBL := Lib.hid hb
  clear hb e2 hl2
  go_wp2
  go_ret
  exact ⟨rfl, HBL.out⟩
end Go.Proofs.Ytjckidjljkjhfaa

namespace Go.Proofs.Ytjckidjljkjhfaa
open Go.RowKit Go.Proofs.YtjckidjljkjhfaaW.PrintWords
set_option linter.unusedSimpArgs false
set_option linter.unusedVariables false
/-- A lent automaton: its list of letters with two marks behind it, its list of accepted states. -/
def LentA (x : AutV) (w w' : World) (X : Option Addr) (xc : Nat) (Y : Option Addr) (yc : Nat) : Prop :=
  Own w' w.heap.size (.slice X (x.next ++ [(-77), (-78)]).length xc) (x.next ++ [(-77), (-78)]) ∧ Kd.R Kd.bool 4 w' w.heap.size (fun _ => True) (.slice Y x.acc.length yc) x.acc ∧ Below w.heap.size w w'
/-- Where the call stands: the parameter's block, the result's. -/
def LS (w : World) (AA : Obj) (w' : World) : Prop := w'.heap[w.heap.size]? = some AA ∧ (∃ rs : Array Value, rs.size = 3 ∧ w'.heap[w.heap.size + 1]? = some (.cells rs 25 (0, 0))) ∧ Below w.heap.size w w'
theorem LS.keep {w u v : World} {AA : Obj} (h : LS w AA u) (hb : Below u.heap.size u v) : LS w AA v := ⟨hp_below' hb h.1, h.2.1.imp fun rs hr => ⟨hr.1, hp_below' hb hr.2⟩, bl_then h.2.2 hb⟩
theorem LS.lit {w u v : World} {AA : Obj} (h : LS w AA u) (hg : u.grownBy v none) (hb : Below w.heap.size w v) : LS w AA v := ⟨(hg.block _ (hp_lt h.1) (by simp)).trans h.1, h.2.1.imp fun rs hr => ⟨hr.1, (hg.block _ (hp_lt hr.2) (by simp)).trans hr.2⟩, hb⟩
theorem LS.app {w u v : World} {cs : Array Value} (h : LS w (.cells cs 25 (0, 0)) u) {α : Type} {d : Kd α} {e : Nat} {ok : Nat → Prop} {y y1 : Value} {xs : List α} {base : Nat} (ha : App u v y y1) (ho : d.R e u base ok y xs) (hne : e ≠ 25) (hb : Below w.heap.size w v) : LS w (.cells cs 25 (0, 0)) v :=
  ⟨ha.cells h.1 ho hne, h.2.1.imp fun rs hr => ⟨hr.1, ha.cells hr.2 ho hne⟩, hb⟩
set_option maxRecDepth 100000 in
set_option maxHeartbeats 4000000 in
theorem lenta_any (x : AutV) (A : Option Addr) (c : Nat) (B : Option Addr) (d : Nat) (hz : AutSz x c d) (w : World) (hr : ARd w x A B) :
    Calls Try.prog 12 #[.agg (ac x A c B d)] w fun e w' => ∃ X xc Y yc, e = .returned (.agg (ac x X xc Y yc)) ∧ LentA x w w' X xc Y yc := by
  have HR := Aside0.mk hr
  obtain ⟨hz1, hz2, hz3, hz4⟩ := hz
  have HLN := Aside0.mk (fun (W : World) (h : ARd W x A B) => lent_any A c x.next W h.next (by omega))
  have H0 := Lib.hid (hp_old (o := .cells #[.int .i64 0, .slice none 0 0, .slice none 0 0] 25) (hp_new (w := w) (o := AB x A c B d) rfl))
  have H1 := Lib.hid (hp_new (w := w.alloc (AB x A c B d)) (o := .cells #[.int .i64 0, .slice none 0 0, .slice none 0 0] 25) rfl)
  have HB := Lib.hid (bl_alloc (bl_alloc (Below.refl w.heap.size w) (AB x A c B d)) (.cells #[.int .i64 0, .slice none 0 0, .slice none 0 0] 25))
  rw [World.size_alloc] at H1
  clear hr
  go_enter Try.func12, Try.ntmps12
  go_wp2
  refine wp_region_held_drew (S := LS w (AB x A c B d)) (by kernel_rfl) ⟨H0.out, ⟨_, rfl, H1.out⟩, HB.out.drew⟩ (fun hS => ?_)
  refine any_take (i := 0) (v := ?v3) rfl (by kernel_rfl) (by kernel_rfl) (by kernel_rfl) (fun _ _ _ h => h) hS (.inl ⟨by rfl, ?y3⟩) ?_
  case y3 => (intro w' h'; go_simp; with_reducible rfl)
  (try simp only [Act.put, List.setIfInBounds_toArray, List.set_cons_zero, List.set_cons_succ])
  refine any_take (i := 1) (v := (.int .i64 x.k)) rfl (by kernel_rfl) (by kernel_rfl) (by kernel_rfl) (fun _ _ _ h => h) hS (yi_cell _ _ rfl (by rfl) ⟨w.heap.size, 0, none⟩ rfl _ Try.underlying3 rfl (fun w' h' => (by rw [cell_of_row _ _ _ _ _ _ h'.1]; rfl))) ?_
  (try simp only [Act.put, List.setIfInBounds_toArray, List.set_cons_zero, List.set_cons_succ])
  refine any_take (i := 2) (v := ?v6) rfl (by kernel_rfl) (by kernel_rfl) (by kernel_rfl) (fun _ _ _ h => h) hS (.inl ⟨by rfl, ?y6⟩) ?_
  case y6 => (intro w' h'; go_simp; with_reducible rfl)
  (try simp only [Act.put, List.setIfInBounds_toArray, List.set_cons_zero, List.set_cons_succ])
  refine any_take (i := 3) (v := (.slice A x.next.length c)) rfl (by kernel_rfl) (by kernel_rfl) (by kernel_rfl) (fun _ _ _ h => h) hS (yi_cell _ _ rfl (by rfl) ⟨w.heap.size, 1, none⟩ rfl _ Try.underlying22 rfl (fun w' h' => (by rw [cell_of_row _ _ _ _ _ _ h'.1]; rfl))) ?_
  (try simp only [Act.put, List.setIfInBounds_toArray, List.set_cons_zero, List.set_cons_succ])
  refine any_take (i := 6) (v := ?v9) rfl (by kernel_rfl) (by kernel_rfl) (by kernel_rfl) (fun _ _ _ h => h) hS (.inl ⟨by rfl, ?y9⟩) ?_
  case y9 => (intro w' h'; go_simp; with_reducible rfl)
  (try simp only [Act.put, List.setIfInBounds_toArray, List.set_cons_zero, List.set_cons_succ])
  refine any_take (i := 7) (v := (.slice B x.acc.length d)) rfl (by kernel_rfl) (by kernel_rfl) (by kernel_rfl) (fun _ _ _ h => h) hS (yi_cell _ _ rfl (by rfl) ⟨w.heap.size, 2, none⟩ rfl _ Try.underlying23 rfl (fun w' h' => (by rw [cell_of_row _ _ _ _ _ _ h'.1]; rfl))) ?_
  (try simp only [Act.put, List.setIfInBounds_toArray, List.set_cons_zero, List.set_cons_succ])
  refine any_join (i := 4) (j := 5)
    (fun v w' => ∃ X xc, v = .slice X x.next.length xc ∧ LS w (AB x A c B d) w' ∧ Own w' w.heap.size (.slice X (x.next ++ [(-77), (-78)]).length xc) (x.next ++ [(-77), (-78)]))
    (fun u w' => LS w (AB x A c B d) w' ∧ Kd.R Kd.bool 4 w' w.heap.size (fun _ => True) u [])
    (fun v u w' => ∃ X xc, v = .slice X x.next.length xc ∧ LS w (AB x A c B d) w' ∧ Own w' w.heap.size (.slice X (x.next ++ [(-77), (-78)]).length xc) (x.next ++ [(-77), (-78)]) ∧ Kd.R Kd.bool 4 w' w.heap.size (fun _ => True) u [])
    rfl rfl (by kernel_rfl) (by kernel_rfl) (by kernel_rfl) rfl rfl (by decide) ?s1 ?s2 ?s12 ?s21 ?hc (fun v w' ⟨X, xc, _, h, _⟩ => h) (fun u w' h => h.1) (fun v u w' ⟨X, xc, _, h, _⟩ => h) ?hh
  case s1 =>
    intro K hK
    refine wp_call 50 #[.slice A x.next.length c] (by simp [go_sem]) (HLN.out _ (HR.out.below hS.2.2)) ?_
    rintro e w' ⟨X, xc, rfl, ho, hb⟩
    exact ⟨_, rfl, hK _ _ ⟨X, xc, rfl, hS.keep hb, Kd.R_lower ho hS.2.2.size⟩⟩
  case s2 =>
    intro K hK
    exact wp_lit Kd.bool (w0 := w) w.heap.size 4 rfl (N := 8) rfl (xs := ([] : List Bool)) (inner := []) (by first | (go_simp; done) | (go_simp; rfl)) (Reps.none _ _) hS.2.2 hS.2.2.size (by simp) (fun v1 w1 ho hb hg hn => hK v1 w1 ⟨hS.lit hg hb, ho⟩)
  case s12 =>
    rintro v w1 ⟨X, xc, rfl, g, go⟩ K hK
    exact wp_lit Kd.bool (w0 := w) w.heap.size 4 rfl (N := 8) rfl (xs := ([] : List Bool)) (inner := []) (by first | (go_simp; done) | (go_simp; rfl)) (Reps.none _ _) g.2.2 g.2.2.size (by simp) (fun v1 w2 ho hb hg hn => hK v1 w2 ⟨X, xc, rfl, g.lit hg hb, Kd.R_grown go hg (fun _ _ => by simp), ho⟩)
  case s21 =>
    rintro u w1 ⟨g, go⟩ K hK
    refine wp_call 50 #[.slice A x.next.length c] (by simp [go_sem]) (HLN.out _ (HR.out.below g.2.2)) ?_
    rintro e w' ⟨X, xc, rfl, ho, hb⟩
    exact ⟨_, rfl, hK _ _ ⟨X, xc, rfl, g.keep hb, Kd.R_lower ho g.2.2.size, Kd.R_below go hb⟩⟩
  case hc => intro u v; rfl
  case hh =>
    rintro v u w1 ⟨X, xc, rfl, g, go, gu⟩
    (try simp only [Act.put, List.setIfInBounds_toArray, List.set_cons_zero, List.set_cons_succ])
    refine any_one (i := 8) rfl (by kernel_rfl) (by rfl) (wp_appends Value.bool (w0 := w) w.heap.size rfl _ _ 23 4 (.bool false) 1 rfl Try.underlying23 info_bool rfl (by decide) u [] x.acc B x.acc.length d rfl rfl gu (Kd.C_below HR.out.acc g.2.2) g.2.2 g.2.2.size (by simp; omega) (fun v1 w2 ho hb ha => ?_))
    have k3 := (ha.own rfl go (sep_type go gu (by decide))).1
    have hS2 := g.app ha gu (by decide) hb
    rw [List.nil_append] at ho
    obtain ⟨Y, yc, rfl⟩ := Kd.R_slice ho
    refine ⟨hS2, ?_⟩
    (try simp only [Act.put, List.setIfInBounds_toArray, List.set_cons_zero, List.set_cons_succ])
    refine any_take (i := 9) (v := ?v15) rfl (by kernel_rfl) (by kernel_rfl) (by kernel_rfl) (fun _ _ _ h => h) hS2 (.inl ⟨by rfl, ?y15⟩) ?_
    case y15 => (intro w' h'; go_simp; with_reducible rfl)
    (try simp only [Act.put, List.setIfInBounds_toArray, List.set_cons_zero, List.set_cons_succ])
    obtain ⟨rs, hr1, hr2⟩ := hS2.2.1
    have hS3 : LS w (AB x A c B d) (w2.setRow (w.heap.size + 1) (ac x X xc Y yc)) := ⟨hp_row (by omega) hS2.1, ⟨_, rfl, setRow_heap _ _ _ _ _ _ hr2⟩, bl_row hb (by omega) _⟩
    refine any_row (i := 10) rfl (by kernel_rfl) (by rfl) 25 _ _ rfl (w.heap.size + 1) (ac x X xc Y yc) rfl rfl 25 rs hr2 (by show _ = some 3; kernel_rfl) hr1 (by simp [Value.oneCell']) hS3 ?_
    (try simp only [Act.put, List.setIfInBounds_toArray, List.set_cons_zero, List.set_cons_succ])
    refine wpAnyH_done (by kernel_rfl) ?_ _
    have HO1 := Aside0.mk (own_rowT hr2 k3 (by decide) rfl (ac x X xc Y yc)); have HO2 := Aside0.mk (own_rowT hr2 ho (by decide) rfl (ac x X xc Y yc))
    have HS3 := Lib.hid hS3
    have HR2 := Lib.hid hr2
    clear hS3 hr1 hr2 hS2 ho hb ha k3 g go gu hS
    go_wp2
    refine bodyPost_ret (v := .agg (ac x X xc Y yc)) ?_ rfl ⟨X, xc, Y, yc, rfl, HO1.out, HO2.out, HS3.out.2.2⟩
    exact results_cell_row rfl _ _ (w.heap.size + 1) 25 _ _ _ rfl (setRow_heap _ _ _ _ _ _ HR2.out) Try.underlying25 rfl (by show _ = some 3; kernel_rfl)
end Go.Proofs.Ytjckidjljkjhfaa

namespace Go.Proofs.Ytjckidjljkjhfaa
open Go.RowKit Go.Proofs.YtjckidjljkjhfaaW.PrintWords
set_option linter.unusedSimpArgs false
set_option linter.unusedVariables false
/-- What an append leaves of the list's own block. -/
structure Appd (w w' : World) (v v' : Value) (n : Nat) : Prop where
  grown : w.grownBy w' v.ownBlock
  pre : ∀ g, v.ownBlock = some g → ∀ j, j < n → w'.cell? ⟨g, j, none⟩ = w.cell? ⟨g, j, none⟩
  at_ : v'.ownBlock = v.ownBlock ∨ ∃ b, v'.ownBlock = some b ∧ w.heap.size ≤ b
theorem app_keep {P : Program} (w : World) (base : Nat) (t ty e : TypeId) (z : Value) (bytes : Nat) (ht : P.underlying t = some (.slice e)) (hinfo : (P.info? e).map (fun i => (i.zero, i.size, i.bytes)) = some (some z, 1, bytes)) (hzs : z.cells.size = 1)
    (v : Value) (n : Nat) (xs : List Value) (hown : w.ownsRow base e 1 v n xs) (a : Addr) (u : Value) (hu : w.cell? a = some u) (ha : a.add 0 = a) (h1 : u.oneCell' = true)
    (hn : n + 1 ≤ 9223372036854775807) (hbytes : (n + 1) * bytes ≤ 140737488355328) (hbase : base ≤ w.heap.size) :
    ∃ v' w', (Builtin.append_ #[t, t] ty #[v, .slice (some a) 1 1]).run P w = .ok v' w' ∧ w'.ownsRow base e 1 v' (n + 1) (xs ++ [u]) ∧ Appd w w' v v' n := by
  obtain ⟨i, hi, hz, hs, hb⟩ := info_parts hinfo
  have hnews : ∀ j x, [u][j]? = some x → w.cell? (a.add j) = some x := fun j x hx => by
    have hj : j < [u].length := (List.getElem?_eq_some_iff.1 hx).1
    obtain rfl : j = 0 := by simpa using hj
    rw [ha, hu]; exact hx
  have h1' : ∀ x ∈ [u], x.oneCell' = true := fun x hx => by rw [List.mem_singleton.1 hx]; exact h1
  obtain ⟨v', w', hr, ho, hg, _⟩ := run_append_own (P := P) w base t ty e i z 1 bytes ht hi hz hs hb hzs (by decide) v n xs hown a 1 1 [u] rfl hnews h1' (by unfold maxLen; omega) hbytes hbase
  refine ⟨v', w', hr, ho, hg, ?_, ?_⟩
  · intro g hgv j hj
    rcases hown.2 with ⟨rfl, _⟩ | ⟨g', cap, cur, rfl, hbg, hgc, hnc, hcm, hcs, htake⟩
    · simp [Value.ownBlock] at hgv
    · obtain rfl : g' = g := by simpa [Value.ownBlock] using hgv
      have hsz : cur.toList.length = cap := by rw [Array.length_toList, hcs, Nat.mul_one]
      by_cases hroom : n + 1 ≤ cap
      · have hr2 := run_append_room (P := P) w t ty e i ht hi g' n cap cur hgc a 1 1 [u] (by rw [hs]; rfl) hnews h1' hroom (by rw [hs, hcs]; simp; omega)
        rw [hr] at hr2
        injection hr2 with _ hw
        subst hw
        rw [cell_of_row _ _ _ _ _ _ (setRow_heap w g' cur _ e _ hgc), cell_of_row _ _ _ _ _ _ hgc]
        rw [hs, Nat.mul_one]
        simp only [List.getElem?_toArray]
        rw [List.append_assoc, List.getElem?_append_left (by rw [List.length_take]; omega), List.getElem?_take, if_pos hj, Array.getElem?_toList]
      · have holds : ∀ j x, xs[j]? = some x → w.cell? ((⟨g', 0, none⟩ : Addr).add j) = some x := hown.cells (g := g') rfl
        have hr2 := run_append_grow (P := P) w t ty e i z ht hi hz ⟨g', 0, none⟩ n cap xs (by rw [hs]; simpa using hown.1) holds a 1 1 [u] (by rw [hs]; rfl) hnews (by omega) (by omega) (growslice_fits (by omega) (by rw [hb]; exact hbytes))
        rw [hr] at hr2
        injection hr2 with _ hw
        subst hw
        have h3 : ((w.drew.alloc (.cells (xs.toArray ++ [u].toArray ++ Builtin.zeroCells z.cells (grownCap w (n + 1) cap e - (n + 1))) e)).heap[g']?) = w.heap[g']? := (hp_old (w := w.drew) hgc).trans hgc.symm
        exact World.cell?_of_block (a := ⟨g', j, none⟩) h3
  · rcases hown.2 with ⟨rfl, rfl⟩ | ⟨g', cap, cur, rfl, hbg, hgc, hnc, hcm, hcs, htake⟩
    · rcases ho.2 with ⟨rfl, _⟩ | ⟨b, cap', cur', rfl, _, hb2, _⟩
      · left; rfl
      · right
        refine ⟨b, rfl, ?_⟩
        have hr2 := run_append_nil (P := P) w t ty e i z ht hi hz a 1 1 [u] (by rw [hs]; rfl) hnews (by decide) (by decide) (by rw [hb]; omega)
        rw [hr] at hr2
        injection hr2 with hv _
        injection hv with hv _ _
        injection hv with hv
        injection hv with hv _ _
        omega
    · by_cases hroom : n + 1 ≤ cap
      · have hr2 := run_append_room (P := P) w t ty e i ht hi g' n cap cur hgc a 1 1 [u] (by rw [hs]; rfl) hnews h1' hroom (by rw [hs, hcs]; simp; omega)
        rw [hr] at hr2
        injection hr2 with hv _
        subst hv
        left; rfl
      · have holds : ∀ j x, xs[j]? = some x → w.cell? ((⟨g', 0, none⟩ : Addr).add j) = some x := hown.cells (g := g') rfl
        have hr2 := run_append_grow (P := P) w t ty e i z ht hi hz ⟨g', 0, none⟩ n cap xs (by rw [hs]; simpa using hown.1) holds a 1 1 [u] (by rw [hs]; rfl) hnews (by omega) (by omega) (growslice_fits (by omega) (by rw [hb]; exact hbytes))
        rw [hr] at hr2
        injection hr2 with hv _
        subst hv
        right; exact ⟨_, rfl, Nat.le_refl _⟩
section
variable {ops : Array Oper} {rest : List Oper} {o : Oper} {a : Act} {Q : Exit → Act → World → Prop} {W : World}
/-- append(v, p) in a walk: the list's cells stay. -/
theorem wpl_app (base : Nat) (hgd : o.guard = none) (s x : Operand) (ho : o.op = .call { callee := .builtin .append, args := #[s, x], argTypes := #[22, 22] })
    (v : Value) (xs : List Int) (p : Int) (ok : Nat → Prop) (hs : a.eval s = v) (hx : a.eval x = .slice (some ⟨W.heap.size, 0, none⟩) 1 1) (HO : Kd.R (Kd.int .i64) 3 W base ok v xs) (hfresh : ∀ k, W.heap.size ≤ k → ok k) (hbase : base ≤ W.heap.size) (hl : (xs.length + 1) * 8 ≤ 140737488355328)
    (h : ∀ v1 w1, Kd.R (Kd.int .i64) 3 w1 base ok v1 (xs ++ [p]) → Appd W w1 v v1 xs.length → wpList Try.prog ops Q rest (a.put o.dst v1) w1) : wpList Try.prog ops Q (o :: rest) a (W.alloc (.cells #[.int .i64 p] 3)) := by
  have hown := Kd.own_of_R HO
  have hcell : (W.alloc (.cells #[.int .i64 p] 3)).cell? ⟨W.heap.size, 0, none⟩ = some (.int .i64 p) := by rw [cell_of_row _ _ _ _ _ _ (hp_new rfl)]; rfl
  obtain ⟨v1, w1, hr, ho1, ha⟩ := app_keep (P := Try.prog) (W.alloc (.cells #[.int .i64 p] 3)) base 22 o.type 3 (.int .i64 0) 8 Try.underlying22 info_int rfl v xs.length _ (hown.alloc _) ⟨W.heap.size, 0, none⟩ (.int .i64 p) hcell (by simp [Addr.add]) rfl (by omega) hl (by rw [World.size_alloc]; omega)
  have hs1 : (W.alloc (.cells #[.int .i64 p] 3)).heap.size = W.heap.size + 1 := World.size_alloc _ _
  have hat : v1.ownBlock = v.ownBlock ∨ ∃ b, v1.ownBlock = some b ∧ W.heap.size ≤ b := by
    rcases ha.at_ with h1 | ⟨b, h1, h2⟩
    · exact .inl h1
    · exact .inr ⟨b, h1, by omega⟩
  have hnew : Kd.R (Kd.int .i64) 3 w1 base ok v1 (xs ++ [p]) := Kd.R_of_own (by rw [List.length_append, List.length_singleton]; simpa [encs] using ho1) (fun k hk => by
    rcases hat with h1 | ⟨b, h1, h2⟩
    · exact HO.1 k (by rw [← h1]; exact hk)
    · rw [h1] at hk; injection hk with hk; exact hfresh k (by omega))
  have hap : Appd W w1 v v1 xs.length := by
    refine ⟨⟨ha.grown.os, ha.grown.tape, ha.grown.output, by have := ha.grown.size; omega, fun k hk hne => (ha.grown.block k (by omega) hne).trans (Below.heap_alloc W _ k hk)⟩, fun g hg j hj => ?_, hat⟩
    rw [ha.pre g hg j hj]
    exact World.cell?_of_block (a := ⟨g, j, none⟩) (Below.heap_alloc W _ g (Kd.R_lt HO g hg))
  refine wpList_plain hgd fun K hK => ?_
  unfold Oper.wp execOp
  simp only [ho, resolve, invoke, builtin, Sem.run_bind, Sem.run_pure, Result.andThen_ok, List.map_toArray, List.map_cons, List.map_nil, hs, hx, hr]
  exact hK _ _ (h v1 w1 hnew hap)
end
/-- A row of slices. -/
def svKd : Kd Value where
  sz := 1
  E := []
  K := fun _ x cs => x.oneCell' = true ∧ cs = [x]
  M := fun _ _ _ x cs => x.oneCell' = true ∧ cs = [x]
  K_len := fun h => by rw [h.2]; rfl
  K_one := fun h u hu => by rw [h.2] at hu; rw [List.mem_singleton.1 hu]; exact h.1
  K_below := fun _ h => h
  K_of_M := fun h => h
  M_mono := fun _ h => h
  M_bound := fun h => h
  M_move := fun _ h => h
  M_lower := fun _ h => h
/-- The first m numbers of a list that begins its block are all x; the block has colour j. -/
def Same (w : World) (c : Nat → Nat) (j : Nat) (A : Option Addr) (m : Nat) (f : Nat → Int) : Prop := ∀ q, q < m → ∃ g, A = some ⟨g, 0, none⟩ ∧ g < w.heap.size ∧ c g = j ∧ w.cell? ⟨g, q, none⟩ = some (.int .i64 (f q))
theorem Same.frame {w w' : World} {c c' : Nat → Nat} {j : Nat} {A : Option Addr} {m : Nat} {f : Nat → Int} (h : Same w c j A m f) (hk : ∀ k, k < w.heap.size → c k = j → w'.heap[k]? = w.heap[k]?) (hc : ∀ k, k < w.heap.size → c' k = c k) (hs : w.heap.size ≤ w'.heap.size) : Same w' c' j A m f := fun q hq => by
  obtain ⟨g, h1, h2, h3, h4⟩ := h q hq
  exact ⟨g, h1, by omega, by rw [hc g h2, h3], by rw [World.cell?_of_block (a := ⟨g, q, none⟩) (hk g h2 h3), h4]⟩
theorem Same.of_R {w : World} {base : Nat} {c : Nat → Nat} {j : Nat} {A : Option Addr} {m cap : Nat} {xs : List Int} (h : Kd.R (Kd.int .i64) 3 w base (fun k => c k = j) (.slice A m cap) xs) : Same w c j A m (fun q => rd xs q) := fun q hq => by
  obtain ⟨hm, _, hC⟩ := Kd.R_reads' h
  obtain ⟨g, cp, hv, hb, hlt, _⟩ := Kd.R_form h (by omega)
  injection hv with hA _ _
  subst hA
  obtain ⟨ad, e, hc⟩ := Kd.at_int hC q (by omega) (by omega)
  cases e
  rw [Int.toNat_natCast, add_plain] at hc
  exact ⟨g, rfl, hlt, h.1 g rfl, hc⟩
/-- Behind an append onto the same list: what it held still stands where it stood. -/
theorem Same.app {w w' : World} {c : Nat → Nat} {j : Nat} {A : Option Addr} {m : Nat} {f : Nat → Int} {v v' : Value} {n : Nat} (h : Same w c j A m f) (ha : Appd w w' v v' n) (hm : m ≤ n) : Same w' c j A m f := fun q hq => by
  obtain ⟨g, h1, h2, h3, h4⟩ := h q hq
  refine ⟨g, h1, by have := ha.grown.size; omega, h3, ?_⟩
  by_cases hg : v.ownBlock = some g
  · rw [ha.pre g hg q (by omega), h4]
  · rw [World.cell?_of_block (a := ⟨g, q, none⟩) (ha.grown.block g h2 (fun e => hg e.symm)), h4]
end Go.Proofs.Ytjckidjljkjhfaa

namespace Go.Proofs.Ytjckidjljkjhfaa
open Go.RowKit Go.Proofs.YtjckidjljkjhfaaW.PrintWords
set_option linter.unusedSimpArgs false
set_option linter.unusedVariables false
/-- The row of slices that was handed in. -/
def Bx (w : World) (gb n : Nat) (A : Nat → Option Addr) (ln cp : Nat → Nat) : Prop := ∃ cells, w.heap[gb]? = some (.cells cells 22 (0, 0)) ∧ ∀ j, j < n → cells[j]? = some (.slice (A j) (ln j) (cp j))
theorem Bx.cell {w : World} {gb n : Nat} {A : Nat → Option Addr} {ln cp : Nat → Nat} (h : Bx w gb n A ln cp) {j : Nat} (hj : j < n) : w.cell? ⟨gb, j, none⟩ = some (.slice (A j) (ln j) (cp j)) := by
  obtain ⟨cells, h1, h2⟩ := h
  rw [cell_of_row _ _ _ _ _ _ h1, h2 j hj]
theorem Bx.of {w w' : World} {gb n : Nat} {A : Nat → Option Addr} {ln cp : Nat → Nat} (h : Bx w gb n A ln cp) (e : w'.heap[gb]? = w.heap[gb]?) : Bx w' gb n A ln cp := by
  obtain ⟨cells, h1, h2⟩ := h
  exact ⟨cells, e.trans h1, h2⟩
theorem Bx.lt {w : World} {gb n : Nat} {A : Nat → Option Addr} {ln cp : Nat → Nat} (h : Bx w gb n A ln cp) : gb < w.heap.size := by
  obtain ⟨cells, h1, h2⟩ := h
  exact hp_lt h1
abbrev RI (w : World) (base : Nat) (c : Nat → Nat) (j : Nat) (v : Value) (xs : List Int) : Prop := Kd.R (Kd.int .i64) 3 w base (fun k => c k = j) v xs
theorem R_frame {α : Type} {d : Kd α} {e base j : Nat} {w w' : World} {c c' : Nat → Nat} {v : Value} {xs : List α} (h : d.R e w base (fun k => c k = j) v xs) (hk : ∀ k, k < w.heap.size → c k = j → w'.heap[k]? = w.heap[k]?) (hc : ∀ k, k < w.heap.size → c' k = c k) : d.R e w' base (fun k => c' k = j) v xs :=
  Kd.R_mono (Kd.R_move (Kd.R_bound h) (fun k hb => hk k hb.2.2.1 hb.1)) (fun k hb => (hc k hb.2.2.1).trans hb.1)
section
variable {w0 w : World} {base gb n : Nat} {c : Nat → Nat} {A : Nat → Option Addr} {ln cp : Nat → Nat}
/-- The first loops: the lists below i are marked, i's first k numbers too. -/
structure L1 (w0 w : World) (base : Nat) (c : Nat → Nat) (gb n : Nat) (A : Nat → Option Addr) (ln cp : Nat → Nat) (i k : Nat) : Prop where
  box : Bx w gb n A ln cp
  bel : Below base w0 w
  cgb : c gb = n + 1
  row : ∀ j, j < n → ∃ xs, RI w base c j (.slice (A j) (ln j) (cp j)) xs ∧ xs.length = ln j ∧ (j < i → xs = List.replicate (ln j) (1000 + (j : Int))) ∧ (j = i → ∀ q : Nat, q < k → rd xs q = 1000 + (i : Int))
theorem rd_set (xs : List Int) (k q : Nat) (x : Int) (hk : k < xs.length) : rd (xs.set k x) q = if q = k then x else rd xs q := by
  unfold rd
  rw [Int.toNat_natCast, List.getD_eq_getElem?_getD, List.getD_eq_getElem?_getD]
  by_cases e : q = k
  · subst e; simp [hk]
  · rw [if_neg e, List.getElem?_set_ne (fun h => e h.symm)]
theorem rd_ext {xs ys : List Int} (hl : xs.length = ys.length) (h : ∀ q : Nat, q < xs.length → rd xs q = rd ys q) : xs = ys := by
  apply List.ext_getElem hl
  intro i h1 h2
  have := h i h1
  simpa only [rd, Int.toNat_natCast, List.getD_eq_getElem?_getD, List.getElem?_eq_getElem h1, List.getElem?_eq_getElem h2, Option.getD_some] using this
theorem rd_rep (m : Nat) (x : Int) (q : Nat) (h : q < m) : rd (List.replicate m x) q = x := by
  unfold rd
  rw [Int.toNat_natCast, List.getD_eq_getElem?_getD, List.getElem?_eq_getElem (by rw [List.length_replicate]; exact h)]
  simp
theorem L1.next {i : Nat} (h : L1 w0 w base c gb n A ln cp i (ln i)) : L1 w0 w base c gb n A ln cp (i + 1) 0 :=
  ⟨h.box, h.bel, h.cgb, fun j hj => by
    obtain ⟨xs, h1, h2, h3, h4⟩ := h.row j hj
    refine ⟨xs, h1, h2, fun hlt => ?_, fun _ q hq => absurd hq (by omega)⟩
    by_cases e : j = i
    · subst e
      exact rd_ext (by rw [h2, List.length_replicate]) (fun q hq => by rw [h4 rfl q (by omega), rd_rep _ _ _ (by omega)])
    · exact h3 (by omega)⟩
theorem L1.step {i k : Nat} (h : L1 w0 w base c gb n A ln cp i k) (hi : i < n) (hk : k < ln i) :
    ∃ g, A i = some ⟨g, 0, none⟩ ∧ (∃ u, w.cell? ⟨g, k, none⟩ = some u) ∧ w.frozen? ⟨g, k, none⟩ = false ∧ L1 w0 (w.setCell ⟨g, k, none⟩ (.int .i64 (1000 + (i : Int)))) base c gb n A ln cp i (k + 1) := by
  obtain ⟨xs, h1, h2, h3, h4⟩ := h.row i hi
  obtain ⟨g, cap, hv, hb, _, _⟩ := Kd.R_form h1 (by omega)
  injection hv with hA hl hc
  have hR : RI w base c i (.slice (some ⟨g, 0, none⟩) (ln i) (cp i)) xs := by rw [← hA]; exact h1
  have hcg : c g = i := hR.1 g rfl
  obtain ⟨e1, e2⟩ := Kd.R_celln (0 : Int) hR k (by omega) (by omega)
  rw [Int.toNat_natCast] at e1 e2
  refine ⟨g, hA, ⟨_, e1⟩, e2, ⟨h.box.of (heap_setCell_other _ _ _ _ (by show gb ≠ g; rintro rfl; have := h.cgb; omega)), h.bel.setCell (p := ⟨g, k, none⟩) hb _, h.cgb, fun j hj => ?_⟩⟩
  by_cases e : j = i
  · subst e
    have hp := Kd.R_putn hR (k : Int) (1000 + (j : Int))
    rw [Int.toNat_natCast] at hp
    refine ⟨xs.set k (1000 + (j : Int)), by rw [hA]; exact hp, by rw [List.length_set, h2], fun hlt => absurd hlt (by omega), fun _ q hq => ?_⟩
    rw [rd_set _ _ _ _ (by omega)]
    split
    · rfl
    · exact h4 rfl q (by omega)
  · obtain ⟨ys, k1, k2, k3, k4⟩ := h.row j hj
    exact ⟨ys, Kd.R_far k1 (p := ⟨g, k, none⟩) (fun k' hk' => by rintro rfl; exact e (hk'.symm.trans hcg)) _, k2, k3, fun e2 => absurd e2 e⟩
/-- The lists, marked. -/
def rep (ln : Nat → Nat) (j : Nat) : List Int := List.replicate (ln j) (1000 + (j : Int))
theorem rep_len (ln : Nat → Nat) (j : Nat) : (rep ln j).length = ln j := by simp [rep]
/-- A list that was grown. -/
def grw (ln : Nat → Nat) (j k : Nat) : List Int := rep ln j ++ List.replicate k (2000 + (j : Int))
theorem grw_len (ln : Nat → Nat) (j k : Nat) : (grw ln j k).length = ln j + k := by simp [grw, rep]
theorem grw_succ (ln : Nat → Nat) (j k : Nat) : grw ln j (k + 1) = grw ln j k ++ [2000 + (j : Int)] := by
  unfold grw
  rw [List.append_assoc]
  congr 1
  exact List.replicate_succ'
theorem grw_rd (ln : Nat → Nat) (j k q : Nat) (hq : q < ln j + k) : rd (grw ln j k) q = if q < ln j then 1000 + (j : Int) else 2000 + (j : Int) := by
  unfold rd grw rep
  rw [Int.toNat_natCast, List.getD_eq_getElem?_getD]
  split
  · rename_i h
    rw [List.getElem?_append_left (by rw [List.length_replicate]; exact h), List.getElem?_eq_getElem (by rw [List.length_replicate]; exact h)]
    simp
  · rename_i h
    rw [List.getElem?_append_right (by rw [List.length_replicate]; omega), List.length_replicate, List.getElem?_eq_getElem (by rw [List.length_replicate]; omega)]
    simp
/-- The loop that grows them: those below i are grown; gv: the row of the grown ones. -/
structure L3 (w0 w : World) (base : Nat) (c : Nat → Nat) (gb n : Nat) (A : Nat → Option Addr) (ln cp : Nat → Nat) (i : Nat) (gv : Value) (gs : List Value) (own : Nat → Prop) : Prop where
  box : Bx w gb n A ln cp
  bel : Below base w0 w
  cgb : c gb = n + 1
  hb : base ≤ w.heap.size
  same : ∀ j, j < n → Same w c j (A j) (ln j) (fun _ => 1000 + (j : Int))
  row : ∀ j, own j → j < n → RI w base c j (.slice (A j) (ln j) (cp j)) (rep ln j)
  len : gs.length = i
  grown : svKd.R 22 w base (fun k => c k = n) gv gs
  each : ∀ j, j < i → ∃ B cb, gs[j]? = some (.slice B (ln j + 40) cb) ∧ RI w base c j (.slice B (ln j + 40) cb) (grw ln j 40)
theorem L3.start {i : Nat} (h : L1 w0 w base c gb n A ln cp i 0) (hi : i = n) (hb : base ≤ w.heap.size) : L3 w0 w base c gb n A ln cp 0 (.slice none 0 0) [] (fun _ => True) := by
  subst hi
  have hr : ∀ j, j < i → RI w base c j (.slice (A j) (ln j) (cp j)) (rep ln j) := fun j hj => by
    obtain ⟨xs, h1, h2, h3, _⟩ := h.row j hj
    rw [h3 hj] at h1
    exact h1
  refine ⟨h.box, h.bel, h.cgb, hb, fun j hj q hq => ?_, fun j _ hj => hr j hj, rfl, Kd.R_nil _ _ _ _ _, fun j hj => absurd hj (by omega)⟩
  obtain ⟨g, e1, e2, e3, e4⟩ := Same.of_R (hr j hj) q hq
  exact ⟨g, e1, e2, e3, by rw [e4]; show some (Value.int .i64 (rd (rep ln j) q)) = _; rw [rep, rd_rep _ _ _ hq]⟩
/-- Blocks of one colour i turn, a list of that colour aside; the colours of new blocks change. -/
theorem L3.frame {i : Nat} {gv : Value} {gs : List Value} {own own' : Nat → Prop} (h : L3 w0 w base c gb n A ln cp i gv gs own) {w' : World} {c' : Nat → Nat} {t : Nat} (ht : t < n) (hti : i ≤ t) (hk : ∀ k, k < w.heap.size → c k ≠ t → w'.heap[k]? = w.heap[k]?) (hc : ∀ k, k < w.heap.size → c' k = c k)
    (hs : w.heap.size ≤ w'.heap.size) (hbel : Below base w0 w') (hown : ∀ j, own' j → own j ∧ j ≠ t) (hsame : Same w' c' t (A t) (ln t) (fun _ => 1000 + (t : Int))) : L3 w0 w' base c' gb n A ln cp i gv gs own' :=
  ⟨h.box.of (hk gb h.box.lt (by rw [h.cgb]; omega)), hbel, (hc gb h.box.lt).trans h.cgb, Nat.le_trans h.hb hs, fun j hj => by
    by_cases e : j = t
    · subst e; exact hsame
    · exact (h.same j hj).frame (fun k h1 h2 => hk k h1 (by omega)) hc hs,
   fun j h1 hj => R_frame (h.row j (hown j h1).1 hj) (fun k h3 h4 => hk k h3 (by have := (hown j h1).2; omega)) hc, h.len,
   R_frame h.grown (fun k h3 h4 => hk k h3 (by omega)) hc,
   fun j hj => by
    obtain ⟨B, cb, h1, h2⟩ := h.each j hj
    exact ⟨B, cb, h1, R_frame h2 (fun k h3 h4 => hk k h3 (by omega)) hc⟩⟩
/-- The grown one joins its row. -/
theorem L3.join {i : Nat} {gv gv' B' : Value} {gs : List Value} {B : Option Addr} {cb : Nat} (h : L3 w0 w base c gb n A ln cp i gv gs (fun j => i < j)) {w' : World} (hi : i < n) (hg : RI w base c i (.slice B (ln i + 40) cb) (grw ln i 40))
    (hk : ∀ k, k < w.heap.size → c k ≠ n → w'.heap[k]? = w.heap[k]?) (hs : w.heap.size ≤ w'.heap.size) (hbel : Below base w0 w') (hR : svKd.R 22 w' base (fun k => c k = n) gv' (gs ++ [.slice B (ln i + 40) cb])) :
    L3 w0 w' base c gb n A ln cp (i + 1) gv' (gs ++ [.slice B (ln i + 40) cb]) (fun j => i < j) :=
  ⟨h.box.of (hk gb h.box.lt (by rw [h.cgb]; omega)), hbel, h.cgb, Nat.le_trans h.hb hs, fun j hj => (h.same j hj).frame (fun k h1 h2 => hk k h1 (by omega)) (fun _ _ => rfl) hs,
   fun j h1 hj => R_frame (h.row j h1 hj) (fun k h3 h4 => hk k h3 (by omega)) (fun _ _ => rfl), by rw [List.length_append, List.length_singleton, h.len], hR,
   fun j hj => by
    by_cases e : j = i
    · subst e
      exact ⟨B, cb, by rw [List.getElem?_append_right (by rw [h.len]; omega), h.len, Nat.sub_self]; rfl, R_frame hg (fun k h3 h4 => hk k h3 (by omega)) (fun _ _ => rfl)⟩
    · obtain ⟨B1, cb1, h1, h2⟩ := h.each j (by omega)
      exact ⟨B1, cb1, by rw [List.getElem?_append_left (by rw [h.len]; omega)]; exact h1, R_frame h2 (fun k h3 h4 => hk k h3 (by omega)) (fun _ _ => rfl)⟩⟩
theorem L3.own {i : Nat} {gv : Value} {gs : List Value} {own own' : Nat → Prop} (h : L3 w0 w base c gb n A ln cp i gv gs own) (ho : ∀ j, own' j → own j) : L3 w0 w base c gb n A ln cp i gv gs own' :=
  ⟨h.box, h.bel, h.cgb, h.hb, h.same, fun j h1 hj => h.row j (ho j h1) hj, h.len, h.grown, h.each⟩
theorem L3.recol {i : Nat} {gv : Value} {gs : List Value} {own : Nat → Prop} (h : L3 w0 w base c gb n A ln cp i gv gs own) {c' : Nat → Nat} (hc : ∀ k, k < w.heap.size → c' k = c k) : L3 w0 w base c' gb n A ln cp i gv gs own :=
  ⟨h.box, h.bel, (hc gb h.box.lt).trans h.cgb, h.hb, fun j hj => (h.same j hj).frame (fun _ _ _ => rfl) hc (Nat.le_refl _), fun j h1 hj => R_frame (h.row j h1 hj) (fun _ _ _ => rfl) hc, h.len, R_frame h.grown (fun _ _ _ => rfl) hc,
   fun j hj => by
    obtain ⟨B, cb, h1, h2⟩ := h.each j hj
    exact ⟨B, cb, h1, R_frame h2 (fun _ _ _ => rfl) hc⟩⟩
end
end Go.Proofs.Ytjckidjljkjhfaa

namespace Go.Proofs.Ytjckidjljkjhfaa
open Go.RowKit Go.Proofs.YtjckidjljkjhfaaW.PrintWords
set_option linter.unusedSimpArgs false
set_option linter.unusedVariables false
def extc (c : Nat → Nat) (N i : Nat) (k : Nat) : Nat := if k < N then c k else i
theorem extc_lt {c : Nat → Nat} {N i k : Nat} (h : k < N) : extc c N i k = c k := if_pos h
theorem extc_ge {c : Nat → Nat} {N i k : Nat} (h : N ≤ k) : extc c N i k = i := if_neg (by omega)
theorem info_ints : (Try.prog.info? 22).map (fun i => (i.zero, i.size, i.bytes)) = some (some (.slice none 0 0), 1, 24) := by kernel_rfl
theorem L3.app {w0 w w1 : World} {base gb n : Nat} {c : Nat → Nat} {A : Nat → Option Addr} {ln cp : Nat → Nat} {i k : Nat} {gv g v1 : Value} {gs : List Value} (h : L3 w0 w base c gb n A ln cp i gv gs (fun j => i < j)) (hi : i < n) (hg : RI w base c i g (grw ln i k)) (ha : Appd w w1 g v1 (grw ln i k).length) : L3 w0 w1 base c gb n A ln cp i gv gs (fun j => i < j) :=
  h.frame hi (Nat.le_refl _) (fun k' hk' hc => ha.grown.block k' hk' (fun e => hc (hg.1 k' e.symm))) (fun _ _ => rfl) ha.grown.size (h.bel.grown ha.grown h.hb (Kd.R_base hg)) (fun j hj => ⟨hj, by omega⟩) ((h.same i hi).app ha (by rw [grw_len]; omega))
set_option maxRecDepth 100000 in
set_option maxHeartbeats 8000000 in
theorem apart_any (w : World) (base n gb : Nat) (hn1 : 1 ≤ n) (hn : n ≤ 100) (A : Nat → Option Addr) (ln cp : Nat → Nat) (c : Nat → Nat) (hbx : Bx w gb n A ln cp) (hcg : c gb = n + 1) (hrow : ∀ j, j < n → ∃ xs, RI w base c j (.slice (A j) (ln j) (cp j)) xs ∧ xs.length = ln j) (hln : ∀ j, j < n → ln j ≤ 17592186043904) (hb : base ≤ w.heap.size) :
    Calls Try.prog 29 #[.slice (some ⟨gb, 0, none⟩) n n] w fun e w' => e = .returned (.bool true) ∧ Below base w w' := by
  have HLN := Lib.hid hln
  have HBASE := Lib.hid hb
  have H0 : Hid (L1 w w base c gb n A ln cp 0 0) := Lib.hid ⟨hbx, Below.refl _ _, hcg, fun j hj => by
    obtain ⟨xs, h1, h2⟩ := hrow j hj
    exact ⟨xs, h1, h2, fun h => absurd h (by omega), fun _ q hq => absurd hq (by omega)⟩⟩
  clear hbx hcg hrow hln hb
  go_enter Try.func29, Try.ntmps29
  go_wp2
  go_loopw [4] (fun i wr => ∃ i0 : Nat, i0 ≤ n ∧ i = .int .i64 i0 ∧ Hid (L1 w wr base c gb n A ln cp i0 0)) (fun i _ => n - (intOf i).toNat)
  case atStart => exact ⟨0, by omega, rfl, H0⟩
  case round =>
    obtain ⟨i0, hi, rfl, H⟩ := hrel
    by_cases hin : i0 < n
    · obtain ⟨m, HM⟩ : ∃ m, Hid (ln i0 = m) := ⟨_, Lib.hid rfl⟩
      have hm : m ≤ 17592186043904 := by have := HLN.out i0 hin; rw [HM.out] at this; exact this
      go_wp2
      go_loopw [5] (fun k wi => ∃ k0 : Nat, k0 ≤ m ∧ k = .int .i64 k0 ∧ Hid (L1 w wi base c gb n A ln cp i0 k0)) (fun k _ => m - (intOf k).toNat)
      case atStart => exact ⟨0, by omega, rfl, H⟩
      case round =>
        clear H
        obtain ⟨k0, hk, rfl, H⟩ := hrel
        have c1 := H.out.box.cell hin
        rw [HM.out] at c1
        by_cases hkm : k0 < m
        · obtain ⟨g, hA, ⟨u, hu⟩, hf, hnext⟩ := H.out.step hin (by rw [HM.out]; exact hkm)
          have HNX := Lib.hid hnext
          rw [hA] at c1
          have HA := Lib.hid hA
          clear hnext hA H
          go_wp2
          go_roundw
          case rel => exact ⟨k0 + 1, by omega, by go_num, HNX⟩
          case measure => simp [intOf]; omega
        · have e8 : k0 = m := by omega
          subst e8
          have hnx := H.out
          rw [← HM.out] at hnx
          have HNX := Lib.hid hnx.next
          clear hnx H
          go_wp2
          go_roundw
          case rel => exact ⟨i0 + 1, by omega, by go_num, HNX⟩
          case measure => simp [intOf]; omega
    · have e8 : i0 = n := by omega
      subst e8
      have H3 : Hid (∃ c' gs, L3 w wr base c' gb i0 A ln cp 0 (.slice none 0 0) gs (fun j => 0 ≤ j)) := Lib.hid ⟨c, [], (L3.start H.out rfl (by have := H.out.bel.size; have := HBASE.out; omega)).own (fun _ _ => trivial)⟩
      clear H H0
      go_wp2
      go_loopw [6, 3] (fun i gv wi => ∃ i1 : Nat, i1 ≤ i0 ∧ i = .int .i64 i1 ∧ Hid (∃ c' gs, L3 w wi base c' gb i0 A ln cp i1 gv gs (fun j => i1 ≤ j))) (fun i _ _ => i0 - (intOf i).toNat)
      case atStart => exact ⟨0, by omega, rfl, H3⟩
      case round =>
        clear H3
        obtain ⟨i1, hi1, rfl, H⟩ := hrel
        obtain ⟨w3, rfl⟩ : ∃ w3 : World, w3 = wr := ⟨_, rfl⟩
        by_cases hin : i1 < i0
        · obtain ⟨c', gs, h3⟩ := H.out
          have hc2 : ∀ k, k < w3.heap.size → extc c' w3.heap.size i1 k = c' k := fun k hk => extc_lt hk
          have h4 := h3.recol hc2
          have hr0 := h4.row i1 (Nat.le_refl _) hin
          have c1 := h4.box.cell hin
          have HI : Hid (L3 w w3 base (extc c' w3.heap.size i1) gb i0 A ln cp i1 u3 gs (fun j => i1 < j) ∧ RI w3 base (extc c' w3.heap.size i1) i1 (.slice (A i1) (ln i1) (cp i1)) (grw ln i1 0) ∧ w3.heap.size ≤ w3.heap.size) :=
            Lib.hid ⟨h4.own (fun j hj => Nat.le_of_lt hj), by rw [show grw ln i1 0 = rep ln i1 by simp [grw]]; exact hr0, Nat.le_refl _⟩
          have hm : ln i1 ≤ 17592186043904 := HLN.out i1 hin
          have HFR : Hid (∀ k, w3.heap.size ≤ k → extc c' w3.heap.size i1 k = i1) := Lib.hid (fun k hk => extc_ge hk)
          have HC1 := Lib.hid c1
          generalize extc c' w3.heap.size i1 = c2 at *
          clear H h3 h4 hr0 hc2
          go_wp2
          clear c1
          go_loopw [7, 8] (fun g k wi => ∃ k0 : Nat, k0 ≤ 40 ∧ k = .int .i64 k0 ∧ Hid (L3 w wi base c2 gb i0 A ln cp i1 u3 gs (fun j => i1 < j) ∧ RI wi base c2 i1 g (grw ln i1 k0) ∧ w3.heap.size ≤ wi.heap.size)) (fun _ k _ => 40 - (intOf k).toNat)
          case atStart => exact ⟨0, by omega, rfl, HI⟩
          case round =>
            clear HI
            obtain ⟨k0, hk, rfl, H⟩ := hrel
            by_cases hk40 : k0 < 40
            · have HS := Lib.hid (grw_succ ln i1 k0)
              have HLL := Lib.hid (show (grw ln i1 k0).length ≤ 17592186043944 by rw [grw_len]; omega)
              have HAP := Lib.hid (fun (v1 : Value) (w1 : World) (ha : Appd wr w1 u7 v1 (grw ln i1 k0).length) => L3.app H.out.1 hin H.out.2.1 ha)
              have HRG := Aside0.mk H.out.2.1
              have HWS := Lib.hid H.out.2.2
              have HBW := Lib.hid H.out.1.hb
              clear H
              go_wp2_with (first | (at_builtin; refine wpl_app base rfl (.tmp 48) (.tmp 51) rfl u7 (grw ln i1 k0) (2000 + (i1 : Int)) (fun k => c2 k = i1) rfl rfl HRG.out (fun k hk => HFR.out k (Nat.le_trans HWS.out hk)) HBW.out (by have := HLL.out; omega) ?_; intro v1 w1 ho ha; have HO1 := Aside0.mk ho; have HA1 := Lib.hid ha; clear ho ha))
              go_roundw
              case rel => exact ⟨k0 + 1, by omega, by go_num, Lib.hid ⟨HAP.out v1 w1 HA1.out, by rw [HS.out]; exact HO1.out, Nat.le_trans HWS.out HA1.out.grown.size⟩⟩
              case measure => simp [intOf]; omega
            · have e8 : k0 = 40 := by omega
              subst e8
              obtain ⟨B, cb, hg, hle, hC⟩ := Kd.R_reads H.out.2.1
              rw [grw_len] at hg hle
              subst hg
              have hc3 : ∀ k, k < wr.heap.size → extc c2 wr.heap.size i0 k = c2 k := fun k hk => extc_lt hk
              have h5 := H.out.1.recol hc3
              have hr5 : RI wr base (extc c2 wr.heap.size i0) i1 (.slice B (ln i1 + 40) cb) (grw ln i1 40) := R_frame H.out.2.1 (fun _ _ _ => rfl) hc3
              have HFR5 := Lib.hid (show ∀ k, wr.heap.size ≤ k → extc c2 wr.heap.size i0 k = i0 from fun k hk => extc_ge hk)
              generalize extc c2 wr.heap.size i0 = c3 at *
              have HG5 := Aside0.mk h5.grown
              have HL5 := Lib.hid (show gs.length ≤ 100 by rw [h5.len]; omega)
              have HBW := Lib.hid h5.hb
              have HBL := Lib.hid h5.bel
              have HJ := Lib.hid (fun (v1 : Value) (w1 : World) (hR : svKd.R 22 w1 base (fun k => c3 k = i0) v1 (gs ++ [.slice B (ln i1 + 40) cb])) (hg : wr.grownBy w1 u3.ownBlock) (hb : Below base w w1) => h5.join (B' := u3) hin hr5 (fun k hk hc => hg.block k hk (fun e => hc (h5.grown.1 k e.symm))) hg.size hb hR)
              clear H h5 hr5 hc3 hC hle
              go_wp2_with (first | (at_builtin; refine Kd.R_append svKd (w0 := w) base rfl (.tmp 53) (.tmp 55) 79 22 (.slice none 0 0) 24 rfl Try.underlying79 info_ints rfl (by decide) (by decide) u3 gs (.slice B (ln i1 + 40) cb) [.slice B (ln i1 + 40) cb] (fun k => c3 k = i0) (fun _ => False) rfl rfl ?aP (fun _ hk => hk.elim) ?aF ?aO ?aB ?aS ?aL ?_; (case aP => exact ⟨rfl, rfl⟩); (case aB => exact HBL.out); (case aF => exact HFR5.out); (case aO => exact HG5.out); (case aS => exact HBW.out); (case aL => have := HL5.out; omega); intro v1 w1 ho hb hg hat; have HN := Lib.hid (HJ.out v1 w1 ho hg hb); clear ho hb hg hat))
              go_roundw
              case rel => exact ⟨i1 + 1, by omega, by go_num, Lib.hid ⟨c3, _, HN.out⟩⟩
              case measure => simp [intOf]; omega
        · have e9 : i1 = i0 := by omega
          subst e9
          obtain ⟨c', gs, h3⟩ := H.out
          obtain ⟨gg, gc, hgv, _, _, _⟩ := Kd.R_form h3.grown (by rw [h3.len]; omega)
          rw [h3.len] at hgv
          subst hgv
          have HBX := Lib.hid (fun (j : Nat) (hj : j < i1) => h3.box.cell hj)
          have HSM := Lib.hid (fun (j q : Nat) (hj : j < i1) (hq : q < ln j) => h3.same j hj q hq)
          have HGR : Hid (∀ j, j < i1 → ∃ g2 cb, w3.cell? ⟨gg, j, none⟩ = some (.slice (some ⟨g2, 0, none⟩) (ln j + 40) cb) ∧ ∀ q, q < ln j + 40 → w3.cell? ⟨g2, q, none⟩ = some (.int .i64 (if q < ln j then 1000 + (j : Int) else 2000 + (j : Int)))) := Lib.hid (fun j hj => by
            obtain ⟨B, cb, h5, h6⟩ := h3.each j hj
            obtain ⟨g2, cb2, h7, _⟩ := Kd.R_form h6 (by rw [grw_len]; omega)
            injection h7 with hB _ _
            subst hB
            obtain ⟨_, _, hC⟩ := Kd.R_reads' h3.grown
            obtain ⟨ad, cs, e1, e2, ⟨_, e3⟩, e4⟩ := Kd.C_get hC (Value.slice none 0 0) j (by omega) (by rw [h3.len]; omega)
            cases e1
            subst e3
            have e5 := e4 0 _ rfl
            rw [Int.toNat_natCast, List.getD_eq_getElem?_getD, h5, add_plain] at e5
            refine ⟨g2, cb, by simpa [svKd] using e5, fun q hq => ?_⟩
            have e6 := (Kd.R_celln (0 : Int) h6 q (by omega) (by omega)).1
            rw [Int.toNat_natCast] at e6
            rw [e6, ← grw_rd ln j 40 q hq]; rfl)
          have HBL := Lib.hid h3.bel
          clear H h3
          go_wp2
          go_loop [9] (fun i => ∃ j : Nat, j ≤ i1 ∧ i = .int .i64 j) (fun i => i1 - (intOf i).toNat)
          case atStart => exact ⟨0, by omega, rfl⟩
          case round =>
            obtain ⟨j, hj, rfl⟩ := hrel
            by_cases hji : j < i1
            · obtain ⟨g2, cb, d1, hd2⟩ := HGR.out j hji
              have HD2 := Lib.hid hd2
              have HB1 := Lib.hid (HBX.out j hji)
              have HS1 := Lib.hid (fun (q : Nat) (hq : q < ln j) => HSM.out j q hji hq)
              have hm : ln j ≤ 17592186043904 := HLN.out j hji
              clear hd2
              generalize ln j = m at *
              go_wp2
              go_loop [10] (fun k => ∃ q : Nat, q ≤ m + 40 ∧ k = .int .i64 q) (fun k => m + 40 - (intOf k).toNat)
              case atStart => exact ⟨0, by omega, rfl⟩
              case round =>
                obtain ⟨q, hq, rfl⟩ := hrel
                have d0 := HB1.out
                by_cases hq40 : q < m + 40
                · have d2 := HD2.out q hq40
                  by_cases hqm : q < m
                  · obtain ⟨g1, hA, _, _, d3⟩ := HS1.out q hqm
                    rw [hA] at d0
                    rw [if_pos hqm] at d2
                    clear hA
                    go_wp2
                    go_round
                    case rel => exact ⟨q + 1, by omega, by go_num⟩
                    case measure => simp [intOf]; omega
                  · rw [if_neg hqm] at d2
                    go_wp2
                    go_round
                    case rel => exact ⟨q + 1, by omega, by go_num⟩
                    case measure => simp [intOf]; omega
                · have : q = m + 40 := by omega
                  subst this
                  go_wp2
                  go_round
                  case rel => exact ⟨j + 1, by omega, by go_num⟩
                  case measure => simp [intOf]; omega
            · have : j = i1 := by omega
              subst this
              go_wp2
              go_ret
              exact ⟨rfl, HBL.out⟩
end Go.Proofs.Ytjckidjljkjhfaa

namespace Go.Proofs.Ytjckidjljkjhfaa
open Go.RowKit Go.Proofs.YtjckidjljkjhfaaW.PrintWords Go.Proofs.YtjckidjljkjhfaaW.PrintMore
set_option linter.unusedVariables false
theorem apart2 (W : World) (base : Nat) (A1 A2 : Option Addr) (n1 n2 c1 c2 : Nat) (xs1 xs2 : List Int) (h1 : Own W base (.slice A1 n1 c1) xs1) (h2 : Own W base (.slice A2 n2 c2) xs2) (hne : ∀ k, (Value.slice A1 n1 c1).ownBlock = some k → (Value.slice A2 n2 c2).ownBlock ≠ some k)
    (l1 : n1 ≤ 17592186043904) (l2 : n2 ≤ 17592186043904) (hb : base ≤ W.heap.size) :
    Calls Try.prog 29 #[.slice (some ⟨W.heap.size, 0, none⟩) 2 2] (W.alloc (.cells #[.slice A1 n1 c1, .slice A2 n2 c2] 22)) fun e w' => e = .returned (.bool true) ∧ Below base W w' := by
  have hs : (W.alloc (.cells #[.slice A1 n1 c1, .slice A2 n2 c2] 22)).heap.size = W.heap.size + 1 := World.size_alloc _ _
  refine (apart_any (W.alloc (.cells #[.slice A1 n1 c1, .slice A2 n2 c2] 22)) base 2 W.heap.size (by omega) (by omega) (fun j => if j = 0 then A1 else A2) (fun j => if j = 0 then n1 else n2) (fun j => if j = 0 then c1 else c2)
    (fun k => if k = W.heap.size then 3 else if (Value.slice A1 n1 c1).ownBlock = some k then 0 else 1) ⟨_, hp_new rfl, fun j hj => ?_⟩ (by rw [if_pos rfl]) (fun j hj => ?_) (fun j hj => ?_) (by omega)).mono ?_
  · match j, hj with
    | 0, _ => rfl
    | 1, _ => rfl
  · match j, hj with
    | 0, _ =>
      refine ⟨xs1, ?_, (Kd.R_reads' h1).1.symm⟩
      exact Kd.R_reok rfl (Kd.R_alloc h1 _) (fun k hk => by
        have := Kd.R_lt h1 k hk
        show (if k = W.heap.size then 3 else _) = 0
        rw [if_neg (by omega)]
        exact if_pos hk)
    | 1, _ =>
      refine ⟨xs2, ?_, (Kd.R_reads' h2).1.symm⟩
      exact Kd.R_reok rfl (Kd.R_alloc h2 _) (fun k hk => by
        have := Kd.R_lt h2 k hk
        show (if k = W.heap.size then 3 else _) = 1
        rw [if_neg (by omega)]
        exact if_neg (fun e => hne k e hk))
  · match j, hj with
    | 0, _ => exact l1
    | 1, _ => exact l2
  · rintro e w' ⟨he, hw⟩
    exact ⟨he, ((bl_alloc (Below.refl W.heap.size W) _).mono hb).trans hw⟩
end Go.Proofs.Ytjckidjljkjhfaa


namespace Go.Proofs.Ytjckidjljkjhfaa
open Go.RowKit Go.Proofs.YtjckidjljkjhfaaW.PrintWords Go.Proofs.YtjckidjljkjhfaaW.PrintMore
set_option linter.unusedVariables false
theorem sep_base {α β : Type} {d : Kd α} {d' : Kd β} {e e' : Nat} {W w1 : World} {base : Nat} {ok ok' : Nat → Prop} {u v : Value} {xs : List α} {ys : List β} (h : d.R e W base ok u xs) (h' : d'.R e' w1 W.heap.size ok' v ys) : sep u v := fun k hk hk' => by
  have h1 := Kd.R_lt h k hk
  have h2 := Kd.R_base h' k hk'
  omega
abbrev sl (v : Option Addr × Nat × Nat) : Value := .slice v.1 v.2.1 v.2.2
def clr (vs : List (Option Addr × Nat × Nat)) (g k : Nat) : Nat := if k = g then vs.length + 1 else ((List.range vs.length).find? fun j => (sl (vs.getD j (none, 0, 0))).ownBlock == some k).getD 0
theorem clr_is {vs : List (Option Addr × Nat × Nat)} {g k j : Nat} (hj : j < vs.length) (hk : k ≠ g) (ho : (sl (vs.getD j (none, 0, 0))).ownBlock = some k) (hs : ∀ i, i < j → (sl (vs.getD i (none, 0, 0))).ownBlock ≠ some k) : clr vs g k = j := by
  unfold clr
  rw [if_neg hk]
  have : (List.range vs.length).find? (fun j => (sl (vs.getD j (none, 0, 0))).ownBlock == some k) = some j := by
    rw [List.find?_range_eq_some]
    exact ⟨by simpa using ho, by simpa using hj, fun i hi => by simpa using hs i hi⟩
  rw [this]; rfl
theorem apartN (W : World) (base : Nat) (vs : List (Option Addr × Nat × Nat)) (h1 : 1 ≤ vs.length) (h2 : vs.length ≤ 100) (hown : ∀ (j : Nat) (v : Option Addr × Nat × Nat), vs[j]? = some v → ∃ xs, Own W base (sl v) xs ∧ v.2.1 ≤ 17592186043904)
    (hsep : ∀ (i j : Nat) (u v : Option Addr × Nat × Nat), i < j → vs[i]? = some u → vs[j]? = some v → sep (sl u) (sl v)) (hb : base ≤ W.heap.size) :
    Calls Try.prog 29 #[.slice (some ⟨W.heap.size, 0, none⟩) vs.length vs.length] (W.alloc (.cells (vs.map sl).toArray 22)) fun e w' => e = .returned (.bool true) ∧ Below base W w' := by
  have hs : (W.alloc (.cells (vs.map sl).toArray 22)).heap.size = W.heap.size + 1 := World.size_alloc _ _
  have hat : ∀ j, j < vs.length → vs[j]? = some (vs.getD j (none, 0, 0)) := fun j hj => by rw [List.getD_eq_getElem?_getD, List.getElem?_eq_getElem hj]; rfl
  refine (apart_any (W.alloc (.cells (vs.map sl).toArray 22)) base vs.length W.heap.size h1 h2 (fun j => (vs.getD j (none, 0, 0)).1) (fun j => (vs.getD j (none, 0, 0)).2.1) (fun j => (vs.getD j (none, 0, 0)).2.2)
    (clr vs W.heap.size) ⟨_, hp_new rfl, fun j hj => ?_⟩ (by unfold clr; rw [if_pos rfl]) (fun j hj => ?_) (fun j hj => ?_) (by omega)).mono ?_
  · simp [List.getD_eq_getElem?_getD, List.getElem?_eq_getElem hj, sl]
  · obtain ⟨xs, hx, _⟩ := hown j _ (hat j hj)
    refine ⟨xs, ?_, (Kd.R_reads' hx).1.symm⟩
    exact R_flat rfl (Kd.R_alloc hx _) (fun k hk => clr_is hj (by have := Kd.R_lt hx k hk; omega) hk (fun i hi he => hsep i j _ _ hi (hat i (by omega)) (hat j hj) k he hk))
  · obtain ⟨xs, _, hx⟩ := hown j _ (hat j hj)
    exact hx
  · rintro e w' ⟨he, hw⟩
    exact ⟨he, ((bl_alloc (Below.refl W.heap.size W) _).mono hb).trans hw⟩
theorem apartP (W : World) (base : Nat) (vs : List (Option Addr × Nat × Nat)) (h1 : 1 ≤ vs.length) (h2 : vs.length ≤ 100) (hown : ∀ v ∈ vs, ∃ xs, Own W base (sl v) xs ∧ v.2.1 ≤ 17592186043904)
    (hsep : vs.Pairwise fun u v => sep (sl u) (sl v)) (hb : base ≤ W.heap.size) :
    Calls Try.prog 29 #[.slice (some ⟨W.heap.size, 0, none⟩) vs.length vs.length] (W.alloc (.cells (vs.map sl).toArray 22)) fun e w' => e = .returned (.bool true) ∧ Below base W w' :=
  apartN W base vs h1 h2 (fun j v hv => hown v (List.mem_of_getElem? hv)) (fun i j u v hij hu hv => by
    obtain ⟨l1, e1⟩ := List.getElem?_eq_some_iff.1 hu
    obtain ⟨l2, e2⟩ := List.getElem?_eq_some_iff.1 hv
    have := List.pairwise_iff_getElem.1 hsep i j l1 l2 hij
    rw [e1, e2] at this
    exact this) hb
theorem apart3 {W : World} {base : Nat} (A1 A2 A3 : Option Addr) (n1 n2 n3 c1 c2 c3 : Nat) {l1 l2 l3 : List Int} (o1 : Own W base (.slice A1 n1 c1) l1) (o2 : Own W base (.slice A2 n2 c2) l2) (o3 : Own W base (.slice A3 n3 c3) l3)
    (k1 : n1 ≤ 17592186043904) (k2 : n2 ≤ 17592186043904) (k3 : n3 ≤ 17592186043904) (s12 : sep (.slice A1 n1 c1) (.slice A2 n2 c2)) (s13 : sep (.slice A1 n1 c1) (.slice A3 n3 c3)) (s23 : sep (.slice A2 n2 c2) (.slice A3 n3 c3)) (hb : base ≤ W.heap.size) :
    Calls Try.prog 29 #[.slice (some ⟨W.heap.size, 0, none⟩) 3 3] (W.alloc (.cells #[.slice A1 n1 c1, .slice A2 n2 c2, .slice A3 n3 c3] 22)) fun e w' => e = .returned (.bool true) ∧ Below base W w' := by
  refine apartP W base [(A1, n1, c1), (A2, n2, c2), (A3, n3, c3)] (by simp) (by simp) (fun v hv => ?_) ?_ hb
  · simp only [List.mem_cons, List.not_mem_nil, or_false] at hv
    rcases hv with rfl | rfl | rfl
    · exact ⟨_, o1, k1⟩
    · exact ⟨_, o2, k2⟩
    · exact ⟨_, o3, k3⟩
  · simp only [List.pairwise_cons, List.mem_cons, List.not_mem_nil, or_false, forall_eq_or_imp, forall_eq, false_imp_iff, implies_true, List.Pairwise.nil, and_true]
    exact ⟨⟨s12, s13⟩, s23⟩
theorem apart4 {W : World} {base : Nat} (A1 A2 A3 A4 : Option Addr) (n1 n2 n3 n4 c1 c2 c3 c4 : Nat) {l1 l2 l3 l4 : List Int} (o1 : Own W base (.slice A1 n1 c1) l1) (o2 : Own W base (.slice A2 n2 c2) l2) (o3 : Own W base (.slice A3 n3 c3) l3) (o4 : Own W base (.slice A4 n4 c4) l4)
    (k1 : n1 ≤ 17592186043904) (k2 : n2 ≤ 17592186043904) (k3 : n3 ≤ 17592186043904) (k4 : n4 ≤ 17592186043904) (s12 : sep (.slice A1 n1 c1) (.slice A2 n2 c2)) (s13 : sep (.slice A1 n1 c1) (.slice A3 n3 c3)) (s14 : sep (.slice A1 n1 c1) (.slice A4 n4 c4))
    (s23 : sep (.slice A2 n2 c2) (.slice A3 n3 c3)) (s24 : sep (.slice A2 n2 c2) (.slice A4 n4 c4)) (s34 : sep (.slice A3 n3 c3) (.slice A4 n4 c4)) (hb : base ≤ W.heap.size) :
    Calls Try.prog 29 #[.slice (some ⟨W.heap.size, 0, none⟩) 4 4] (W.alloc (.cells #[.slice A1 n1 c1, .slice A2 n2 c2, .slice A3 n3 c3, .slice A4 n4 c4] 22)) fun e w' => e = .returned (.bool true) ∧ Below base W w' := by
  refine apartP W base [(A1, n1, c1), (A2, n2, c2), (A3, n3, c3), (A4, n4, c4)] (by simp) (by simp) (fun v hv => ?_) ?_ hb
  · simp only [List.mem_cons, List.not_mem_nil, or_false] at hv
    rcases hv with rfl | rfl | rfl | rfl
    · exact ⟨_, o1, k1⟩
    · exact ⟨_, o2, k2⟩
    · exact ⟨_, o3, k3⟩
    · exact ⟨_, o4, k4⟩
  · simp only [List.pairwise_cons, List.mem_cons, List.not_mem_nil, or_false, forall_eq_or_imp, forall_eq, false_imp_iff, implies_true, List.Pairwise.nil, and_true]
    exact ⟨⟨s12, s13, s14⟩, ⟨s23, s24⟩, s34⟩
theorem sep_len {A : Option Addr} {n m c k : Nat} {v : Value} (h : sep (.slice A n c) v) : sep (.slice A m k) v := fun g h1 h2 => h g (by cases A <;> exact h1) h2
end Go.Proofs.Ytjckidjljkjhfaa

