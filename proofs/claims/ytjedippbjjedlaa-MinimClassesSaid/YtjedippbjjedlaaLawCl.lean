/- The walk of the statement MinimClasses. -/
import Derived.Test.YtjedippbjjedlaaA3
import Derived.Test.YtjedippbjjedlaaA4
namespace Go.Proofs.Ytjedippbjjedlaa
open Go.RowKit Go.Proofs.YtjedippbjjedlaaW.PrintWords Go.Proofs.Ytjedippbjjedlaa.PMinimMakes
set_option linter.unusedSimpArgs false
set_option linter.unusedVariables false
theorem rclasses_any (x : AutV) (A : Option Addr) (c : Nat) (B : Option Addr) (d : Nat) (hz : AutSz x c d) (w : World) (hr : ARd w x A B) :
    Calls Try.prog 38 #[.agg (ac x A c B d)] w fun e w' => ∃ v, e = .returned (.tuple #[v, .int .i64 (autE x)]) ∧ Own w' w.heap.size v (zl (clL x)) ∧ Below w.heap.size w w' :=
  eggboxref10_Classes.calls (rK x + x.acc.length + 4) x.k A c x.next B d x.acc _ _ w hr.next hz.1 hr.acc hz.2.1 (classes_f x (by have := hz.2.2.2; omega) (by omega))
theorem rlevel_any (x : AutV) (A : Option Addr) (c : Nat) (B : Option Addr) (d : Nat) (hz : AutSz x c d) (n : Int) (hn : n ≤ 9223372036854775807) (w : World) (hr : ARd w x A B) :
    Calls Try.prog 40 #[.agg (ac x A c B d), .int .i64 n] w fun e w' => ∃ v, e = .returned (.tuple #[v, .int .i64 (lvE x n)]) ∧ Own w' w.heap.size v (zl (lvL x n)) ∧ Below w.heap.size w w' :=
  eggboxref10_Level.calls (rK x + x.acc.length + 4) x.k A c x.next B d x.acc n _ _ w hr.next hz.1 hr.acc hz.2.1 (level_f x hn (by omega))
set_option maxRecDepth 100000 in
set_option maxHeartbeats 800000 in
theorem minimClasses_any (w : World) (x : AutV) (A : Option Addr) (c : Nat) (B : Option Addr) (d : Nat) (hr : ARd w x A B) (hsz : AutSz x c d) (n : Int) (hn : -9223372036854775808 ≤ n ∧ n ≤ 9223372036854775807) :
    Calls Try.prog 6 #[.agg (ac x A c B d), .int .i64 n] w fun e w' => e = .returned (.bool true) ∧ Below w.heap.size w w' := by
  have HR := Aside0.mk hr
  have HZ := Lib.hid hsz
  have H0 := Lib.hid ((Hp.start w).alloc (AB x A c B d))
  have LN := Aside0.mk (fun (W : World) (h : ARd W x A B) => lenta_any x A c B d hsz W h)
  have CL := Aside0.mk (fun (X : Option Addr) (xc : Nat) (Y : Option Addr) (yc : Nat) (W : World) (h : ARd W x X Y) => classes_any x X xc Y yc W h)
  have LV := Aside0.mk (fun (X : Option Addr) (xc : Nat) (Y : Option Addr) (yc : Nat) (W : World) (h : ARd W x X Y) => level_any x X xc Y yc n W h)
  have RC := Aside0.mk (fun (W : World) (h : ARd W x A B) => rclasses_any x A c B d hsz W h)
  have RL := Aside0.mk (fun (W : World) (h : ARd W x A B) => rlevel_any x A c B d hsz n hn.2 W h)
  have HSM := Lib.hid (show (zl (clL x)).length ≤ 4096 ∧ (zl (lvL x n)).length ≤ 4096 by
    rw [zl_len, zl_len]
    constructor
    · unfold clL; split
      · rw [(cls_cls x _).len]; exact (autE_is (by assumption)).2.2.2.1
      · simp
    · unfold lvL; split
      · rename_i h
        have : autE x = 0 := by
          unfold lvE at h
          split at h
          · assumption
          · cases h
        rw [(cls_cls x _).len]; exact (autE_is this).2.2.2.1
      · simp)
  generalize zl (clL x) = P at *
  generalize zl (lvL x n) = R at *
  generalize autE x = eE at *
  generalize lvE x n = eL at *
  have hnb : n ≤ 9223372036854775807 := hn.2
  clear hr hsz hn
  go_enter Try.func6, Try.ntmps6
  go_wp2_with (refine ld_au _ rfl w.heap.size rfl (H0.out.at 0 rfl) rfl ?_)
  refine (LN.out _ (HR.out.below H0.out.2)).mono ?_
  rintro e w1 ⟨X, xc, Y, yc, rfl, hX, hY, hb⟩
  have H1 := Lib.hid ((H0.out.keep hb).alloc (AB x X xc Y yc))
  have HX1 := Aside0.mk (Kd.R_alloc (Kd.R_lower hX H0.out.2.size) (AB x X xc Y yc))
  have HY1 := Aside0.mk (Kd.R_alloc (Kd.R_lower hY H0.out.2.size) (AB x X xc Y yc))
  clear hX hY hb H0 LN
  have hard : ∀ W : World, Own W w.heap.size (.slice X (x.next ++ [(-77), (-78)]).length xc) (x.next ++ [(-77), (-78)]) → Kd.R Kd.bool 4 W w.heap.size (fun _ => True) (.slice Y x.acc.length yc) x.acc → ARd W x X Y := fun W h1 h2 => by
    refine ⟨?_, (Kd.R_reads' h2).2.2⟩
    have := Kd.C_take (m := x.next.length) (Kd.R_reads' h1).2.2 (by simp)
    simpa using this
  have HARD := Aside0.mk hard
  clear hard
  go_wp2_with (first | ((with_reducible refine gate_st (t := 25) rfl ?_); refine st_au_new (y := x) (A := X) (c := xc) (B := Y) (d := yc) _ _ rfl rfl rfl rfl rfl ?_) | ((with_reducible refine gate_ld (t := 25) rfl ?_); refine ld_au (y := x) _ rfl w1.heap.size rfl (H1.out.at 0 rfl) rfl ?_))
  refine (CL.out X xc Y yc _ (HARD.out _ HX1.out HY1.out)).mono ?_
  rintro e w2 ⟨vp, rfl, hp, hb⟩
  have H2 := Lib.hid (H1.out.keep hb)
  have HX2 := Aside0.mk (Kd.R_below HX1.out hb); have HY2 := Aside0.mk (Kd.R_below HY1.out hb)
  have HP2 := Aside0.mk (Kd.R_lower hp H1.out.2.size)
  have SX := Aside0.mk (sep_base HX1.out hp)
  clear hp hb H1 HX1 HY1 CL
  go_wp2_with (refine ld_au _ rfl w.heap.size rfl (H2.out.at 1 rfl) rfl ?_)
  refine (RC.out _ (HR.out.below H2.out.2)).mono ?_
  rintro e w3 ⟨vq, rfl, hq, hb⟩
  have H3 := Lib.hid (H2.out.keep hb)
  have HX3 := Aside0.mk (Kd.R_below HX2.out hb); have HY3 := Aside0.mk (Kd.R_below HY2.out hb)
  have HP3 := Aside0.mk (Kd.R_below HP2.out hb)
  have HQ3 := Aside0.mk (Kd.R_lower hq H2.out.2.size)
  clear hq hb H2 HX2 HY2 HP2 RC
  go_wp2_with (refine ld_au _ rfl w1.heap.size rfl (H3.out.at 0 rfl) rfl ?_)
  refine (LV.out X xc Y yc _ (HARD.out _ HX3.out HY3.out)).mono ?_
  rintro e w4 ⟨vr, rfl, hr, hb⟩
  have H4 := Lib.hid (H3.out.keep hb)
  have HX4 := Aside0.mk (Kd.R_below HX3.out hb)
  have HP4 := Aside0.mk (Kd.R_below HP3.out hb); have HQ4 := Aside0.mk (Kd.R_below HQ3.out hb)
  have HR4 := Aside0.mk (Kd.R_lower hr H3.out.2.size)
  have SXR := Aside0.mk (sep_base HX3.out hr); have SPR := Aside0.mk (sep_base HP3.out hr)
  clear hr hb H3 HX3 HY3 HP3 HQ3 LV HARD
  go_wp2_with (refine ld_au _ rfl w.heap.size rfl (H4.out.at 1 rfl) rfl ?_)
  refine (RL.out _ (HR.out.below H4.out.2)).mono ?_
  rintro e w5 ⟨vs, rfl, hs, hb⟩
  have H5 := Lib.hid (H4.out.keep hb)
  have HX5 := Aside0.mk (Kd.R_below HX4.out hb)
  have HP5 := Aside0.mk (Kd.R_below HP4.out hb); have HQ5 := Aside0.mk (Kd.R_below HQ4.out hb); have HR5 := Aside0.mk (Kd.R_below HR4.out hb)
  have HS5 := Aside0.mk (Kd.R_lower hs H4.out.2.size)
  clear hs hb H4 HX4 HP4 HQ4 HR4 RL
  obtain ⟨Ap, cp, rfl, lp, hCp⟩ := Kd.R_reads HP5.out
  obtain ⟨Aq, cq, rfl, lq, hCq⟩ := Kd.R_reads HQ5.out
  obtain ⟨Ar, cr, rfl, lr, hCr⟩ := Kd.R_reads HR5.out
  obtain ⟨As, cs, rfl, ls, hCs⟩ := Kd.R_reads HS5.out
  have CP := Aside0.mk hCp; have CQ := Aside0.mk hCq; have CR := Aside0.mk hCr; have CS := Aside0.mk hCs
  clear hCp hCq hCr hCs HQ5 HS5
  go_wp2_with fail
  have SM := same_any Ap cp P Aq cq P _ CP.out CQ.out
  rw [decide_eq_true rfl] at SM
  refine SM.mono ?_
  rintro e w6 ⟨rfl, hb⟩
  have H6 := Lib.hid (H5.out.keep hb)
  have HX6 := Aside0.mk (Kd.R_below HX5.out hb); have HP6 := Aside0.mk (Kd.R_below HP5.out hb); have HR6 := Aside0.mk (Kd.R_below HR5.out hb)
  have CR6 := Aside0.mk (Kd.C_below CR.out hb); have CS6 := Aside0.mk (Kd.C_below CS.out hb)
  clear SM hb H5 HX5 HP5 HR5 CP CQ CR CS
  go_wp2_with fail
  refine (numM_any _ _).mono ?_
  rintro e w' ⟨rfl, rfl⟩
  go_wp2_with fail
  have SM := same_any Ar cr R As cs R _ CR6.out CS6.out
  rw [decide_eq_true rfl] at SM
  refine SM.mono ?_
  rintro e w7 ⟨rfl, hb⟩
  have H7 := Lib.hid (H6.out.keep hb)
  have HX7 := Aside0.mk (Kd.R_below HX6.out hb); have HP7 := Aside0.mk (Kd.R_below HP6.out hb); have HR7 := Aside0.mk (Kd.R_below HR6.out hb)
  clear SM hb H6 HX6 HP6 HR6 CR6 CS6
  go_wp2_with fail
  refine (numM_any _ _).mono ?_
  rintro e w' ⟨rfl, rfl⟩
  have c1 : w7.cell? ⟨w1.heap.size, 1, none⟩ = some (.slice X x.next.length xc) := by rw [cell_of_row _ _ _ _ _ _ (H7.out.at 0 rfl)]; rfl
  have c2 : w7.cell? ⟨w.heap.size, 1, none⟩ = some (.slice A x.next.length c) := by rw [cell_of_row _ _ _ _ _ _ (H7.out.at 1 rfl)]; rfl
  go_wp2_with fail
  have hX := Kd.R_reads' HX7.out
  have STY := stay_any X xc x.next A c w7 (by have := HZ.out.2.2.1; omega) (by simpa using hX.2.2) (by have := hX.2.1; simpa using this) (HR.out.below H7.out.2).next
  refine STY.mono ?_
  rintro e w8 ⟨rfl, hb⟩
  have H8 := Lib.hid (H7.out.keep hb)
  have HX8 := Aside0.mk (Kd.R_below HX7.out hb); have HP8 := Aside0.mk (Kd.R_below HP7.out hb); have HR8 := Aside0.mk (Kd.R_below HR7.out hb)
  have c3 : w8.cell? ⟨w1.heap.size, 1, none⟩ = some (.slice X x.next.length xc) := by rw [cell_of_row _ _ _ _ _ _ (H8.out.at 0 rfl)]; rfl
  clear STY hb hX H7 HX7 HP7 HR7 c1 c2
  go_wp2_with fail
  have AP := apart3 Ap Ar X P.length R.length x.next.length cp cr xc HP8.out HR8.out (Kd.R_take (m := x.next.length) HX8.out (by simp)) (by have := HSM.out; omega) (by have := HSM.out; omega) (by have := HZ.out.2.2.1; omega) SPR.out (sep_len SX.out).symm (sep_len SXR.out).symm H8.out.2.size
  refine AP.mono ?_
  rintro e w9 ⟨rfl, hb⟩
  have HB9 := Lib.hid (H8.out.2.trans hb)
  clear AP hb H8 HX8 HP8 HR8 c3
  go_wp2_with fail
  refine (liveM_any _).mono ?_
  rintro e w10 ⟨rfl, hb⟩
  have HB10 := Lib.hid (bl_then HB9.out hb)
  clear hb
  go_wp2
  go_ret
  exact ⟨rfl, HB10.out⟩
end Go.Proofs.Ytjedippbjjedlaa
