/- The walk of the statement AutoRuns. -/
import Derived.Test.YtjckidjljkjhfaaLiP
import Derived.Test.YtjckidjljkjhfaaStay8
import Derived.Test.YtjckidjljkjhfaaRunF
namespace Go.Proofs.Ytjckidjljkjhfaa
open Go.RowKit Go.Proofs.YtjckidjljkjhfaaW.PrintWords Go.Proofs.Ytjckidjljkjhfaa.PAutoRuns
set_option linter.unusedSimpArgs false
set_option linter.unusedVariables false
theorem rcheck8_any (x : AutV) (A : Option Addr) (c : Nat) (B : Option Addr) (d : Nat) (hz : AutSz x c d) (w : World) (hr : ARd w x A B) :
    Calls Try.prog 19 #[.agg (ac x A c B d)] w fun e w' => e = .returned (.int .i64 (autE x)) ∧ Below w.heap.size w w' :=
  eggboxref08_Check.calls (x.next.length + 2) x.k A c x.next B d x.acc _ w hr.next hz.1 hr.acc hz.2.1 (rchk_f x (by have := hz.2.2.1; omega) (by omega))
theorem rrun8_any (x : AutV) (A : Option Addr) (c : Nat) (B : Option Addr) (d : Nat) (hz : AutSz x c d) (s : Int) (v : ByteArray) (hv : v.size ≤ 140737488351232) (w : World) (hr : ARd w x A B) :
    Calls Try.prog 14 #[.agg (ac x A c B d), .int .i64 s, .string v] w fun e w' => e = .returned (.tuple #[.int .i64 ((runV x s v : Nat) : Int), .int .i64 (runE x s v)]) ∧ Below w.heap.size w w' :=
  eggboxref08_Run.calls (x.next.length + v.size + 11) x.k A c x.next B d x.acc s v _ _ w hr.next hz.1 hr.acc hz.2.1 (rrun_f x (by have := hz.2.2.1; omega) s hv (by omega))
theorem raccepts8_any (x : AutV) (A : Option Addr) (c : Nat) (B : Option Addr) (d : Nat) (hz : AutSz x c d) (v : ByteArray) (hv : v.size ≤ 140737488351232) (w : World) (hr : ARd w x A B) :
    Calls Try.prog 16 #[.agg (ac x A c B d), .string v] w fun e w' => e = .returned (.tuple #[.bool (acsV x v), .int .i64 (runE x 0 v)]) ∧ Below w.heap.size w w' :=
  eggboxref08_Accepts.calls (x.next.length + v.size + 11) x.k A c x.next B d x.acc v _ _ w hr.next hz.1 hr.acc hz.2.1 (racs_f x (by have := hz.2.2.1; omega) hv (by omega))
theorem au_z (x : AutV) (A : Option Addr) (c : Nat) (B : Option Addr) (d : Nat) : (Try.prog.info? 25).map (·.size) = some (ac x A c B d).size := by show _ = some 3; kernel_rfl
/-- Where the law stands: what was handed in, what was lent. -/
structure LwS (x : AutV) (A : Option Addr) (c : Nat) (B : Option Addr) (d : Nat) (X : Option Addr) (xc : Nat) (Y : Option Addr) (yc : Nat) (w : World) (g : Nat) (w' : World) : Prop where
  arg : w'.heap[w.heap.size]? = some (AB x A c B d)
  lent : w'.heap[g]? = some (AB x X xc Y yc)
  rd : ARd w' x A B
  nx : Kd.C (Kd.int .i64) w' X (x.next ++ [(-77), (-78)]).length (x.next ++ [(-77), (-78)])
  ac : Kd.C Kd.bool w' Y x.acc.length x.acc
  xcl : x.next.length + 2 ≤ xc
  ycl : x.acc.length ≤ yc
  bel : Below w.heap.size w w'
section
variable {x : AutV} {A : Option Addr} {c : Nat} {B : Option Addr} {d : Nat} {X : Option Addr} {xc : Nat} {Y : Option Addr} {yc : Nat} {w : World} {g : Nat} {u v : World}
theorem LwS.keep (h : LwS x A c B d X xc Y yc w g u) (hb : Below u.heap.size u v) : LwS x A c B d X xc Y yc w g v :=
  ⟨hp_below' hb h.arg, hp_below' hb h.lent, h.rd.below hb, Kd.C_below h.nx hb, Kd.C_below h.ac hb, h.xcl, h.ycl, bl_then h.bel hb⟩
theorem LwS.ard (h : LwS x A c B d X xc Y yc w g u) : ARd u x X Y := ⟨by
  have := Kd.C_take (m := x.next.length) h.nx (by simp)
  simpa using this, h.ac⟩
theorem LwS.mk' {w1 : World} (hr : ARd w x A B) (hL : LentA x (w.alloc (AB x A c B d)) w1 X xc Y yc) : LwS x A c B d X xc Y yc w w1.heap.size (w1.alloc (AB x X xc Y yc)) := by
  obtain ⟨h1, h2, h3⟩ := hL
  obtain ⟨_, l1, c1⟩ := Kd.R_reads' h1
  obtain ⟨_, l2, c2⟩ := Kd.R_reads' h2
  have hb := bl_alloc (bl_then (bl_alloc (Below.refl w.heap.size w) (AB x A c B d)) h3) (AB x X xc Y yc)
  exact ⟨hp_old (hp_below' h3 (hp_new rfl)), hp_new rfl, hr.below hb, Kd.C_alloc c1 _, Kd.C_alloc c2 _, by simpa using l1, l2, hb⟩
end
set_option maxRecDepth 100000 in
set_option maxHeartbeats 1000000 in
theorem autoRuns_any (w : World) (x : AutV) (A : Option Addr) (c : Nat) (B : Option Addr) (d : Nat) (hr : ARd w x A B) (hsz : AutSz x c d) (s : Int) (_ : -9223372036854775808 ≤ s ∧ s ≤ 9223372036854775807) (v : ByteArray) (hv : v.size ≤ 140737488351232) :
    Calls Try.prog 3 #[.agg (ac x A c B d), .int .i64 s, .string v] w fun e w' => e = .returned (.bool true) ∧ Below w.heap.size w w' := by
  have HR := Aside0.mk hr
  have HZ := Lib.hid hsz
  have H0 := Lib.hid ((Hp.start w).alloc (AB x A c B d))
  have LN := Aside0.mk (fun (W : World) (h : ARd W x A B) => lenta_any x A c B d hsz W h)
  have RN := Aside0.mk (fun (X : Option Addr) (xc : Nat) (Y : Option Addr) (yc : Nat) (W : World) (h : ARd W x X Y) => run_any x X xc Y yc s v (by omega) W h)
  have AC := Aside0.mk (fun (X : Option Addr) (xc : Nat) (Y : Option Addr) (yc : Nat) (W : World) (h : ARd W x X Y) => accepts_any x X xc Y yc v (by omega) W h)
  have CK := Aside0.mk (fun (X : Option Addr) (xc : Nat) (Y : Option Addr) (yc : Nat) (W : World) (h : ARd W x X Y) => acheck_any x X xc Y yc W h)
  have RR := Aside0.mk (fun (W : World) (h : ARd W x A B) => rrun8_any x A c B d hsz s v hv W h)
  have RA := Aside0.mk (fun (W : World) (h : ARd W x A B) => raccepts8_any x A c B d hsz v hv W h)
  have RC := Aside0.mk (fun (W : World) (h : ARd W x A B) => rcheck8_any x A c B d hsz W h)
  generalize runV x s v = rv at *
  generalize runE x s v = re at *
  generalize runE x 0 v = ae at *
  generalize acsV x v = av at *
  generalize autE x = ee at *
  clear hr hsz hv
  go_enter Try.func3, Try.ntmps3
  go_wp2_with (refine ld_au _ rfl w.heap.size rfl (H0.out.at 0 rfl) rfl ?_)
  refine (LN.out _ (HR.out.below H0.out.2)).mono ?_
  rintro e w1 ⟨X, xc, Y, yc, rfl, hL⟩
  have S1 := Lib.hid (LwS.mk' HR.out hL)
  clear hL H0 LN
  go_wp2_with (first | ((with_reducible refine gate_st (t := 25) rfl ?_); refine st_au_new (y := x) (A := X) (c := xc) (B := Y) (d := yc) _ _ rfl rfl rfl rfl rfl ?_) | ((with_reducible refine gate_ld (t := 25) rfl ?_); refine ld_au (y := x) _ rfl w1.heap.size rfl S1.out.lent rfl ?_))
  refine (RN.out X xc Y yc _ S1.out.ard).mono ?_
  rintro e w2 ⟨rfl, hb⟩
  have S2 := Lib.hid (S1.out.keep hb)
  clear hb S1 RN
  go_wp2_with ((with_reducible refine gate_ld (t := 25) rfl ?_); refine ld_au (y := x) _ rfl w.heap.size rfl S2.out.arg rfl ?_)
  refine (RR.out _ S2.out.rd).mono ?_
  rintro e w3 ⟨rfl, hb⟩
  have S3 := Lib.hid (S2.out.keep hb)
  clear hb S2 RR
  go_wp2_with ((with_reducible refine gate_ld (t := 25) rfl ?_); refine ld_au (y := x) _ rfl w1.heap.size rfl S3.out.lent rfl ?_)
  refine (AC.out X xc Y yc _ S3.out.ard).mono ?_
  rintro e w4 ⟨rfl, hb⟩
  have S4 := Lib.hid (S3.out.keep hb)
  clear hb S3 AC
  go_wp2_with ((with_reducible refine gate_ld (t := 25) rfl ?_); refine ld_au (y := x) _ rfl w.heap.size rfl S4.out.arg rfl ?_)
  refine (RA.out _ S4.out.rd).mono ?_
  rintro e w5 ⟨rfl, hb⟩
  have S5 := Lib.hid (S4.out.keep hb)
  clear hb S4 RA
  go_wp2
  have hS5 := S5.out.keep (Below.refl _ _).drew
  clear S5
  refine wp_region_held_drew (S := LwS x A c B d X xc Y yc w w1.heap.size) (by kernel_rfl) hS5 (fun hS => ?_)
  refine any_take (i := 0) rfl (by kernel_rfl) (by kernel_rfl) (by kernel_rfl) (fun _ _ _ h => h) hS (yi_row _ _ rfl (by rfl) (w1.heap.size) rfl (ac x X xc Y yc) _ Try.underlying25 rfl (au_z _ _ _ _ _) (fun w' h' => ⟨_, _, h'.lent⟩)) ?_
  (try simp only [Act.put, List.setIfInBounds_toArray, List.set_cons_zero, List.set_cons_succ])
  refine any_take (i := 3) rfl (by kernel_rfl) (by kernel_rfl) (by kernel_rfl) (fun _ _ _ h => h) hS (yi_row _ _ rfl (by rfl) (w.heap.size) rfl (ac x A c B d) _ Try.underlying25 rfl (au_z _ _ _ _ _) (fun w' h' => ⟨_, _, h'.arg⟩)) ?_
  (try simp only [Act.put, List.setIfInBounds_toArray, List.set_cons_zero, List.set_cons_succ])
  refine any_call (i := 1) rfl (by kernel_rfl) (by rfl) 18 #[.agg (ac x X xc Y yc)] ?x4 (CK.out X xc Y yc _ hS.ard) ?_
  case x4 => (simp [go_sem])
  (try simp only [Act.put, List.setIfInBounds_toArray, List.set_cons_zero, List.set_cons_succ])
  rintro e w6 ⟨rfl, hb6⟩
  have hS6 := hS.keep hb6
  refine ⟨_, rfl, hS6, ?_⟩
  (try simp only [Act.put, List.setIfInBounds_toArray, List.set_cons_zero, List.set_cons_succ])
  refine any_call (i := 2) rfl (by kernel_rfl) (by rfl) 17 #[.int .i64 ee] ?x7 (num8_any _ _) ?_
  case x7 => (simp [go_sem])
  (try simp only [Act.put, List.setIfInBounds_toArray, List.set_cons_zero, List.set_cons_succ])
  rintro e w' ⟨rfl, rfl⟩
  refine ⟨_, rfl, hS6, ?_⟩
  (try simp only [Act.put, List.setIfInBounds_toArray, List.set_cons_zero, List.set_cons_succ])
  refine any_call (i := 4) rfl (by kernel_rfl) (by rfl) 19 #[.agg (ac x A c B d)] ?x9 (RC.out _ hS6.rd) ?_
  case x9 => (simp [go_sem])
  (try simp only [Act.put, List.setIfInBounds_toArray, List.set_cons_zero, List.set_cons_succ])
  rintro e w7 ⟨rfl, hb7⟩
  have hS7 := hS6.keep hb7
  refine ⟨_, rfl, hS7, ?_⟩
  (try simp only [Act.put, List.setIfInBounds_toArray, List.set_cons_zero, List.set_cons_succ])
  refine any_take (i := 5) (v := .bool true) rfl (by kernel_rfl) (by kernel_rfl) (by kernel_rfl) (fun _ _ _ h => h) hS7 (yi_val (by rfl) (fun w' h' => ?y12)) ?_
  case y12 => first | rfl | (go_simp; done) | (go_simp; omega)
  (try simp only [Act.put, List.setIfInBounds_toArray, List.set_cons_zero, List.set_cons_succ])
  refine any_take (i := 6) (v := ?v14) rfl (by kernel_rfl) (by kernel_rfl) (by kernel_rfl) (fun _ _ _ h => h) hS7 (.inl ⟨by rfl, ?y14⟩) ?_
  case y14 => (intro w' h'; go_simp; with_reducible rfl)
  (try simp only [Act.put, List.setIfInBounds_toArray, List.set_cons_zero, List.set_cons_succ])
  refine any_take (i := 7) (v := ?v15) rfl (by kernel_rfl) (by kernel_rfl) (by kernel_rfl) (fun _ _ _ h => h) hS7 (.inl ⟨by rfl, ?y15⟩) ?_
  case y15 => (intro w' h'; go_simp; with_reducible rfl)
  (try simp only [Act.put, List.setIfInBounds_toArray, List.set_cons_zero, List.set_cons_succ])
  refine any_take (i := 8) (v := ?v16) rfl (by kernel_rfl) (by kernel_rfl) (by kernel_rfl) (fun _ _ _ h => h) hS7 (.inl ⟨by rfl, ?y16⟩) ?_
  case y16 => (intro w' h'; go_simp; with_reducible rfl)
  (try simp only [Act.put, List.setIfInBounds_toArray, List.set_cons_zero, List.set_cons_succ])
  refine any_take (i := 9) (v := .bool true) rfl (by kernel_rfl) (by kernel_rfl) (by kernel_rfl) (fun _ _ _ h => h) hS7 (yi_val (by rfl) (fun w' h' => ?y17)) ?_
  case y17 => first | rfl | (go_simp; done) | (go_simp; omega)
  (try simp only [Act.put, List.setIfInBounds_toArray, List.set_cons_zero, List.set_cons_succ])
  refine any_take (i := 10) (v := ?v19) rfl (by kernel_rfl) (by kernel_rfl) (by kernel_rfl) (fun _ _ _ h => h) hS7 (.inl ⟨by rfl, ?y19⟩) ?_
  case y19 => (intro w' h'; go_simp; with_reducible rfl)
  (try simp only [Act.put, List.setIfInBounds_toArray, List.set_cons_zero, List.set_cons_succ])
  refine any_take (i := 11) (v := ?v20) rfl (by kernel_rfl) (by kernel_rfl) (by kernel_rfl) (fun _ _ _ h => h) hS7 (.inl ⟨by rfl, ?y20⟩) ?_
  case y20 => (intro w' h'; go_simp; with_reducible rfl)
  (try simp only [Act.put, List.setIfInBounds_toArray, List.set_cons_zero, List.set_cons_succ])
  refine any_take (i := 12) (v := ?v21) rfl (by kernel_rfl) (by kernel_rfl) (by kernel_rfl) (fun _ _ _ h => h) hS7 (.inl ⟨by rfl, ?y21⟩) ?_
  case y21 => (intro w' h'; go_simp; with_reducible rfl)
  (try simp only [Act.put, List.setIfInBounds_toArray, List.set_cons_zero, List.set_cons_succ])
  refine any_take (i := 14) (v := ?v22) rfl (by kernel_rfl) (by kernel_rfl) (by kernel_rfl) (fun _ _ _ h => h) hS7 (.inl ⟨by rfl, ?y22⟩) ?_
  case y22 => (intro w' h'; go_simp; with_reducible rfl)
  (try simp only [Act.put, List.setIfInBounds_toArray, List.set_cons_zero, List.set_cons_succ])
  refine any_call (i := 13) rfl (by kernel_rfl) (by rfl) 17 #[.int .i64 re] ?x23 (num8_any _ _) ?_
  case x23 => (simp [go_sem])
  (try simp only [Act.put, List.setIfInBounds_toArray, List.set_cons_zero, List.set_cons_succ])
  rintro e w' ⟨rfl, rfl⟩
  refine ⟨_, rfl, hS7, ?_⟩
  (try simp only [Act.put, List.setIfInBounds_toArray, List.set_cons_zero, List.set_cons_succ])
  refine any_take (i := 15) (v := .bool true) rfl (by kernel_rfl) (by kernel_rfl) (by kernel_rfl) (fun _ _ _ h => h) hS7 (yi_val (by rfl) (fun w' h' => ?y25)) ?_
  case y25 => first | rfl | (go_simp; done) | (go_simp; omega)
  (try simp only [Act.put, List.setIfInBounds_toArray, List.set_cons_zero, List.set_cons_succ])
  refine any_take (i := 16) (v := ?v27) rfl (by kernel_rfl) (by kernel_rfl) (by kernel_rfl) (fun _ _ _ h => h) hS7 (.inl ⟨by rfl, ?y27⟩) ?_
  case y27 => (intro w' h'; go_simp; with_reducible rfl)
  (try simp only [Act.put, List.setIfInBounds_toArray, List.set_cons_zero, List.set_cons_succ])
  refine any_take (i := 17) (v := ?v28) rfl (by kernel_rfl) (by kernel_rfl) (by kernel_rfl) (fun _ _ _ h => h) hS7 (.inl ⟨by rfl, ?y28⟩) ?_
  case y28 => (intro w' h'; go_simp; with_reducible rfl)
  (try simp only [Act.put, List.setIfInBounds_toArray, List.set_cons_zero, List.set_cons_succ])
  refine any_take (i := 18) (v := ?v29) rfl (by kernel_rfl) (by kernel_rfl) (by kernel_rfl) (fun _ _ _ h => h) hS7 (.inl ⟨by rfl, ?y29⟩) ?_
  case y29 => (intro w' h'; go_simp; with_reducible rfl)
  (try simp only [Act.put, List.setIfInBounds_toArray, List.set_cons_zero, List.set_cons_succ])
  refine any_take (i := 19) (v := ?v30) rfl (by kernel_rfl) (by kernel_rfl) (by kernel_rfl) (fun _ _ _ h => h) hS7 (.inl ⟨by rfl, ?y30⟩) ?_
  case y30 => (intro w' h'; go_simp; with_reducible rfl)
  (try simp only [Act.put, List.setIfInBounds_toArray, List.set_cons_zero, List.set_cons_succ])
  refine any_take (i := 20) (v := .bool true) rfl (by kernel_rfl) (by kernel_rfl) (by kernel_rfl) (fun _ _ _ h => h) hS7 (yi_val (by rfl) (fun w' h' => ?y31)) ?_
  case y31 => first | rfl | (go_simp; done) | (go_simp; omega)
  (try simp only [Act.put, List.setIfInBounds_toArray, List.set_cons_zero, List.set_cons_succ])
  refine any_take (i := 21) (v := ?v33) rfl (by kernel_rfl) (by kernel_rfl) (by kernel_rfl) (fun _ _ _ h => h) hS7 (.inl ⟨by rfl, ?y33⟩) ?_
  case y33 => (intro w' h'; go_simp; with_reducible rfl)
  (try simp only [Act.put, List.setIfInBounds_toArray, List.set_cons_zero, List.set_cons_succ])
  refine any_take (i := 22) (v := ?v34) rfl (by kernel_rfl) (by kernel_rfl) (by kernel_rfl) (fun _ _ _ h => h) hS7 (.inl ⟨by rfl, ?y34⟩) ?_
  case y34 => (intro w' h'; go_simp; with_reducible rfl)
  (try simp only [Act.put, List.setIfInBounds_toArray, List.set_cons_zero, List.set_cons_succ])
  refine any_take (i := 23) (v := ?v35) rfl (by kernel_rfl) (by kernel_rfl) (by kernel_rfl) (fun _ _ _ h => h) hS7 (.inl ⟨by rfl, ?y35⟩) ?_
  case y35 => (intro w' h'; go_simp; with_reducible rfl)
  (try simp only [Act.put, List.setIfInBounds_toArray, List.set_cons_zero, List.set_cons_succ])
  refine any_take (i := 25) (v := ?v36) rfl (by kernel_rfl) (by kernel_rfl) (by kernel_rfl) (fun _ _ _ h => h) hS7 (.inl ⟨by rfl, ?y36⟩) ?_
  case y36 => (intro w' h'; go_simp; with_reducible rfl)
  (try simp only [Act.put, List.setIfInBounds_toArray, List.set_cons_zero, List.set_cons_succ])
  refine any_call (i := 24) rfl (by kernel_rfl) (by rfl) 17 #[.int .i64 ae] ?x37 (num8_any _ _) ?_
  case x37 => (simp [go_sem])
  (try simp only [Act.put, List.setIfInBounds_toArray, List.set_cons_zero, List.set_cons_succ])
  rintro e w' ⟨rfl, rfl⟩
  refine ⟨_, rfl, hS7, ?_⟩
  (try simp only [Act.put, List.setIfInBounds_toArray, List.set_cons_zero, List.set_cons_succ])
  refine any_take (i := 26) (v := .bool true) rfl (by kernel_rfl) (by kernel_rfl) (by kernel_rfl) (fun _ _ _ h => h) hS7 (yi_val (by rfl) (fun w' h' => ?y39)) ?_
  case y39 => first | rfl | (go_simp; done) | (go_simp; omega)
  (try simp only [Act.put, List.setIfInBounds_toArray, List.set_cons_zero, List.set_cons_succ])
  refine any_take (i := 27) (v := ?v41) rfl (by kernel_rfl) (by kernel_rfl) (by kernel_rfl) (fun _ _ _ h => h) hS7 (.inl ⟨by rfl, ?y41⟩) ?_
  case y41 => (intro w' h'; go_simp; with_reducible rfl)
  (try simp only [Act.put, List.setIfInBounds_toArray, List.set_cons_zero, List.set_cons_succ])
  refine any_take (i := 28) (v := ?v42) rfl (by kernel_rfl) (by kernel_rfl) (by kernel_rfl) (fun _ _ _ h => h) hS7 (.inl ⟨by rfl, ?y42⟩) ?_
  case y42 => (intro w' h'; go_simp; with_reducible rfl)
  (try simp only [Act.put, List.setIfInBounds_toArray, List.set_cons_zero, List.set_cons_succ])
  refine any_take (i := 29) rfl (by kernel_rfl) (by kernel_rfl) (by kernel_rfl) (fun _ _ _ h => h) hS7 (yi_row _ _ rfl (by rfl) (w1.heap.size) rfl (ac x X xc Y yc) _ Try.underlying25 rfl (au_z _ _ _ _ _) (fun w' h' => ⟨_, _, h'.lent⟩)) ?_
  (try simp only [Act.put, List.setIfInBounds_toArray, List.set_cons_zero, List.set_cons_succ])
  refine any_take (i := 30) rfl (by kernel_rfl) (by kernel_rfl) (by kernel_rfl) (fun _ _ _ h => h) hS7 (yi_row _ _ rfl (by rfl) (w.heap.size) rfl (ac x A c B d) _ Try.underlying25 rfl (au_z _ _ _ _ _) (fun w' h' => ⟨_, _, h'.arg⟩)) ?_
  (try simp only [Act.put, List.setIfInBounds_toArray, List.set_cons_zero, List.set_cons_succ])
  refine any_call (i := 31) rfl (by kernel_rfl) (by rfl) 20 #[.agg (ac x X xc Y yc), .agg (ac x A c B d)] ?x45 (stay8_any x X xc Y yc A c B d HZ.out _ hS7.nx hS7.xcl hS7.ac hS7.ycl hS7.rd) ?_
  case x45 => (simp [go_sem])
  (try simp only [Act.put, List.setIfInBounds_toArray, List.set_cons_zero, List.set_cons_succ])
  rintro e w8 ⟨rfl, hb8⟩
  have hS8 := hS7.keep hb8
  refine ⟨_, rfl, hS8, ?_⟩
  (try simp only [Act.put, List.setIfInBounds_toArray, List.set_cons_zero, List.set_cons_succ])
  refine any_take (i := 32) (v := ?v49) rfl (by kernel_rfl) (by kernel_rfl) (by kernel_rfl) (fun _ _ _ h => h) hS8 (.inl ⟨by rfl, ?y49⟩) ?_
  case y49 => (intro w' h'; go_simp; with_reducible rfl)
  (try simp only [Act.put, List.setIfInBounds_toArray, List.set_cons_zero, List.set_cons_succ])
  refine any_take (i := 33) (v := ?v50) rfl (by kernel_rfl) (by kernel_rfl) (by kernel_rfl) (fun _ _ _ h => h) hS8 (.inl ⟨by rfl, ?y50⟩) ?_
  case y50 => (intro w' h'; go_simp; with_reducible rfl)
  (try simp only [Act.put, List.setIfInBounds_toArray, List.set_cons_zero, List.set_cons_succ])
  refine any_call (i := 34) rfl (by kernel_rfl) (by rfl) 21 #[] ?x51 (live8_any _) ?_
  case x51 => (simp [go_sem])
  (try simp only [Act.put, List.setIfInBounds_toArray, List.set_cons_zero, List.set_cons_succ])
  rintro e w9 ⟨rfl, hb9⟩
  have hS9 := hS8.keep hb9
  refine ⟨_, rfl, hS9, ?_⟩
  (try simp only [Act.put, List.setIfInBounds_toArray, List.set_cons_zero, List.set_cons_succ])
  refine any_take (i := 35) (v := ?v55) rfl (by kernel_rfl) (by kernel_rfl) (by kernel_rfl) (fun _ _ _ h => h) hS9 (.inl ⟨by rfl, ?y55⟩) ?_
  case y55 => (intro w' h'; go_simp; with_reducible rfl)
  (try simp only [Act.put, List.setIfInBounds_toArray, List.set_cons_zero, List.set_cons_succ])
  refine any_take (i := 36) (v := ?v56) rfl (by kernel_rfl) (by kernel_rfl) (by kernel_rfl) (fun _ _ _ h => h) hS9 (.inl ⟨by rfl, ?y56⟩) ?_
  case y56 => (intro w' h'; go_simp; with_reducible rfl)
  (try simp only [Act.put, List.setIfInBounds_toArray, List.set_cons_zero, List.set_cons_succ])
  refine wpAnyH_done (by kernel_rfl) ?_ _
  have HF := Lib.hid hS9.bel
  clear hS hS5 hS6 hS7 hS8 hS9 hb6 hb7 hb8 hb9
  go_wp2
  go_ret
  exact ⟨rfl, HF.out⟩
end Go.Proofs.Ytjckidjljkjhfaa
