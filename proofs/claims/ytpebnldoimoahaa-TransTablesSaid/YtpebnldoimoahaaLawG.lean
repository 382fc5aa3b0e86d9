/- The walk of the statement TransNil: no table, and one that nobody made. -/
import Derived.Test.YtpebnldoimoahaaNil
namespace Go.Proofs.Ytpebnldoimoahaa
open Go.RowKit Go.Proofs.YtpebnldoimoahaaW.PrintWords
set_option linter.unusedSimpArgs false
/-- The empty table's block. -/
abbrev ZB : Obj := .cells #[.int .i64 0, .map none, .slice none 0 0] 55 (0, 0)
theorem add_op (ad : Addr) (i j : Nat) : (ad.add (i * 10)).add j = ad.add (i * 10 + j) := Go.Deep.add_add _ _ _
/-- An operation is loaded out of a list, guarded or not. -/
theorem ld_op {ops : Array Oper} {rest : List Oper} {o : Oper} {a : Act} {w : World} {Q : Exit → Act → World → Prop} (x : Operand) (ho : o.op = .load 58 x) (ad : Addr) (k : Nat) (hx : a.eval x = .pointer (some (ad.add (k * 10)))) {v : OpV} (hok : v.ok)
    (hc : ∀ (j : Nat) (u : Value), v.cells[j]? = some u → w.cell? (ad.add (k * opKd.sz + j)) = some u) (hw : Region.wanted o (yielded ops a.tmps) = true) (h : wpList Try.prog ops Q rest (a.put o.dst (.agg v.cells.toArray)) w) : wpList Try.prog ops Q (o :: rest) a w :=
  wpList_want hw fun K hK => by
    have hi : (Try.prog.info? 58).map (·.size) = some v.cells.length := by rw [OpV.len v hok]; kernel_rfl
    unfold Oper.wp execOp
    simp only [ho, hx, Instr.loadAt, Instr.sureAddr, Sem.run_bind, Sem.run_pure, Result.andThen_ok, run_loadVar_at w (ad.add (k * 10)) 58 v.cells _ (fun j u hu => by rw [add_op]; exact hc j u hu) Try.underlying58 rfl hi]
    exact hK _ _ h
set_option maxRecDepth 100000 in
set_option maxHeartbeats 2000000 in
theorem transNil_any (w : World) (A : Option Addr) (c : Nat) (l : List OpV) (hA : opKd.C w A l.length l) :
    Calls Try.prog 6 #[.slice A l.length c] w fun e w' => e = .returned (.bool true) ∧ Below w.heap.size w w' := by
  have HA := Aside0.mk hA
  have hmax := Kd.C_max hA
  clear hA
  go_enter Try.func6, Try.ntmps6
  go_wp2
  go_loopw [5] (fun i wr => ∃ k : Nat, k ≤ l.length ∧ i = .int .i64 k ∧ Hid (wr.heap[w.heap.size]? = some ZB ∧ Below w.heap.size w wr)) (fun i _ => l.length - (intOf i).toNat)
  case atStart => exact ⟨0, by omega, rfl, Lib.hid ⟨hp_new rfl, bl_alloc (Below.refl _ _) _⟩⟩
  case round =>
    obtain ⟨k, hk, rfl, H⟩ := hrel
    have HZ := Lib.hid H.out.1
    have HB := Aside0.mk H.out.2
    clear H
    by_cases hkl : k < l.length
    · obtain ⟨ad, cs, rfl, hcl, ⟨hok, rfl⟩, hcell⟩ := Kd.C_get (Kd.C_below HA.out HB.out) default k (by omega) (by omega)
      rw [Int.toNat_natCast] at hok hcell hcl
      generalize l.getD k default = o at *
      have HC := Lib.hid hcell
      have HOK := Lib.hid hok
      clear hcell hcl hok
      go_wp2_with (refine ld_op _ rfl ad k rfl HOK.out HC.out rfl ?_)
      refine (asks_dead _ o _ (.inl rfl) HOK.out).mono ?_
      rintro e w1 ⟨rfl, hb⟩
      have HZ1 := Lib.hid (hp_below' hb HZ.out); have HB1 := Aside0.mk (bl_then HB.out hb)
      have HC1 := Lib.hid (fun (j : Nat) (u : Value) (hu : o.cells[j]? = some u) => (hb.cell (p := ad.add (k * opKd.sz + j)) (World.block_lt_of_cell? _ _ (HC.out j u hu))).trans (HC.out j u hu))
      clear hb HZ HB HC
      go_wp2_with (refine ld_op _ rfl ad k rfl HOK.out HC1.out rfl ?_)
      refine (asks_dead _ o _ (.inr ⟨_, rfl, HZ1.out⟩) HOK.out).mono ?_
      rintro e w2 ⟨rfl, hb⟩
      have HZ2 := Lib.hid (hp_below' hb HZ1.out); have HB2 := Aside0.mk (bl_then HB1.out hb)
      clear hb HZ1 HB1 HC1
      go_wp2
      go_roundw
      case rel => exact ⟨k + 1, by omega, by go_num, Lib.hid ⟨HZ2.out, HB2.out⟩⟩
      case measure => simp [intOf]; omega
    · have : k = l.length := by omega
      subst this
      go_wp2_with fail
      refine (len_dead _ _ (.inl rfl)).mono ?_
      rintro e w' ⟨rfl, rfl⟩
      go_wp2_with fail
      refine (len_dead _ _ (.inr ⟨_, rfl, HZ.out⟩)).mono ?_
      rintro e w' ⟨rfl, rfl⟩
      go_wp2_with fail
      refine (knows_any _).mono ?_
      rintro e w1 ⟨rfl, hb⟩
      go_wp2
      go_ret
      exact ⟨rfl, bl_then HB.out hb⟩
end Go.Proofs.Ytpebnldoimoahaa
