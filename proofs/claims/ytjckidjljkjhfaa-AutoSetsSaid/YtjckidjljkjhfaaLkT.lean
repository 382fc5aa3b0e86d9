/- Where a letter of a state leads. -/
import Derived.Test.YtjckidjljkjhfaaSg
namespace Go.Proofs.Ytjckidjljkjhfaa
open Go.RowKit Go.Proofs.YtjckidjljkjhfaaW.PrintWords
/-- Where a letter of a state leads: all that the walk of one look-up needs. -/
structure LkT (x : AutV) (A : Option Addr) (W : World) (s l : Nat) (ad : Addr) (p : Nat) : Prop where
  addr : A = some ad
  cell : W.cell? (ad.add (p + l)) = some (.int .i64 ((stp x s l : Nat) : Int))
  mul : IntKind.i64.wrap ((s : Int) * x.k) = (p : Int)
  add : IntKind.i64.wrap ((p : Int) + (l : Int)) = (p : Int) + (l : Int)
  pos : 0 ≤ (p : Int) + (l : Int)
  lt : (p : Int) + (l : Int) < (x.next.length : Int)
  nat : ((p : Int) + (l : Int)).toNat = p + l
theorem lkT {x : AutV} {A B : Option Addr} {W : World} (hx : AutOk x) (hr : ARd W x A B) {s l : Nat} (hs : s < x.acc.length) (hl : (l : Int) < x.k) : ∃ ad p, LkT x A W s l ad p := by
  obtain ⟨q1, q2⟩ := stp_lt hx hs hl
  have hix := stp_idx hx hs hl
  have hk1 := hx.1; have hk2 := hx.2.1; have hn2 := hx.2.2.2.1; have hnl := hx.2.2.2.2.1
  obtain ⟨ad, hA, hcell⟩ := Kd.at_int hr.next ((s * x.k.toNat + l : Nat) : Int) (by omega) (by omega)
  rw [Int.toNat_natCast, q2] at hcell
  have hmul : (s : Int) * x.k = ((s * x.k.toNat : Nat) : Int) := by
    obtain ⟨kk, hkk⟩ := Int.eq_ofNat_of_zero_le (show 0 ≤ x.k by omega)
    rw [hkk, Int.toNat_natCast]; push_cast; rfl
  have hP : s * x.k.toNat ≤ 40960 := by
    have : s * x.k.toNat ≤ 4096 * 10 := Nat.mul_le_mul (by omega) (by omega)
    omega
  have hxl : x.next.length ≤ 32768 := by
    have := aut_mul hk1 hk2 hn2
    omega
  exact ⟨ad, s * x.k.toNat, hA, hcell, by rw [hmul]; exact IntWalk.i64_in _ ⟨by omega, by omega⟩, IntWalk.i64_in _ ⟨by omega, by omega⟩, by omega, by omega, by omega⟩
section
variable {P : Program} {ops : Array Oper} {rest : List Oper} {o : Oper} {a : Act} {w : World} {Q : Exit → Act → World → Prop}
/-- A whole block is loaded. -/
theorem wpl_rowS {cs : Array Value} (hgd : o.guard = none) (ty : TypeId) (x : Operand) (ho : o.op = .load ty x) (g : Nat) (hx : a.eval x = .pointer (some ⟨g, 0, none⟩)) {t' : TypeId} {fr : Nat × Nat} (hg : w.heap[g]? = some (.cells cs t' fr)) {d : TypeDesc} (hd : (match d with | .struct _ | .array _ _ => true | _ => false) = true) (hu : P.underlying ty = some d) (hi : (P.info? ty).map (·.size) = some cs.size)
    (h : wpList P ops Q rest (a.put o.dst (.agg cs)) w) : wpList P ops Q (o :: rest) a w :=
  wpList_plain hgd fun K hK => wp_load_row ty x ho g hx _ _ _ _ hg hu (by cases d <;> exact hd) hi (hK _ _ h)
end
end Go.Proofs.Ytjckidjljkjhfaa
