/- From a contract on a law's function to what is asked: it returns true, and leaves all as it was. No program is named here. -/
import Derived.Test.YtjohihkbampbgaaSs
namespace Go.Proofs.Ytjohihkbampbgaa
set_option linter.unusedVariables false
set_option linter.unusedSimpArgs false
set_option linter.unusedSectionVars false
open Go Go.RowKit

section
variable {U : Type} [Nil U] {objs : List (ObjT U)} {P : Program} {c : Ctr U}

def isW (x : Int) : Prop := 0 ≤ x ∧ x < 18446744073709551616
theorem wf_isW {x : Int} (h : (Lit.int .u64 x).wf = true) : isW x := by
  simp [Lit.wf, IntKind.min, IntKind.max, IntKind.bits, IntKind.signed] at h
  exact ⟨by omega, by omega⟩
def noF : Nat → Prop := fun _ => False
/-- rows that are read only: at each name its slice -/
theorem Sat.inputs {W : World} {env : List (EV U)} {ρ : List Value} {hp : List HE} (hl : ρ.length = hp.length) (h : ∀ n e, hp[n]? = some e → (∃ ks i, e = .ro ks i ∧ RoAt W noF env ks i (hv ρ n)) ∨ e = .gone) : Sat objs W noF env ρ hp W := by
  refine ⟨hl, ⟨fun _ _ => False, ⟨fun n e hn => ?_, fun _ _ _ h => h.elim, fun _ _ h => h.elim⟩⟩, ⟨rfl, rfl, rfl, Nat.le_refl _, fun _ _ _ => rfl⟩⟩
  rcases h n e hn with ⟨ks, i, rfl, h⟩ | rfl
  · exact h
  · trivial
theorem Ctr.Holds.law (h : c.Holds objs P) (hret : c.ret = .bool (.var c.nin)) {ins : List (EV U)} {ρ : List Value} {vals : List Value} {W : World} (hn : ins.length = c.nin) (hp : c.pre ins) (ho : c.out ins = [.b true])
    (hd : DenL ins ρ c.args vals) (hs : Sat objs W noF ins ρ c.heap W) : Calls P c.fn vals.toArray W fun e W' => e = .returned (.bool true) ∧ Below W.heap.size W W' := by
  refine (h.2.2 ins ρ W vals noF hn hp hd hs).mono ?_
  rintro e W' ⟨r, ρ', rfl, h1, h2⟩
  have h3 := h1.1 [] []
  rw [hret, ho] at h3
  simp only [List.append_nil, SV.den, Bx.den, gB] at h3
  rw [List.getElem?_append_right (by omega), hn, Nat.sub_self] at h3
  simp only [List.getElem?_cons_zero] at h3
  refine ⟨by rw [← h3], h2.frame.os, h2.frame.tape, h2.frame.output, h2.frame.size, fun k hk => h2.frame.block k hk id⟩
theorem Ctr.Holds.law0 (h : c.Holds objs P) (hret : c.ret = .bool (.var c.nin)) (hn : c.nin = 0) (ha : c.args = []) (hh : c.heap = []) (hp : c.pre []) (ho : c.out [] = [.b true]) (W : World) :
    Calls P c.fn #[] W fun e W' => e = .returned (.bool true) ∧ Below W.heap.size W W' :=
  h.law hret (ins := []) (ρ := []) (vals := []) (by rw [hn]; rfl) hp ho (by rw [ha]; exact DenL.nil) (Sat.inputs (by rw [hh]; rfl) (by rw [hh]; simp))
end
end Go.Proofs.Ytjohihkbampbgaa
