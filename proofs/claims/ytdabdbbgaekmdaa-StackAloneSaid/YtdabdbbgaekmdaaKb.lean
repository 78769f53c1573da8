/- Stacks: the chapter's examples are so: the run is reckoned. -/
import Derived.Test.YtdabdbbgaekmdaaKaX
import Derived.Test.YtdabdbbgaekmdaaKiV
namespace Go.Proofs.Ytdabdbbgaekmdaa
set_option linter.unusedVariables false
set_option linter.unusedSimpArgs false
set_option linter.unusedSectionVars false
open Go Go.RowKit

def cSKnown : Ctr U :=
  { fn := 4, nin := 0, args := [], heap := [], pre := fun ins => ins = [], nout := 1, out := fun _ => [.b true], ret := .bool (.var 0), post := [] }
def cSAwake : Ctr U :=
  { fn := 12, nin := 0, args := [], heap := [], pre := fun ins => ins = [], nout := 1, out := fun _ => [.b true], ret := .bool (.var 0), post := [] }
def ctsST : List (Ctr U) := ctsKT ++ [cSFits, cSFill, cSChain, cNewPo, cPoStep, cPoIndex, cNewPu, cPuStep, cPuErr, cNewAl, cAlStep, cAlIndex, cSameInts]
theorem hctsST : ∀ (ci : Nat) (c : Ctr U), ctsST[ci]? = some c → c.Holds objs Try.prog := ctsApp hctsKT (by
  intro ci c h
  match ci, h with
  | 0, h => cases h; exact hSFits
  | 1, h => cases h; exact hSFill
  | 2, h => cases h; exact hSChain
  | 3, h => cases h; exact hNewPo
  | 4, h => cases h; exact hPoStep
  | 5, h => cases h; exact hPoIndex
  | 6, h => cases h; exact hNewPu
  | 7, h => cases h; exact hPuStep
  | 8, h => cases h; exact hPuErr
  | 9, h => cases h; exact hNewAl
  | 10, h => cases h; exact hAlStep
  | 11, h => cases h; exact hAlIndex
  | 12, h => cases h; exact hSameInts
  | n + 13, h => cases h)
/-! ### what contracts ask, reckoned -/
def leLen : Nat → List Int → Bool
  | 0, _ => true
  | n + 1, _ :: l => leLen n l
  | _ + 1, [] => false
theorem leLen_spec : ∀ {n : Nat} {l : List Int}, leLen n l = true → n ≤ l.length
  | 0, _, _ => Nat.zero_le _
  | n + 1, _ :: l, h => Nat.succ_le_succ (leLen_spec (n := n) (l := l) h)
  | _ + 1, [], h => by cases h
def wordB (x : Int) : Bool := decide (0 ≤ x) && decide (x < 18446744073709551616)
theorem wordB_spec {x : Int} (h : wordB x = true) : isW x := by simp [wordB] at h; exact h
def fineB (M : MemSt) : Bool := decide (M.W.length ≤ 4096) && M.W.all wordB
theorem fineB_spec {M : MemSt} (h : fineB M = true) : M.fine := by
  simp only [fineB, Bool.and_eq_true, decide_eq_true_eq, List.all_eq_true] at h
  exact ⟨h.1, fun x hx => wordB_spec (h.2 x hx)⟩
def okPoB (P : PopSt) : Bool := (decide (P.line = 1) || (decide (P.line = 2) || decide (P.line = 3)) && decide (0 ≤ P.i) || decide (P.line = 9)) && (wordB P.w && (decide (-1 ≤ P.j) && decide (P.j ≤ 65534)))
theorem okPoB_spec {P : PopSt} (h : okPoB P = true) : P.ok := by
  simp only [okPoB, Bool.and_eq_true, Bool.or_eq_true, decide_eq_true_eq] at h
  exact ⟨by rcases h.1 with (h | h) | h; exact .inl h; exact .inr (.inl h); exact .inr (.inr h), wordB_spec h.2.1, h.2.2⟩
def okPuB (P : PushSt) : Bool := ((decide (P.line = 1) || decide (P.line = 2) || decide (P.line = 3)) && decide (P.err = 0) || decide (P.line = 9)) && (wordB P.w && (decide (0 ≤ P.i) && decide (P.i ≤ 65534)))
theorem okPuB_spec {P : PushSt} (h : okPuB P = true) : P.ok := by
  simp only [okPuB, Bool.and_eq_true, Bool.or_eq_true, decide_eq_true_eq] at h
  exact ⟨by rcases h.1 with ⟨(h | h) | h, h0⟩ | h; exact .inl ⟨.inl h, h0⟩; exact .inl ⟨.inr (.inl h), h0⟩; exact .inl ⟨.inr (.inr h), h0⟩; exact .inr h, wordB_spec h.2.1, h.2.2⟩
def okAlB (P : AllSt) : Bool := (decide (P.line = 1) || decide (P.line = 2) && decide (0 ≤ P.i) || decide (P.line = 9)) && wordB P.w
theorem okAlB_spec {P : AllSt} (h : okAlB P = true) : P.ok := by
  simp only [okAlB, Bool.and_eq_true, Bool.or_eq_true, decide_eq_true_eq] at h
  exact ⟨by rcases h.1 with (h | h) | h; exact .inl h; exact .inr (.inl h); exact .inr (.inr h), wordB_spec h.2⟩
/-- is what a contract asks so? (enough for it) -/
def preS (ci : Nat) (ins : List (EV U)) : Bool :=
  match ci, ins with
  | 0, [.u (.mem _), .i _] => true
  | 1, [.u (.mem _), .i _, .i _] => true
  | 2, [.u (.mem _), .i _, .i _, .i _] => true
  | 3, [.i _] => true
  | 4, [.u (.mem _)] => true
  | 5, [.u (.mem _)] => true
  | 6, [.u (.mem _)] => true
  | 7, [.l xs, .l ys, .i a, .i _, .i b, .i _] => decide (0 ≤ a) && (decide (a ≤ xs.length) && (decide (0 ≤ b) && (decide (b ≤ ys.length) && decide (a < 4611686018427387904))))
  | 9, [.i w] => wordB w
  | 12, [.i _, .i _, .i _, .i _] => true
  | 13, [.u (.mem _), .i _, .i _, .i _] => true
  | 14, [.u (.mem M), .i _, .i _, .i n] => fineB M && decide (n ≤ 4096)
  | 15, [.i _, .i _, .i _] => true
  | 16, [.u (.pop P), .u (.mem M)] => okPoB P && fineB M
  | 17, [.u (.pop P)] => okPoB P
  | 18, [.i _, .i _, .i _, .i _] => true
  | 19, [.u (.push P), .u (.mem M)] => okPuB P && fineB M
  | 20, [.u (.push P)] => okPuB P
  | 21, [.i _, .i _, .i _] => true
  | 22, [.u (.all P), .u (.mem M)] => okAlB P && fineB M
  | 23, [.u (.all P)] => okAlB P
  | 24, [.l xs, .l ys, .i a, .i _, .i b, .i _] => decide (0 ≤ a) && (leLen a.toNat xs && (decide (0 ≤ b) && (leLen b.toNat ys && decide (a < 4611686018427387904))))
  | 25, [] => true
  | _, _ => false
def ctsSA : List (Ctr U) := ctsST ++ [cSAwake]
theorem preS_spec : ∀ (ci : Nat) (c : Ctr U) (ins : List (EV U)), ctsSA[ci]? = some c → preS ci ins = true → c.pre ins := by
  intro ci c ins h hp
  unfold preS at hp
  split at hp
  all_goals first
    | (cases hp; done)
    | cases h
  all_goals try simp only [Bool.and_eq_true, decide_eq_true_eq] at hp
  all_goals first
    | rfl
    | exact ⟨_, rfl⟩
    | exact ⟨_, _, rfl⟩
    | exact ⟨_, _, _, rfl⟩
    | exact ⟨_, _, _, _, rfl⟩
    | exact ⟨_, rfl, wordB_spec hp⟩
    | exact ⟨_, _, _, _, rfl, fineB_spec hp.1, hp.2⟩
    | exact ⟨_, _, rfl, okPoB_spec hp.1, fineB_spec hp.2⟩
    | exact ⟨_, rfl, okPoB_spec hp⟩
    | exact ⟨_, _, rfl, okPuB_spec hp.1, fineB_spec hp.2⟩
    | exact ⟨_, rfl, okPuB_spec hp⟩
    | exact ⟨_, _, rfl, okAlB_spec hp.1, fineB_spec hp.2⟩
    | exact ⟨_, rfl, okAlB_spec hp⟩
    | (obtain ⟨h1, h2, h3, h4, h5⟩ := hp; exact ⟨_, _, _, _, _, _, rfl, h1, h2, h3, h4, h5⟩)
    | (obtain ⟨h1, h2, h3, h4, h5⟩ := hp; have g2 := leLen_spec h2; have g4 := leLen_spec h4; exact ⟨_, _, _, _, _, _, rfl, h1, by omega, h3, by omega, h5⟩)
theorem preS_spec' : ∀ (ci : Nat) (c : Ctr U) (ins : List (EV U)), ctsST[ci]? = some c → preS ci ins = true → c.pre ins := by
  intro ci c ins h hp
  have hlt : ci < ctsST.length := (List.getElem?_eq_some_iff.1 h).1
  exact preS_spec ci c ins (by rw [ctsSA, List.getElem?_append_left hlt]; exact h) hp
def okN (m : Nat) (ps : List (EV U)) : Bool := false
theorem okN_spec : ∀ (m : Nat) (T : ObjT U) (ps : List (EV U)), objs[m]? = some T → okN m ps = true → T.ok ps := by
  intro m T ps _ h; cases h
set_option maxRecDepth 1000000 in
theorem kSAwake : ∀ cs, (runCtr (cx Try.prog ctsST) 40 cSAwake [] []).satC (cx Try.prog ctsST) preS okN (fun _ o => oneB o) cs 0 [] [] = true := by intro cs; kernel_rfl
set_option maxRecDepth 100000 in
theorem hSAwake : cSAwake.Holds objs Try.prog := runCtr_holds (X := cx Try.prog ctsST) (fuel := 40) (opens := []) (folds := []) objsOk mixed hctsST (callable _ Try.func12 (by kernel_rfl) (by kernel_rfl)) (by rintro ins _ rfl; rfl)
  (by
    rintro ins _ rfl
    refine satC_sound (RB := fun _ o => oneB o) (preB := preS) (okB := okN) ?_ ?_ ?_ _ 0 [] [] CapsOk.nil ?_
    · exact preS_spec'
    · exact okN_spec
    · exact fun e o h => oneB_spec h
    · exact kSAwake)
theorem hctsSA : ∀ (ci : Nat) (c : Ctr U), ctsSA[ci]? = some c → c.Holds objs Try.prog := ctsApp hctsST (by intro ci c h; match ci, h with | 0, h => cases h; exact hSAwake | n + 1, h => cases h)
set_option maxRecDepth 1000000 in
theorem kSKnown : ∀ cs, (runCtr (cx Try.prog ctsSA) 40 cSKnown [] []).satC (cx Try.prog ctsSA) preS okN (fun _ o => oneB o) cs 0 [] [] = true := by intro cs; kernel_rfl
set_option maxRecDepth 100000 in
theorem hSKnown : cSKnown.Holds objs Try.prog := runCtr_holds (X := cx Try.prog ctsSA) (fuel := 40) (opens := []) (folds := []) objsOk mixed hctsSA (callable _ Try.func4 (by kernel_rfl) (by kernel_rfl)) (by rintro ins _ rfl; rfl)
  (by
    rintro ins _ rfl
    refine satC_sound (RB := fun _ o => oneB o) (preB := preS) (okB := okN) ?_ ?_ ?_ _ 0 [] [] CapsOk.nil ?_
    · exact preS_spec
    · exact okN_spec
    · exact fun e o h => oneB_spec h
    · exact kSKnown)
theorem stackKnown_walk (W : World) : Calls Try.prog 4 #[] W fun e W' => e = .returned (.bool true) ∧ Below W.heap.size W W' :=
  hSKnown.law0 rfl rfl rfl rfl rfl rfl W
end Go.Proofs.Ytdabdbbgaekmdaa
