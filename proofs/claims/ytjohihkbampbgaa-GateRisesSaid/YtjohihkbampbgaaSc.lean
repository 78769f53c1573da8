/- The symbolic executor: calls, regions, loops, functions, contracts. No program is named here. -/
import Derived.Test.YtjohihkbampbgaaSb
namespace Go.Proofs.Ytjohihkbampbgaa
set_option linter.unusedVariables false
set_option linter.unusedSimpArgs false
set_option linter.unusedSectionVars false
open Go

structure Cx (U : Type) where
  P : Program
  cts : List (Ctr U)
  objs : List (ObjT U)
  loops : List (LoopS U)
  hints : List (Nat × Nat × List Nat)

def outOf : List (Nat × Nat × List Nat) → Nat → Nat → List Nat
  | [], _, _ => []
  | (f, r, l) :: hs, f', r' => if f = f' ∧ r = r' then l else outOf hs f' r'
def Cx.out {U : Type} (X : Cx U) (f r : Nat) : List Nat := outOf X.hints f r
def needs (l : List Bx) (k : Tree) : Tree := l.foldr .need k

mutual
def SV.mapN (g : SV → SV) : SV → SV
  | .func fn a b => .func fn (SV.mapNL g a) (SV.mapNL g b)
  | .agg l => .agg (SV.mapNL g l)
  | .tuple l => .tuple (SV.mapNL g l)
  | v => g v
def SV.mapNL (g : SV → SV) : List SV → List SV
  | [] => []
  | v :: l => SV.mapN g v :: SV.mapNL g l
end
def HE.mapN (g : SV → SV) : HE → HE
  | .cells vs t => .cells (SV.mapNL g vs) t
  | h => h
/-- a handle's value is written otherwise -/
def swapH (n : Nat) (v : SV) : SV → SV
  | .hnd m => if m = n then v else .hnd m
  | w => w
def swapP (n : Nat) : SV → SV
  | .ptr m 0 => if m = n then .hnd n else .ptr m 0
  | w => w
def Tm.mapN (g : SV → SV) (m : Tm) : Tm := { m with t := m.t.map (SV.mapN g) }
def St.mapN (g : SV → SV) (st : St) : St := { st with tm := st.tm.mapN g, stk := st.stk.map (Tm.mapN g), hp := st.hp.map (HE.mapN g) }

/-! ### values are reckoned at once (for the kernel's sake) -/
def fNat {α : Type} (n : Nat) (k : Nat → α) : α := match n with | 0 => k 0 | m + 1 => k (m + 1)
def Ex.force {α : Type} : Ex → (Ex → α) → α
  | .bin op kd a b, k => a.force fun a => b.force fun b => k (.bin op kd a b)
  | .conv kd a, k => a.force fun a => k (.conv kd a)
  | .nth i e, k => e.force fun e => k (.nth i e)
  | .fld i e c, k => e.force fun e => k (.fld i e c)
  | .lit n, k => k (.lit n)
  | .var i, k => fNat i fun i => k (.var i)
  | .len i, k => k (.len i)
  | .nrow i, k => k (.nrow i)
def Bx.force {α : Type} : Bx → (Bx → α) → α
  | .cmp op a b, k => a.force fun a => b.force fun b => k (.cmp op a b)
  | .beq a b, k => a.force fun a => b.force fun b => k (.beq a b)
  | .not a, k => a.force fun a => k (.not a)
  | .and a b, k => a.force fun a => b.force fun b => k (.and a b)
  | .fld i e c, k => e.force fun e => k (.fld i e c)
  | .lit b, k => match b with | true => k (.lit true) | false => k (.lit false)
  | .var i, k => fNat i fun i => k (.var i)
  | .isnil i, k => k (.isnil i)
mutual
def SV.force {α : Type} : SV → (SV → α) → α
  | .int kd e, k => e.force fun e => k (.int kd e)
  | .bool b, k => b.force fun b => k (.bool b)
  | .nilp, k => k .nilp
  | .ptr n o, k => fNat n fun n => fNat o fun o => k (.ptr n o)
  | .ptrx n e s o, k => fNat n fun n => e.force fun e => k (.ptrx n e s o)
  | .hnd n, k => fNat n fun n => k (.hnd n)
  | .nils, k => k .nils
  | .slice n l c, k => fNat n fun n => l.force fun l => c.force fun c => k (.slice n l c)
  | .func fn a b, k => SV.forceL a fun a => SV.forceL b fun b => k (.func fn a b)
  | .nilf, k => k .nilf
  | .agg l, k => SV.forceL l fun l => k (.agg l)
  | .tuple l, k => SV.forceL l fun l => k (.tuple l)
  | .rowv kd i, k => k (.rowv kd i)
  | .yld n, k => fNat n fun n => k (.yld n)
  | .junk, k => k .junk
def SV.forceL {α : Type} : List SV → (List SV → α) → α
  | [], k => k []
  | v :: l, k => v.force fun v => SV.forceL l fun l => k (v :: l)
end
def HE.force {α : Type} : HE → (HE → α) → α
  | .cells vs t, k => SV.forceL vs fun vs => k (.cells vs t)
  | .abs i, k => fNat i fun i => k (.abs i)
  | .row kd t i, k => fNat i fun i => k (.row kd t i)
  | .ro ks i, k => k (.ro ks i)
  | .sys i j, k => k (.sys i j)
  | .gone, k => k .gone
def HE.forceL {α : Type} : List HE → (List HE → α) → α
  | [], k => k []
  | h :: l, k => h.force fun h => HE.forceL l fun l => k (h :: l)
def St.force {α : Type} (st : St) (k : St → α) : α := HE.forceL st.hp fun hp => fNat st.ne fun ne => k { tm := st.tm, stk := st.stk, hp := hp, ne := ne, pc := st.pc }
def fBools {α : Type} : List Bool → (List Bool → α) → α
  | [], k => k []
  | true :: l, k => fBools l fun l => k (true :: l)
  | false :: l, k => fBools l fun l => k (false :: l)
def fArr {α : Type} (a : Array Bool) (k : Array Bool → α) : α := fBools a.toList fun l => k ⟨l⟩
theorem fBools_eq {α : Type} : ∀ (l : List Bool) (k : List Bool → α), fBools l k = k l
  | [], k => rfl
  | true :: l, k => by simp only [fBools, fBools_eq l]
  | false :: l, k => by simp only [fBools, fBools_eq l]
theorem fArr_eq {α : Type} (a : Array Bool) (k : Array Bool → α) : fArr a k = k a := by simp only [fArr, fBools_eq]
/-- free whatever has come up -/
theorem free_static {ops : Array Oper} {listed : Array Bool} {i : Nat} (h : Region.free .any ops (Array.replicate ops.size false) i = true) : Region.free .any ops listed i = true := by
  unfold Region.free at h ⊢
  split at h
  · cases h
  · rename_i oi hoi
    simp only [List.all_eq_true, List.mem_range] at h ⊢
    intro j hj
    have := h j hj
    have e : (Array.replicate ops.size false).getD j true = false := by simp [Array.getD, hj]
    rw [e] at this
    simp only [Bool.or_false] at this
    simp only [Bool.or_eq_true] at this ⊢
    exact this.elim (fun h => .inl (.inl h)) .inr
theorem fNat_eq {α : Type} (n : Nat) (k : Nat → α) : fNat n k = k n := by cases n <;> rfl
theorem Ex.force_eq {α : Type} : ∀ (e : Ex) (k : Ex → α), e.force k = k e := by
  intro e
  induction e <;> intro k <;> simp only [Ex.force, fNat_eq, *]
theorem Bx.force_eq {α : Type} : ∀ (e : Bx) (k : Bx → α), e.force k = k e := by
  intro e
  induction e <;> intro k <;> try simp only [Bx.force, fNat_eq, Ex.force_eq, *]
  case lit b => cases b <;> rfl
mutual
theorem SV.force_eq {α : Type} : ∀ (v : SV) (k : SV → α), v.force k = k v
  | .int kd e, k => by simp only [SV.force, Ex.force_eq]
  | .bool b, k => by simp only [SV.force, Bx.force_eq]
  | .nilp, k => rfl
  | .ptr n o, k => by simp only [SV.force, fNat_eq]
  | .ptrx n e s o, k => by simp only [SV.force, fNat_eq, Ex.force_eq]
  | .hnd n, k => by simp only [SV.force, fNat_eq]
  | .nils, k => rfl
  | .slice n l c, k => by simp only [SV.force, fNat_eq, Ex.force_eq]
  | .func fn a b, k => by simp only [SV.force, SV.forceL_eq a, SV.forceL_eq b]
  | .nilf, k => rfl
  | .agg l, k => by simp only [SV.force, SV.forceL_eq l]
  | .tuple l, k => by simp only [SV.force, SV.forceL_eq l]
  | .rowv kd i, k => rfl
  | .yld n, k => by simp only [SV.force, fNat_eq]
  | .junk, k => rfl
theorem SV.forceL_eq {α : Type} : ∀ (l : List SV) (k : List SV → α), SV.forceL l k = k l
  | [], k => rfl
  | v :: l, k => by simp only [SV.forceL, SV.force_eq v, SV.forceL_eq l]
end
theorem HE.force_eq {α : Type} (h : HE) (k : HE → α) : h.force k = k h := by cases h <;> simp only [HE.force, SV.forceL_eq, fNat_eq]
theorem HE.forceL_eq {α : Type} : ∀ (l : List HE) (k : List HE → α), HE.forceL l k = k l
  | [], k => rfl
  | v :: l, k => by simp only [HE.forceL, HE.force_eq v, HE.forceL_eq l]
theorem St.force_eq {α : Type} (st : St) (k : St → α) : st.force k = k st := by simp only [St.force, HE.forceL_eq, fNat_eq]

section
variable {U : Type}

def tryCtr (c : Ctr U) (ci : Nat) (args : List SV) (st : St) (K : SV → St → Tree) : Option Tree :=
  match unL ⟨List.replicate c.nin none, List.replicate c.heap.length none⟩ c.args args with
  | none => none
  | some m =>
    match unHp st.hp 0 c.heap m with
    | none => none
    | some m =>
      match allSome m.β, allSome m.σ with
      | some β, some σ =>
        if chkL β σ c.args args && chkHp β σ st.hp 0 c.heap && nodup σ && decide (c.heap.length ≤ c.post.length) && decide (β.length = c.nin) && decide (σ.length = c.heap.length) && β.all (Bnd.inScope st.ne) && σ.all (· < st.hp.length) then
          let β' := β ++ (List.range c.nout).map fun j => .var (st.ne + j)
          let σ' := σ ++ (List.range (c.post.length - c.heap.length)).map (st.hp.length + ·)
          match c.ret.subst β' σ', substHp β' σ' st.hp 0 (c.post.take c.heap.length), substNew β' σ' (c.post.drop c.heap.length) with
          | some v, some hp1, some hp2 => some (.call ci β (K v { st with hp := hp1 ++ hp2, ne := st.ne + c.nout }))
          | _, _, _ => none
        else none
      | _, _ => none
def tryCtrs (f : FuncId) (args : List SV) (st : St) (K : SV → St → Tree) : Nat → List (Ctr U) → Option Tree
  | _, [] => none
  | ci, c :: cs =>
    if c.fn = f then
      match tryCtr c ci args st K with
      | some t => some t
      | none => tryCtrs f args st K (ci + 1) cs
    else tryCtrs f args st K (ci + 1) cs

/-- blocks of numbers that a contract wants as a row are written as one -/
def allInts (k : IntKind) : List SV → Option (List Ex)
  | [] => some []
  | .int k' e :: l => if k = k' then (allInts k l).map (e :: ·) else none
  | _ :: _ => none
def rowArgs (hp : List HE) : List SV → List SV → List Nat
  | .slice m _ _ :: cs, .slice n _ _ :: as => (match hp[m]? with | some (.row ..) => [n] | _ => []) ++ rowArgs hp cs as
  | _ :: cs, _ :: as => rowArgs hp cs as
  | _, _ => []
def wantRows (cts : List (Ctr U)) (f : FuncId) (args : List SV) : List Nat := (cts.filter fun c => c.fn = f).flatMap fun c => rowArgs c.heap c.args args
def toRows (P : Program) : List Nat → St → (St → Tree) → Tree
  | [], st, K => K st
  | n :: l, st, K =>
    match st.hp[n]? with
    | some (.cells vs ty) =>
      match P.underlying ty with
      | some (.int k) =>
        match allInts k vs with
        | some xs => .ext (.lst xs) (toRows P l { st with hp := st.hp.set n (.row k ty st.ne), ne := st.ne + 1 } K)
        | none => toRows P l st K
      | _ => toRows P l st K
    | _ => toRows P l st K

def zeroRow (P : Program) (t : TypeId) : Option (IntKind × Nat) :=
  match P.underlying t, (P.info? t).bind (·.zero) with
  | some (.array len elem), some z =>
    match P.underlying elem with
    | some (.int k) => if 64 < len && z.cells.toList.all (fun v => match v with | .int k' n => k == k' && n == 0 | _ => false) && z.cells.toList.length == len then some (k, len) else none
    | _ => none
  | _, _ => none

/-- an operation that changes blocks -/
def execE (X : Cx U) (inl : FuncId → List SV → St → (SV → St → Tree) → Tree) (o : Oper) (st : St) (K : St → Tree) : Tree :=
  let ρ := evalO st.tm
  let P := X.P
  match o.op with
  | .store t a v =>
    match ρ a with
    | .ptr n off =>
      match st.hp[n]?, ρ v with
      | some (.cells vs ty), v =>
        if decide (sizeT P t = some v.flat.length) && v.flat.all (cellOk st.hp) then
          match splice vs off v.flat with
          | some vs' => K ({ st with hp := st.hp.set n (.cells vs' ty) }.put o.dst .junk)
          | none => .fail "store out of block"
        else .fail "store value"
      | some (.row k ty i), .rowv k' j =>
        match off, sizeT P t with
        | 0, some (m' + 1) => if k = k' then .need (.cmp .eql (.len i) (.lit (m' + 1 : Nat))) (.need (.cmp .eql (.len j) (.lit (m' + 1 : Nat))) (K ({ st with hp := st.hp.set n (.row k ty j) }.put o.dst .junk))) else .fail "store row kind"
        | _, _ => .fail "store row"
      | _, _ => .fail "store where"
    | .ptrx n e 1 0 =>
      match st.hp[n]?, ρ v with
      | some (.row k ty i), .int k' x =>
        if k = k' ∧ sizeT P t = some 1 then
          needs (leE (.lit 0) e ++ ltE e (.len i)) (.ext (.setl i e x) (K ({ st with hp := st.hp.set n (.row k ty st.ne), ne := st.ne + 1 }.put o.dst .junk)))
        else .fail "store row kind"
      | _, _ => .fail "storex where"
    | _ => .fail "store address"
  | .alloc t =>
    match zeroRow P t with
    | some (k, len) => .ext (.repl (.lit len) (.lit 0)) (K ({ st with hp := st.hp ++ [HE.row k t st.ne], ne := st.ne + 1 }.put o.dst (.ptr st.hp.length 0)))
    | none =>
      match zeroT P t with
      | some zs => K ({ st with hp := st.hp ++ [HE.cells zs t] }.put o.dst (.ptr st.hp.length 0))
      | none => .fail "alloc zero"
  | .box t x =>
    if (ρ x).flat.all (cellOk st.hp) then K ({ st with hp := st.hp ++ [HE.cells (ρ x).flat t] }.put o.dst (.ptr st.hp.length 0)) else .fail "box junk"
  | .buildSlice t len parts =>
    match P.underlying t with
    | some (.slice elem) =>
      match sizeT P elem, zeroT P elem with
      | some s, some z =>
        if len * s ≤ 64 ∧ 0 < s ∧ z.length = s then
          match fillS st.hp (fun i => some (i * s, s)) ((List.replicate len z).flatten) (parts.toList.map fun (i, x) => (i, ρ x)) with
          | some l => K ({ st with hp := st.hp ++ [HE.cells l elem] }.put o.dst (.slice st.hp.length (.lit len) (.lit len)))
          | none => .fail "buildSlice parts"
        else .fail "buildSlice size"
      | _, _ => .fail "buildSlice zero"
    | _ => .fail "buildSlice type"
  | .makeSlice t l c =>
    match P.underlying t, ρ l, ρ c with
    | some (.slice elem), .int _ (.lit n), .int _ (.lit m) =>
      match sizeT P elem, zeroT P elem, P.info? elem with
      | some s, some z, some i =>
        if n = m ∧ 0 ≤ n ∧ n ≤ 64 ∧ 0 < s ∧ z.length = s ∧ i.bytes ≤ 4096 then
          K ({ st with hp := st.hp ++ [HE.cells ((List.replicate n.toNat z).flatten) elem] }.put o.dst (.slice st.hp.length (.lit n) (.lit n)))
        else .fail "makeSlice size"
      | _, _, _ => .fail "makeSlice zero"
    | some (.slice elem), .int _ e, .int _ e' =>
      match P.underlying elem, P.info? elem with
      | some (.int k), some i =>
        match i.zero with
        | some (.int k' 0) =>
          if e.beq e' && decide (k = k') && decide (i.size = 1) && decide (i.bytes ≤ 8) then
            needs (leE (.lit 0) e ++ leE e (.lit 1000000)) (.ext (.repl e (.lit 0)) (K ({ st with hp := st.hp ++ [HE.row k elem st.ne], ne := st.ne + 1 }.put o.dst (.slice st.hp.length e e))))
          else .fail "makeSlice row"
        | _ => .fail "makeSlice zero"
      | _, _ => .fail "makeSlice elem"
    | _, _, _ => .fail "makeSlice type"
  | .call c =>
    match c.callee with
    | .value f =>
      match ρ f with
      | .func (.func g) first captured => inl g (first ++ c.args.toList.map ρ ++ captured) st fun v st' => K (st'.put o.dst v)
      | _ => .fail "call of what"
    | .builtin .append =>
      match c.args.toList.map ρ, c.argTypes.toList with
      | [.slice n1 (.lit 0) (.lit 0), .slice n2 e _], [t, t2] =>
        if t2 = t then
          match P.underlying t, st.hp[n1]?, st.hp[n2]? with
          | some (.slice elem), some (.cells _ _), some (.row k _ i) =>
            match P.underlying elem, P.info? elem with
            | some (.int k'), some inf =>
              match inf.zero with
              | some (.int k'' 0) =>
                if decide (k' = k) && decide (k'' = k) && decide (inf.size = 1) && decide (inf.bytes ≤ 8) then
                  needs (leE (.lit 0) e ++ leE e (.len i) ++ leE e (.lit 1000000)) (.br (.cmp .eql e (.lit 0)) (K (st.put o.dst (.slice n1 (.lit 0) (.lit 0))))
                    (.grow i e (K ({ st with hp := st.hp ++ [HE.row k elem st.ne], ne := st.ne + 2 }.put o.dst (.slice st.hp.length e (.var (st.ne + 1)))))))
                else .fail "append kind"
              | _ => .fail "append zero"
            | _, _ => .fail "append elem"
          | _, _, _ => .fail "append blocks"
        else .fail "append types"
      | _, _ => .fail "append what"
    | _ => .fail "call builtin"
  | _ => .fail "operation"

/-- one operation, whichever -/
def stepO (X : Cx U) (inl : FuncId → List SV → St → (SV → St → Tree) → Tree) (o : Oper) (st : St) (K : St → Tree) : Tree :=
  match evalP X.P st.hp st.tm o with
  | some (ns, v) => needs ns ((st.put o.dst v).force K)
  | none => execE X inl o st fun st => st.force K

/-- the slot on which an operation wants to be parted, and the truth to part on -/
def splitOf (ops : Array Oper) (tm : Tm) (o : Oper) : Option (Tmp × Bx) :=
  match o.guard with
  | some (j, _) =>
    match (ops[j]?).bind (·.dst) with
    | some d =>
      match tm.getD d .junk with
      | .bool (.lit _) =>
        match o.op with
        | .pick (.tmp c) _ _ => match tm.getD c .junk with | .bool (.lit _) => none | .bool b => some (c, b) | _ => none
        | _ => none
      | .bool b => some (d, b)
      | _ => none
    | none => none
  | none =>
    match o.op with
    | .pick (.tmp c) _ _ => match tm.getD c .junk with | .bool (.lit _) => none | .bool b => some (c, b) | _ => none
    | _ => none
/-- an index into a short row of cells: which slot, which number, of how many -/
def idxOf (P : Program) (hp : List HE) (tm : Tm) (o : Oper) : Option (Tmp × IntKind × Ex × Nat) :=
  match o.op with
  | .indexAddr t x (.tmp c) =>
    match tm.getD c .junk with
    | .int _ (.lit _) => none
    | .int k e =>
      match P.underlying t, evalO tm x with
      | some (.slice _), .slice n (.lit len) _ => match hp[n]? with | some (.cells ..) => some (c, k, e, len.toNat) | _ => none
      | some (.array len _), .ptr n _ => match hp[n]? with | some (.cells ..) => some (c, k, e, len) | _ => none
      | _, _ => none
    | _ => none
  | _ => none
/-- is it wanted? (decided) -/
def wantS (ops : Array Oper) (tm : Tm) (o : Oper) : Option Bool :=
  match o.guard with
  | none => some true
  | some (j, want) =>
    match (ops[j]?).bind (·.dst) with
    | some d =>
      match tm.getD d .junk with
      | .bool (.lit b) => some (b == want)
      | .tuple _ => match Nat.blt d tm.len with | true => some false | false => none
      | _ => none
    | none => none
def setB (st : St) (d : Tmp) (b : Bool) : St := { st with tm := st.tm.set d (.bool (.lit b)) }
/-- what is known of a truth on this way -/
def known : List (Bx × Bool) → Bx → Option Bool
  | [], _ => none
  | (c, v) :: l, b =>
    match c.beq' b with
    | true => some v
    | false =>
      match c, v, b with
      | .cmp .eql e (.lit i), true, .cmp .eql e' (.lit j) => match e.beq e' with | true => some (i == j) | false => known l b
      | _, _, _ => known l b
def brL (st : St) (b : Bx) (K1 K2 : St → Tree) : Tree :=
  match known st.pc b with
  | some true => K1 st
  | some false => K2 st
  | none => .br b (K1 { st with pc := (b, true) :: st.pc }) (K2 { st with pc := (b, false) :: st.pc })
/-- two ways, if it is not known yet which -/
def brK (st : St) (b : Bx) (K1 K2 : St → Tree) : Tree :=
  match b with
  | .not c => brL st c K2 K1
  | b => brL st b K1 K2
/-- an index, number by number -/
def idxTree (c : Tmp) (k : IntKind) (e : Ex) (K : St → Tree) : Nat → Nat → St → Tree
  | _, 0, _ => .need (.lit false) .ok
  | j, m + 1, st => brK st (.cmp .eql e (.lit j)) (fun st => K { st with tm := st.tm.set c (.int k (.lit j)) }) (fun st => idxTree c k e K (j + 1) m st)

/-- what is done at a yield: of which record, with what, then -/
abbrev Rnd := Nat → List SV → St → (SV → St → Tree) → Tree
/-- the yield that an operation calls -/
def yieldOf (tm : Tm) (o : Oper) : Option (Nat × List SV) :=
  match o.op with
  | .call c =>
    match c.callee with
    | .value f => match evalO tm f with | .yld n => some (n, c.args.toList.map (evalO tm)) | _ => none
    | _ => none
  | _ => none
/-- one operation, or a yield -/
def stepY (X : Cx U) (inl : FuncId → List SV → St → (SV → St → Tree) → Tree) (rnd : Rnd) (o : Oper) (st : St) (K : St → Tree) : Tree :=
  match yieldOf st.tm o with
  | some (n, args) => rnd n args st fun v st' => (st'.put o.dst v).force K
  | none => stepO X inl o st K
/-- a region in its own order -/
def runOps (X : Cx U) (inl : FuncId → List SV → St → (SV → St → Tree) → Tree) (rnd : Rnd) (ops : Array Oper) : List Oper → St → (St → Tree) → Tree
  | [], st, K => K st
  | o :: rest, st, K =>
    let go (st : St) : Tree :=
      match wantS ops st.tm o with
      | some true =>
        match splitOf ops st.tm o with
        | some (d, b) => brK st b (fun st => stepY X inl rnd o (setB st d true) fun st => runOps X inl rnd ops rest st K) (fun st => stepY X inl rnd o (setB st d false) fun st => runOps X inl rnd ops rest st K)
        | none =>
          match idxOf X.P st.hp st.tm o with
          | some (c, k, e, len) => idxTree c k e (fun st => stepY X inl rnd o st fun st => runOps X inl rnd ops rest st K) 0 len st
          | none => stepY X inl rnd o st fun st => runOps X inl rnd ops rest st K
      | some false => runOps X inl rnd ops rest (st.put o.dst (.tuple [])) K
      | none => .fail "guard"
    match wantS ops st.tm o, splitOf ops st.tm o with
    | none, some (d, b) => brK st b (fun st => go (setB st d true)) (fun st => go (setB st d false))
    | _, _ => go st

/-- blocks that are kept: their entries must stay as they were -/
def keptOk (hp0 hp : List HE) : List Nat → Option Nat
  | [] => none
  | n :: ns => match hp0[n]?, hp[n]? with | some a, some b => if a.beq b then keptOk hp0 hp ns else some n | _, _ => some n
def onlyKept (kept : List Nat) (hp : List HE) : List HE := hp.zipIdx.map fun (h, n) => match h with | .abs i => .abs i | h => if kept.contains n then h else .gone
def stays : HE → Bool
  | .cells .. | .row .. | .ro .. => true
  | _ => false

/-- may it be taken first? -/
def takeable (X : Cx U) (kept : List Nat) (ops : Array Oper) (listed : Array Bool) (st : St) (i : Nat) : Bool :=
  (Region.free .any ops (Array.replicate ops.size false) i || Region.free .any ops listed i) &&
  match ops[i]? with
  | some o =>
    match wantS ops st.tm o with
    | some true => (splitOf ops st.tm o).isSome || (idxOf X.P (onlyKept kept st.hp) st.tm o).isSome || (evalP X.P (onlyKept kept st.hp) st.tm o).isSome
    | some false => true
    | none => (splitOf ops st.tm o).isSome
  | none => false

def readyB (ops : Array Oper) (listed : Array Bool) (i : Nat) : Bool :=
  !listed.getD i true && ((ops[i]?).map (·.after.all fun e => !Region.binds .any e || listed.getD e.on false)).getD false
def delN (i : Nat) : List Nat → List Nat
  | [] => []
  | j :: l => if j == i then l else j :: delN i l
/-- a region in whatever order -/
def runDraw (X : Cx U) (inl : FuncId → List SV → St → (SV → St → Tree) → Tree) (ops : Array Oper) (tag : Nat) (kept : List Nat) (hp0 : List HE) : Nat → Nat → List Nat → Array Bool → St → (St → Tree) → Tree
  | 0, _, _, _, _, _ => .fail "draw fuel"
  | n + 1, m, pend, listed, st, K =>
    match pend.find? (fun i => readyB ops listed i && takeable X kept ops listed st i) with
    | some i =>
      match m with
      | 0 => .fail "draw more"
      | m' + 1 =>
        match ops[i]? with
        | some o =>
          match wantS ops st.tm o with
          | some false => fArr (listed.setIfInBounds i true) fun listed => runDraw X inl ops tag kept hp0 n m' (delN i pend) listed (st.put o.dst (.tuple [])) K
          | _ =>
            match splitOf ops st.tm o with
            | some (d, b) => brK st b (fun st => runDraw X inl ops tag kept hp0 n m pend listed (setB st d true) K) (fun st => runDraw X inl ops tag kept hp0 n m pend listed (setB st d false) K)
            | none =>
              match idxOf X.P (onlyKept kept st.hp) st.tm o with
              | some (c, k, e, len) => idxTree c k e (fun st => runDraw X inl ops tag kept hp0 n m pend listed st K) 0 len st
              | none =>
                match evalP X.P (onlyKept kept st.hp) st.tm o with
                | some (ns, v) => needs ns (fArr (listed.setIfInBounds i true) fun listed => runDraw X inl ops tag kept hp0 n m' (delN i pend) listed (st.put o.dst v) K)
                | none => .fail "draw take"
        | none => .fail "draw index"
    | none =>
      let rs := Region.ready .any ops listed
      match rs with
      | [] => K st
      | _ =>
        match m with
        | 0 => .fail "draw more"
        | m' + 1 =>
          rs.foldr (fun i acc => .and
            (match ops[i]? with
             | some o =>
               match wantS ops st.tm o with
               | some true =>
                 stepO X inl o st fun st' =>
                   match keptOk hp0 st'.hp kept with
                   | none => fArr (listed.setIfInBounds i true) fun listed => runDraw X inl ops tag kept hp0 n m' (delN i pend) listed st' K
                   | some x => .viol (tag * 100 + x)
               | some false => fArr (listed.setIfInBounds i true) fun listed => runDraw X inl ops tag kept hp0 n m' (delN i pend) listed (st.put o.dst (.tuple [])) K
               | none => .fail "draw guard"
             | none => .fail "draw index") acc) .ok

def keptOf (out : List Nat) (hp : List HE) : List Nat := (List.range hp.length).filter fun n => !out.contains n && match hp[n]? with | some h => stays h | none => false
def noDefer (ops : Array Oper) : Bool := ops.all fun o => match o.op with | .defer _ => false | _ => true

/-! ### code -/
def firstRegion : Code → Nat
  | .region id _ _ => id
  | .seq a b => match a with | .skip | .label _ => firstRegion b | _ => firstRegion a
  | .block _ c => firstRegion c
  | .loop c => firstRegion c
  | .scope c => firstRegion c
  | .cond _ a _ => firstRegion a
  | _ => 0
/-- slots that code writes -/
def writes : Code → List Tmp
  | .region _ ops _ => ops.toList.filterMap (·.dst)
  | .seq a b => writes a ++ writes b
  | .cond _ a b => writes a ++ writes b
  | .block _ c => writes c
  | .loop c => writes c
  | .scope c => writes c
  | .rangeFunc _ ps a b => ps.toList ++ writes a ++ writes b
  | _ => []

def findLoop (f rid : Nat) : Nat → List (LoopS U) → Option (Nat × LoopS U)
  | _, [] => none
  | i, s :: ss => if s.fn = f ∧ s.rid = rid then some (i, s) else findLoop f rid (i + 1) ss
def assoc {α : Type} (n : Nat) : List (Nat × α) → Option α
  | [] => none
  | (m, a) :: l => if m = n then some a else assoc n l

def setAll (hp : List HE) : List (Nat × HE) → List HE
  | [] => hp
  | (n, h) :: l => setAll (if n < hp.length then hp.set n h else hp ++ [h]) l
/-- the form of a loop's head -/
def headOf (s : LoopS U) (ws : List Tmp) (st : St) : St :=
  { tm := s.tm.foldl (fun t (i, v) => t.set i v) (ws.foldl (fun t i => t.set i .junk) st.tm)
    stk := st.stk, hp := setAll st.hp s.hp, ne := st.ne + s.nv }
def chkTr (β : List Bnd) (σ : List Nat) : Tr → Tr → Bool
  | .leaf, _ => true
  | .node t l r, .node a l' r' =>
    (match t with
     | .junk => true
     | t => match t.subst β σ with | some t' => t'.beq a && t'.sure | none => false) && chkTr β σ l l' && chkTr β σ r r'
  | _, .leaf => false
def chkMk (σ : List Nat) : List Nat → List Nat → Bool
  | [], [] => true
  | n :: ns, m :: ms => σ[n]? == some m && chkMk σ ns ms
  | _, _ => false
def chkTm (β : List Bnd) (σ : List Nat) (t a : Tm) : Bool := t.len == a.len && chkTr β σ t.t a.t && chkMk σ t.mks a.mks
def chkStk (β : List Bnd) (σ : List Nat) : List Tm → List Tm → Bool
  | [], [] => true
  | t :: ts, a :: as => chkTm β σ t a && chkStk β σ ts as
  | _, _ => false
def unTr (m : MS) : Tr → Tr → Option MS
  | .leaf, _ => some m
  | .node t l r, .node a l' r' => (unS' m t a).bind fun m => (unTr m l l').bind fun m => unTr m r r'
  | _, .leaf => some m
/-- a state fitted to a loop's head: what the head's numbers are -/
def isVars : Nat → Nat → List Bnd → Bool
  | _, 0, _ => true
  | i, n + 1, .var j :: l => i == j && isVars (i + 1) n l
  | _, _, _ => false
def fit (reb : List Nat) (h0 ne0 nh0 : Nat) (hd st : St) : Option (List Bnd) :=
  let m0 : MS := ⟨(List.range hd.ne).map fun i => if i < ne0 then some (.var i) else none, (List.range hd.hp.length).map fun n => if n < nh0 && !reb.contains n then some n else none⟩
  match unTr m0 hd.tm.t st.tm.t with
  | none => none
  | some m =>
    match unHp st.hp 0 hd.hp m with
    | none => none
    | some m =>
      match allSome m.β, allSome m.σ with
      | some β, some σ =>
        if hd.pc.isEmpty && chkTm β σ hd.tm st.tm && chkStk β σ hd.stk st.stk && chkHp β σ st.hp 0 hd.hp && nodup σ && decide (β.length = hd.ne) && decide (σ.length = hd.hp.length) && isVars 0 ne0 β && σ.take h0 == List.range h0 then some (β.drop ne0) else none
      | _, _ => none
/-- nil pointers in cells whose form asks a handle -/
def nilPos (reb : List (Nat × Nat)) (n : Nat) : Nat → List SV → List SV → List (Nat × Nat × Nat)
  | j, .hnd m :: ts, .nilp :: as => match assoc m reb with | some t => (n, j, t) :: nilPos reb n (j + 1) ts as | none => nilPos reb n (j + 1) ts as
  | j, _ :: ts, _ :: as => nilPos reb n (j + 1) ts as
  | _, _, _ => []
def nilAll (reb : List (Nat × Nat)) : Nat → List HE → List HE → List (Nat × Nat × Nat)
  | n, .cells ts _ :: hd, .cells as _ :: hp => nilPos reb n 0 ts as ++ nilAll reb (n + 1) hd hp
  | n, _ :: hd, _ :: hp => nilAll reb (n + 1) hd hp
  | _, _, _ => []
def nilFix (X : Cx U) : List (Nat × Nat × Nat) → St → (St → Tree) → Tree
  | [], st, K => K st
  | (n, j, t) :: l, st, K =>
    match X.objs[t]?, st.hp[n]? with
    | some T, some (.cells vs ty) =>
      match T.isNil, T.nv, vs[j]? with
      | true, 0, some .nilp => .ext (.mk t []) (nilFix X l { st with hp := st.hp.set n (.cells (vs.set j (.hnd st.hp.length)) ty) ++ [HE.abs st.ne], ne := st.ne + 1 } K)
      | _, _, _ => .fail "nilFix"
    | _, _ => .fail "nilFix"

def iterC (body : St → (SExit → St → Tree) → Tree) : Nat → St → (SExit → St → Tree) → Tree
  | 0, _, _ => .fail "loop rounds"
  | n + 1, st, K => body st fun ex st' => match ex with | .normal => iterC body n st' K | e => K e st'

def unMark (hp : List HE) : List Nat → Option (List HE)
  | [] => some hp
  | n :: ns => match hp[n]? with | some (.sys _ .dfr) => unMark (hp.set n .gone) ns | _ => none
def exitOf : RecSt → Option SExit
  | .ready => some .normal
  | .ret => some .ret
  | .exit i => some (.exit i)
  | _ => none
/-- a round has ended: its block, what is handed back -/
def stOf : SExit → RecSt
  | .normal => .ready
  | .ret => .ret
  | .exit i => .exit i
def isNorm : SExit → Bool
  | .normal => true
  | _ => false
def setTms (tm : Tm) : List Tmp → List SV → Tm
  | t :: ts, v :: vs => setTms (tm.set t v) ts vs
  | _, _ => tm
/-- one round of a loop over a function: the slots are those of the loop's beginning -/
def roundS (tm0 : Tm) (i0 n : Nat) (ps : List Tmp) (asg body : St → (SExit → St → Tree) → Tree) (args : List SV) (st : St) (K : SV → St → Tree) : Tree :=
  match st.hp[n]? with
  | some (.sys i .ready) =>
    if i = i0 ∧ args.length = ps.length then
      asg { st with tm := { setTms tm0 ps args with mks := [] }, stk := st.tm :: st.stk } fun ex0 st0 =>
        match ex0, st0.hp[n]? with
        | .normal, some (.sys i1 .ready) =>
          if i1 = i0 then
            body { st0 with hp := st0.hp.set n (.sys i0 .busy) } fun ex st' =>
              match st'.stk, st'.hp[n]? with
              | tm1 :: stk1, some (.sys j .busy) => if j = i0 then K (.bool (.lit (isNorm ex))) { st' with tm := tm1, stk := stk1, hp := st'.hp.set n (.sys i0 (stOf ex)) } else .fail "round block"
              | _, _ => .fail "round end"
          else .fail "round begin"
        | _, _ => .fail "round assign"
    else .fail "round args"
  | _ => .fail "round state"

def runCode (X : Cx U) (inlR : Rnd → FuncId → List SV → St → (SV → St → Tree) → Tree) (rnd : Rnd) (f : FuncId) (h0 : Nat) (rd : Bool) : Code → St → (SExit → St → Tree) → Tree
  | .skip, st, K => K .normal st
  | .label _, st, K => K .normal st
  | .region _ ops false, st, K => runOps X (inlR rnd) rnd ops ops.toList st (K .normal)
  | .region id ops true, st, K =>
    if Region.noSelect ops && noDefer ops then
      runDraw X (inlR rnd) ops (f * 1000 + id) (keptOf (X.out f id) st.hp) st.hp (8 * ops.size + 8) ops.size (List.range ops.size) (Array.replicate ops.size false) st (K .normal)
    else .fail "select"
  | .seq a b, st, K => runCode X inlR rnd f h0 rd a st fun ex st' => match ex with | .normal => runCode X inlR rnd f h0 rd b st' K | e => K e st'
  | .cond c a b, st, K =>
    match evalO st.tm c with
    | .bool (.lit true) => runCode X inlR rnd f h0 rd a st K
    | .bool (.lit false) => runCode X inlR rnd f h0 rd b st K
    | .bool x =>
      match c with
      | .tmp d => brK st x (fun st => runCode X inlR rnd f h0 rd a (setB st d true) K) (fun st => runCode X inlR rnd f h0 rd b (setB st d false) K)
      | _ => .fail "cond"
    | _ => .fail "cond no truth"
  | .block id c, st, K => runCode X inlR rnd f h0 rd c st fun ex st' => match ex with | .exit i => if i = id then K .normal st' else K (.exit i) st' | e => K e st'
  | .loop c, st, K =>
    match findLoop f (firstRegion c) 0 X.loops with
    | none => iterC (runCode X inlR rnd f h0 rd c) 70 st K
    | some (id, s) =>
      (headOf s (writes c) st).force fun hd =>
      let ne0 := st.ne
      let reb := s.reb.map (·.1)
      nilFix X (nilAll s.reb 0 hd.hp st.hp) st fun st1 =>
        -- the numbers of the head stand behind those that were there ahead of nilFix
        if !(reb.all (h0 ≤ ·)) || decide (st.hp.length < h0) then .fail "loop names" else
        match fit reb h0 ne0 st.hp.length hd st1 with
        | some β => .loop id ne0 β (runCode X inlR rnd f h0 rd c hd fun ex st' =>
            match ex with
            | .normal => nilFix X (nilAll s.reb 0 hd.hp st'.hp) st' fun st2 => match fit reb h0 ne0 st.hp.length hd st2 with | some β' => .back id ne0 β' | none => .fail "loop back"
            | e => K e st')
        | none => iterC (runCode X inlR rnd f h0 rd c) 2 st1 K
  | .exit id, st, K => K (.exit id) st
  | .ret, st, K => K .ret st
  | .scope c, st, K => runCode X inlR rnd f h0 rd c st K
  | .rangeFunc g ps asg body, st, K =>
    if rd then .fail "range in a round" else
    match evalO st.tm g with
    | .func (.func it) first captured =>
      let m := st.hp.length
      let n := m + 1
      let tm0 := st.tm
      -- the mark's block, the record
      .rng (inlR (fun n' args st' K' => if n' = n then roundS tm0 st.ne n ps.toList (runCode X inlR rnd f st'.hp.length true asg) (runCode X inlR rnd f st'.hp.length true body) args st' K' else rnd n' args st' K')
        it (first ++ [.yld n] ++ captured) { st with tm := { st.tm with mks := m :: st.tm.mks }, hp := st.hp ++ [.sys st.ne .dfr, .sys st.ne .ready], ne := st.ne + 1 } fun _ st' =>
          match st'.hp[n]? with
          | some (.sys i j) => if i = st.ne then (match exitOf j with | some ex => K ex { st' with hp := st'.hp.set n .gone } | none => .fail "range state") else .fail "range block"
          | _ => .fail "range end")
    | _ => .fail "range over what"
  | _, _, _ => .fail "code"

def resS (P : Program) (hp : List HE) (tm : Tm) : List ResultVar → Option (List SV)
  | [] => some []
  | .tmp t :: l => if (tm.getD t .junk).sure then (resS P hp tm l).map (tm.getD t .junk :: ·) else none
  | .cell a t :: l =>
    match loadS P hp t (tm.getD a .junk) with
    | some ([], v) => if v.sure then (resS P hp tm l).map (v :: ·) else none
    | _ => none
def resV (l : List SV) : SV := match l with | [v] => v | l => .tuple l

/-- a function's body -/
def runFn (X : Cx U) : Nat → Rnd → FuncId → List SV → St → (SV → St → Tree) → Tree
  | 0, _, _, _, _, _ => .fail "calls fuel"
  | n + 1, rnd, f, args, st, K =>
    match X.P.funcs[f]? with
    | some fn =>
      match fn.body with
      | some c =>
        if fn.name == "runtime.NumGoroutine" then .fail "call" else
        let inlR : Rnd → FuncId → List SV → St → (SV → St → Tree) → Tree := fun rnd g as st K => toRows X.P (wantRows X.cts g as) st fun st =>
          match tryCtrs g as st K 0 X.cts with
          | some t => t
          | none => runFn X n rnd g as st K
        St.force { st with tm := Tm.ofList args fn.ntmps, stk := st.tm :: st.stk } fun st1 => runCode X inlR rnd f st.hp.length false c st1 fun ex st' =>
          match ex, st'.stk with
          | .exit _, _ => .fail "exit"
          | _, tm0 :: stk0 =>
            match unMark st'.hp st'.tm.mks with
            | some hp1 =>
              match resS X.P hp1 st'.tm fn.results.toList with
              | some l => K (resV l) { st' with tm := tm0, stk := stk0, hp := hp1 }
              | none => .fail "results"
            | none => .fail "marks"
          | _, [] => .fail "stack"
      | none => .fail "call without a body"
    | none => .fail "call no function"
def noRnd : Rnd := fun _ _ _ _ => .fail "yield"

/-! ### contracts proved -/
/-- an object is opened: in each of its forms -/
def openAll (X : Cx U) : List (Nat × List Nat) → St → (St → Tree) → Tree
  | [], st, K => K st
  | (n, ts) :: rest, st, K =>
    match st.hp[n]? with
    | some (.abs i) =>
      ts.foldr (fun t acc => .and
        (match X.objs[t]? with
         | some T =>
           if T.isNil then
             .opn i t (openAll X rest (let s := st.mapN (swapH n .nilp); { s with ne := s.ne + T.nv }) K)
           else
             let β := (List.range T.nv).map fun j => .var (st.ne + j)
             let σ := n :: (List.range (T.hp.length - 1)).map (st.hp.length + ·)
             match substNew β σ T.hp with
             | some (h :: hs) => .opn i t (openAll X rest (let s := st.mapN (swapH n (.ptr n 0)); { s with hp := s.hp.set n h ++ hs, ne := s.ne + T.nv }) K)
             | _ => .fail "open"
         | none => .fail "open form") acc) (.nomore i ts)
    | _ => .fail "open what"
/-- an object is shut: the first form that fits -/
def foldTry (X : Cx U) (n : Nat) (st : St) : List Nat → Option (Nat × List Bnd × St)
  | [] => none
  | t :: ts =>
    match X.objs[t]? with
    | some T =>
      if T.isNil then foldTry X n st ts else
      match unHp st.hp 0 T.hp ⟨List.replicate T.nv none, (List.replicate T.hp.length none).set 0 (some n)⟩ with
      | none => foldTry X n st ts
      | some m =>
        match allSome m.β, allSome m.σ with
        | some β, some σ =>
          if chkHp β σ st.hp 0 T.hp && nodup σ && decide (β.length = T.nv) && decide (σ.length = T.hp.length) && σ.head? == some n then
            some (t, β, (let s : St := { st with hp := (σ.foldl (fun hp a => hp.set a .gone) st.hp).set n (.abs st.ne), ne := st.ne + 1 }; s.mapN (swapP n)))
          else foldTry X n st ts
        | _, _ => foldTry X n st ts
    | none => none
/-- what is given back: nil pointers become handles, where the form asks them -/
def nilRet (X : Cx U) (folds : List (Nat × List Nat)) (ret v : SV) (st : St) (K : SV → St → Tree) : Tree :=
  match ret, v with
  | .hnd j, .nilp =>
    match (assoc j folds).bind fun ts => ts.find? fun t => match X.objs[t]? with | some T => T.isNil && T.nv == 0 | none => false with
    | some t => .ext (.mk t []) (K (.hnd st.hp.length) { st with hp := st.hp ++ [HE.abs st.ne], ne := st.ne + 1 })
    | none => .fail "nilRet"
  | .tuple [.hnd j, _], .tuple [.nilp, b] =>
    match (assoc j folds).bind fun ts => ts.find? fun t => match X.objs[t]? with | some T => T.isNil && T.nv == 0 | none => false with
    | some t => .ext (.mk t []) (K (.tuple [.hnd st.hp.length, b]) { st with hp := st.hp ++ [HE.abs st.ne], ne := st.ne + 1 })
    | none => .fail "nilRet"
  | _, _ => K v st
def foldAll (X : Cx U) (σ : List (Option Nat)) : List (Nat × List Nat) → SV → St → (SV → St → Tree) → Tree
  | [], v, st, K => K v st
  | (j, ts) :: rest, v, st, K =>
    match σ[j]? with
    | some (some n) =>
      match st.hp[n]? with
      | some (.abs _) => foldAll X σ rest v st K
      | _ =>
        match foldTry X n st ts with
        | some (t, β, st') => .ext (.mk t β) (foldAll X σ rest (v.mapN (swapP n)) st' K)
        | none => .fail "fold"
    | _ => .fail "fold name"
def finish (X : Cx U) (c : Ctr U) (folds : List (Nat × List Nat)) (v : SV) (st : St) : Tree :=
  nilRet X folds c.ret v st fun v st =>
    let m0 : MS := ⟨(List.range (c.nin + c.nout)).map fun i => if i < c.nin then some (.var i) else none, (List.range c.post.length).map fun n => if n < c.heap.length then some n else none⟩
    match unS' m0 c.ret v with
    | none => .fail "result form"
    | some m =>
      foldAll X m.σ folds v st fun v st =>
        match unS' m0 c.ret v with
        | none => .fail "result form 2"
        | some m =>
          match unHp st.hp 0 c.post m with
          | none => .fail "result blocks"
          | some m =>
            match allSome m.β, allSome m.σ with
            | some β, some σ =>
              if chkL β σ [c.ret] [v] && chkHp β σ st.hp 0 c.post && nodup σ && decide (β.length = c.nin + c.nout) && decide (σ.length = c.post.length) && isVars 0 c.nin β && (σ.take c.heap.length == List.range c.heap.length) then .ret (β.drop c.nin)
              else .fail "result check"
            | _, _ => .fail "result unbound"
def runCtr (X : Cx U) (fuel : Nat) (c : Ctr U) (opens folds : List (Nat × List Nat)) : Tree :=
  openAll X opens { tm := Tm.ofList c.args c.args.length, stk := [], hp := c.heap, ne := c.nin } fun st =>
    runFn X fuel noRnd c.fn st.tm.list { st with tm := Tm.ofList [] 0 } fun v st' => finish X c folds v st'
end
end Go.Proofs.Ytjohihkbampbgaa
