/- The symbolic executor: what an operation, a region, a function does to symbolic blocks. No program is named here. -/
import Derived.Test.YtjohihkbampbgaaSa
namespace Go.Proofs.Ytjohihkbampbgaa
set_option linter.unusedVariables false
set_option linter.unusedSimpArgs false
set_option linter.unusedSectionVars false
open Go

def St.put (st : St) (d : Option Tmp) (v : SV) : St :=
  match d with
  | some d => { st with tm := st.tm.set d v }
  | none => st

def ofAtom : Value → SV
  | .int k n => .int k (.lit n)
  | .bool b => .bool (.lit b)
  | .pointer none => .nilp
  | .slice none 0 0 => .nils
  | .nilFunc => .nilf
  | _ => .junk
def evalO (tm : Tm) : Operand → SV
  | .tmp t => tm.getD t .junk
  | .const v => ofAtom v
  | .func f => .func (.func f) [] []
  | .global _ => .junk

def isAggT (P : Program) (t : TypeId) : Bool :=
  match P.underlying t with
  | some (.struct _) | some (.array _ _) => true
  | _ => false
def plainT (P : Program) (t : TypeId) : Bool :=
  match P.underlying t with
  | some (.struct _) | some (.array _ _) | none => false
  | _ => true
def sizeT (P : Program) (t : TypeId) : Option Nat := (P.info? t).map (·.size)
def zeroT (P : Program) (t : TypeId) : Option (List SV) :=
  match (P.info? t).bind (·.zero) with
  | some z => let l := z.cells.toList.map ofAtom; if SV.sureL l then some l else none
  | none => none
def splice (cells : List SV) (off : Nat) (vs : List SV) : Option (List SV) :=
  if off + vs.length ≤ cells.length then some (cells.take off ++ vs ++ cells.drop (off + vs.length)) else none

def leE (a b : Ex) : List Bx := match mkCmp .leq a b with | .lit true => [] | c => [c]
def ltE (a b : Ex) : List Bx := match mkCmp .lss a b with | .lit true => [] | c => [c]

/-- fields of a row that is read only -/
def roFields (ks : List (Option IntKind)) (i : Nat) (e : Ex) : Nat → Nat → Option (List SV)
  | _, 0 => some []
  | c, n + 1 =>
    match ks[c]? with
    | some (some k) => (roFields ks i e (c + 1) n).map (.int k (.fld i e c) :: ·)
    | some none => (roFields ks i e (c + 1) n).map (.bool (.fld i e c) :: ·)
    | none => none

def loadX (P : Program) (hp : List HE) (t : TypeId) (n : Nat) (e : Ex) (sz off : Nat) : Option (List Bx × SV) :=
  match hp[n]? with
  | some (.row k _ i) => if plainT P t && sz == 1 && off == 0 then some (leE (.lit 0) e ++ ltE e (.len i), .int k (.nth i e)) else none
  | some (.ro ks i) =>
    if sz != ks.length then none
    else if isAggT P t then
      match sizeT P t with
      | some m => if off + m ≤ sz then (roFields ks i e off m).map fun l => (leE (.lit 0) e ++ ltE e (.nrow i), .agg l) else none
      | none => none
    else if plainT P t && decide (off < sz) then
      match roFields ks i e off 1 with
      | some [v] => some (leE (.lit 0) e ++ ltE e (.nrow i), v)
      | _ => none
    else none
  | _ => none
def loadS (P : Program) (hp : List HE) (t : TypeId) (a : SV) : Option (List Bx × SV) :=
  match a with
  | .ptr n off =>
    match hp[n]? with
    | some (.cells vs _) =>
      if isAggT P t then
        match sizeT P t with
        | some k => if off + k ≤ vs.length then some ([], .agg ((vs.drop off).take k)) else none
        | none => none
      else if plainT P t then (vs[off]?).map fun v => ([], v) else none
    | some (.row k _ i) =>
      if isAggT P t then
        match off, sizeT P t with
        | 0, some (m + 1) => some ((match mkCmp .eql (.len i) (.lit (m + 1 : Nat)) with | .lit true => [] | c => [c]), .rowv k i)
        | _, _ => none
      else loadX P hp t n (.lit off) 1 0
    | some (.ro ks _) => if ks.length = 0 then none else loadX P hp t n (.lit (off / ks.length : Nat)) ks.length (off % ks.length)
    | _ => none
  | .ptrx n e sz off => loadX P hp t n e sz off
  | _ => none

def isMethod : Fn → Bool
  | .method _ => true
  | _ => false

def eqlAtom (hp : List HE) (x y : SV) : Option Bx :=
  match x, y with
  | .int k a, .int k' b => if k = k' then some (mkCmp .eql a b) else none
  | .bool a, .bool b => some (mkBeq a b)
  | .nilp, .nilp => some (.lit true)
  | .nilp, .ptr .. | .ptr .., .nilp | .nilp, .ptrx .. | .ptrx .., .nilp => some (.lit false)
  | .hnd n, .nilp | .nilp, .hnd n => match hp[n]? with | some (.abs i) => some (.isnil i) | _ => none
  | .nils, .nils => some (.lit true)
  | .nils, .slice n _ _ | .slice n _ _, .nils => match hp[n]? with | some (.cells ..) => some (.lit false) | _ => none
  | .nilf, .nilf => some (.lit true)
  | .nilf, .func .. | .func .., .nilf => some (.lit false)
  | _, _ => none
def kindOk (P : Program) (t : TypeId) (x : SV) : Bool :=
  match P.underlying t, x with
  | some (.int _), .int .. => true
  | some .bool, .bool _ => true
  | some (.pointer _), .nilp | some (.pointer _), .ptr .. | some (.pointer _), .ptrx .. | some (.pointer _), .hnd _ => true
  | some (.slice _), .nils | some (.slice _), .slice .. => true
  | some (.func _ _ _), .nilf | some (.func _ _ _), .func .. => true
  | _, _ => false
def eqlFields (P : Program) (hp : List HE) (xs ys : List SV) : List Field → Option Bx
  | [] => some (.lit true)
  | f :: fs =>
    if f.name == "_" || !plainT P f.type then none else
    match xs[f.offset]?, ys[f.offset]? with
    | some x, some y =>
      if kindOk P f.type x && kindOk P f.type y then
        match eqlAtom hp x y, eqlFields P hp xs ys fs with
        | some a, some b => some (mkAnd a b)
        | _, _ => none
      else none
    | _, _ => none
def eqlS (P : Program) (hp : List HE) (t : TypeId) (x y : SV) : Option Bx :=
  match x, y with
  | .agg xs, .agg ys =>
    match P.underlying t with
    | some (.struct fs) => if P.eqGuardType P.depth t || P.stoodInHeld t then none else eqlFields P hp xs ys fs.toList
    | _ => none
  | .int .., .int .. => eqlAtom hp x y
  | _, _ => if kindOk P t x && kindOk P t y then eqlAtom hp x y else none

def binS (P : Program) (hp : List HE) (op : BinOp) (t : TypeId) (x y : SV) : Option (List Bx × SV) :=
  match op with
  | .eql => (eqlS P hp t x y).map fun b => ([], .bool b)
  | .neq => (eqlS P hp t x y).map fun b => ([], .bool (mkNot b))
  | .shl | .shr =>
    match x, y with
    | .int k a, .int _ b => some (leE (.lit 0) b, .int k (mkBin op k a b))
    | _, _ => none
  | .lss | .leq | .gtr | .geq =>
    match x, y with
    | .int k a, .int k' b => if k = k' then some ([], .bool (mkCmp op a b)) else none
    | _, _ => none
  | .quo | .rem =>
    match x, y with
    | .int k a, .int k' b => if k = k' then some ((match mkCmp .neq b (.lit 0) with | .lit true => [] | c => [c]), .int k (mkBin op k a b)) else none
    | _, _ => none
  | _ =>
    match x, y with
    | .int k a, .int k' b => if k = k' then some ([], .int k (mkBin op k a b)) else none
    | _, _ => none

def unS (op : UnOp) (x : SV) : Option SV :=
  match op, x with
  | .not, .bool b => some (.bool (mkNot b))
  | .neg, .int k n => some (.int k (mkBin .sub k (.lit 0) n))
  | .xor, .int k n => some (.int k (mkBin .xor k (.lit (if k.signed then -1 else k.max)) n))
  | _, _ => none

def indexAddrS (P : Program) (hp : List HE) (t : TypeId) (x i : SV) : Option (List Bx × SV) :=
  match i with
  | .int _ e =>
    match P.underlying t, x with
    | some (.array len elem), .ptr n off =>
      match hp[n]? with
      | some (.cells ..) =>
        match sizeT P elem, e with
        | some sz, .lit j => if 0 ≤ j ∧ j < len then some ([], .ptr n (off + j.toNat * sz)) else none
        | _, _ => none
      | some (.row ..) => if off = 0 ∧ sizeT P elem = some 1 then some (leE (.lit 0) e ++ ltE e (.lit len), .ptrx n e 1 0) else none
      | _ => none
    | some (.slice elem), .slice n len _ =>
      match hp[n]? with
      | some (.cells ..) =>
        match sizeT P elem, e with
        | some sz, .lit j => if 0 ≤ j then some (ltE (.lit j) len, .ptr n (j.toNat * sz)) else none
        | _, _ => none
      | some (.row _ _ j) => if sizeT P elem = some 1 then some (leE (.lit 0) e ++ ltE e len ++ ltE e (.len j), .ptrx n e 1 0) else none
      | some (.ro ks j) => if sizeT P elem = some ks.length then some (leE (.lit 0) e ++ ltE e len ++ ltE e (.nrow j), .ptrx n e ks.length 0) else none
      | _ => none
    | _, _ => none
  | _ => none

def partS (P : Program) (t : TypeId) (l : List SV) (off : Nat) : Option SV :=
  if isAggT P t then
    match sizeT P t with
    | some k => if off + k ≤ l.length then some (.agg ((l.drop off).take k)) else none
    | none => none
  else if plainT P t then l[off]? else none

def cellOk (hp : List HE) (v : SV) : Bool :=
  match v with
  | .hnd n => match hp[n]? with | some (.abs _) => true | _ => false
  | v => v.one
def fillS (hp : List HE) (place : Nat → Option (Nat × Nat)) (cells : List SV) : List (Nat × SV) → Option (List SV)
  | [] => some cells
  | (i, v) :: rest =>
    match place i with
    | none => none
    | some (off, size) =>
      if v.flat.length ≠ size || !v.flat.all (cellOk hp) then none else
      match splice cells off v.flat with
      | some c => fillS hp place c rest
      | none => none
def placeT (P : Program) (t : TypeId) : Option (Nat → Option (Nat × Nat)) :=
  match P.underlying t with
  | some (.struct fields) => if fields.toList.all (fun f => (sizeT P f.type).isSome) then some fun i => match fields[i]? with | some f => (sizeT P f.type).map fun s => (f.offset, s) | none => none else none
  | some (.array _ elem) => (sizeT P elem).map fun s => fun i => some (i * s, s)
  | _ => none

/-- a block that is there for sure, and what must be so for that -/
def baseS (hp : List HE) (n : Nat) : Option (List Bx) :=
  match hp[n]? with
  | some (.cells ..) => some []
  | some (.row _ _ i) => some (ltE (.lit 0) (.len i))
  | _ => none

/-- what an operation yields that changes nothing: what must be so, and the value -/
def evalP (P : Program) (hp : List HE) (tm : Tm) (o : Oper) : Option (List Bx × SV) :=
  let ρ := evalO tm
  match o.op with
  | .move x | .assign x => some ([], ρ x)
  | .pick c a b =>
    match ρ c with
    | .bool (.lit true) => some ([], ρ a)
    | .bool (.lit false) => some ([], ρ b)
    | _ => none
  | .build t parts =>
    match zeroT P t, placeT P t with
    | some z, some pl => (fillS hp pl z (parts.toList.map fun (i, x) => (i, ρ x))).map fun l => ([], .agg l)
    | _, _ => none
  | .load t a => loadS P hp t (ρ a)
  | .nilCheck x =>
    match ρ x with
    | .ptr n o => some ([], .ptr n o)
    | .ptrx n e s o => some ([], .ptrx n e s o)
    | .func fn a b => if isMethod fn then none else some ([], .func fn a b)
    | .yld n => some ([], .yld n)
    | .hnd n => match hp[n]? with | some (.abs i) => some ([.not (.isnil i)], .hnd n) | _ => none
    | _ => none
  | .binOp op t x y _ => binS P hp op t (ρ x) (ρ y)
  | .unOp op _ x => (unS op (ρ x)).map fun v => ([], v)
  | .convert src dst x =>
    match P.underlying src, P.underlying dst, ρ x with
    | some _, some (.int k), .int _ e => some ([], .int k (mkConv k e))
    | _, _, _ => none
  | .makeFunc fn a b =>
    let a' := a.toList.map ρ; let b' := b.toList.map ρ
    if SV.sureL a' && SV.sureL b' then some ([], .func fn a' b') else none
  | .fieldAddr s x f =>
    match P.underlying s with
    | some (.struct fields) =>
      match fields[f]? with
      | some fd =>
        match sizeT P fd.type with
        | some (_ + 1) =>
          match ρ x with
          | .ptr n o => some ([], .ptr n (o + fd.offset))
          | .ptrx n e s o => some ([], .ptrx n e s (o + fd.offset))
          | _ => none
        | _ => none
      | none => none
    | _ => none
  | .field t x f =>
    match P.underlying t, ρ x with
    | some (.struct fields), .agg l =>
      match fields[f]? with
      | some fd => (partS P fd.type l fd.offset).map fun v => ([], v)
      | none => none
    | _, _ => none
  | .indexAddr t x i => indexAddrS P hp t (ρ x) (ρ i)
  | .index t x i =>
    match P.underlying t, ρ x, ρ i with
    | some (.array len elem), .agg l, .int _ (.lit j) =>
      match sizeT P elem with
      | some s => if 0 ≤ j ∧ j < len then (partS P elem l (j.toNat * s)).map fun v => ([], v) else none
      | none => none
    | _, _, _ => none
  | .extract t i =>
    match ρ t with
    | .tuple l => (l[i]?).map fun v => ([], v)
    | _ => none
  | .slice t x none hi none =>
    match P.underlying t with
    | some (.array N elem) =>
      match sizeT P elem, ρ x, hi with
      | some _, .ptr n 0, none => (baseS hp n).map fun ns => (ns, .slice n (.lit N) (.lit N))
      | some _, .ptr n 0, some h =>
        match ρ h with
        | .int _ e => (baseS hp n).map fun ns => (leE (.lit 0) e ++ leE e (.lit N) ++ ns, .slice n e (.lit N))
        | _ => none
      | _, _, _ => none
    | some (.slice elem) =>
      match sizeT P elem, ρ x, hi with
      | some _, .slice n _ cap, some h =>
        match ρ h with
        | .int _ e => some (leE (.lit 0) e ++ leE e cap, .slice n e cap)
        | _ => none
      | _, _, _ => none
    | _ => none
  | .call { callee := .builtin .len, args, argTypes } =>
    match args.toList.map ρ, argTypes.toList with
    | [.slice _ len _], t :: _ =>
      match P.underlying t with
      | some (.slice _) => some (leE (.lit 0) len, .int .i64 len)
      | _ => none
    | [.nils], t :: _ =>
      match P.underlying t with
      | some (.slice _) => some ([], .int .i64 (.lit 0))
      | _ => none
    | _, _ => none
  | _ => none

/-! ### fitting forms -/

structure MS where
  β : List (Option Bnd)
  σ : List (Option Nat)

def unE (m : MS) (t a : Ex) : Option MS :=
  match t with
  | .var i =>
    match m.β[i]? with
    | some none => some { m with β := m.β.set i (some (.ex a)) }
    | _ => some m
  | _ => some m
def unB (m : MS) (t a : Bx) : Option MS :=
  match t with
  | .var i =>
    match m.β[i]? with
    | some none => some { m with β := m.β.set i (some (.bx a)) }
    | _ => some m
  | _ => some m
def unN (m : MS) (t a : Nat) : Option MS :=
  match m.σ[t]? with
  | some none => some { m with σ := m.σ.set t (some a) }
  | some (some b) => if a = b then some m else none
  | none => none
def unV (m : MS) (t a : Nat) : Option MS :=
  match m.β[t]? with
  | some none => some { m with β := m.β.set t (some (.var a)) }
  | _ => some m

mutual
def unS' (m : MS) : SV → SV → Option MS
  | .int _ e, .int _ e' => unE m e e'
  | .bool b, .bool b' => unB m b b'
  | .ptr n o, .ptr n' o' => if o = o' then unN m n n' else none
  | .hnd n, .ptr n' 0 => unN m n n'
  | .hnd n, .hnd n' => unN m n n'
  | .ptrx n e _ _, .ptrx n' e' _ _ => (unN m n n').bind fun m => unE m e e'
  | .slice n l c, .slice n' l' c' => (unN m n n').bind fun m => (unE m l l').bind fun m => unE m c c'
  | .func fn a b, .func fn' a' b' => if fn = fn' then (unL m a a').bind fun m => unL m b b' else none
  | .agg l, .agg l' => unL m l l'
  | .tuple l, .tuple l' => unL m l l'
  | .nilp, .nilp => some m
  | .nils, .nils => some m
  | .nilf, .nilf => some m
  | .yld n, .yld n' => unN m n n'
  | .junk, _ => some m
  | _, _ => none
def unL (m : MS) : List SV → List SV → Option MS
  | [], [] => some m
  | t :: ts, a :: as => (unS' m t a).bind fun m => unL m ts as
  | _, _ => none
end
def unH (m : MS) (t a : HE) : Option MS :=
  match t, a with
  | .cells vs ty, .cells vs' ty' => if ty = ty' then unL m vs vs' else none
  | .abs i, .abs j => unV m i j
  | .row _ _ i, .row _ _ j => unV m i j
  | .ro _ i, .ro _ j => unV m i j
  | .sys i a, .sys j b => if a = b then unV m i j else none
  | .gone, _ => some m
  | _, _ => none
/-- the blocks of a form, name by name -/
def unHp (hp : List HE) : Nat → List HE → MS → Option MS
  | _, [], m => some m
  | n, t :: ts, m =>
    match m.σ[n]? with
    | some (some a) => match hp[a]? with | some h => (unH m t h).bind fun m => unHp hp (n + 1) ts m | none => none
    | _ => none

def Ex.subst (β : List Bnd) : Ex → Option Ex
  | .lit n => some (.lit n)
  | .var i => match β[i]? with | some (.ex e) => some e | some (.var j) => some (.var j) | _ => none
  | .bin op k a b => (a.subst β).bind fun a => (b.subst β).map fun b => mkBin op k a b
  | .conv k a => (a.subst β).map fun a => mkConv k a
  | .len i => match β[i]? with | some (.var j) => some (.len j) | _ => none
  | .nth i e => match β[i]? with | some (.var j) => (e.subst β).map fun e => .nth j e | _ => none
  | .fld i e c => match β[i]? with | some (.var j) => (e.subst β).map fun e => .fld j e c | _ => none
  | .nrow i => match β[i]? with | some (.var j) => some (.nrow j) | _ => none
def Bx.subst (β : List Bnd) : Bx → Option Bx
  | .lit b => some (.lit b)
  | .var i => match β[i]? with | some (.bx b) => some b | some (.var j) => some (.var j) | _ => none
  | .cmp op a b => (a.subst β).bind fun a => (b.subst β).map fun b => mkCmp op a b
  | .beq a b => (a.subst β).bind fun a => (b.subst β).map fun b => mkBeq a b
  | .not a => (a.subst β).map fun a => mkNot a
  | .and a b => (a.subst β).bind fun a => (b.subst β).map fun b => mkAnd a b
  | .isnil i => match β[i]? with | some (.var j) => some (.isnil j) | _ => none
  | .fld i e c => match β[i]? with | some (.var j) => (e.subst β).map fun e => .fld j e c | _ => none
mutual
def SV.subst (β : List Bnd) (σ : List Nat) : SV → Option SV
  | .int k e => (e.subst β).map fun e => .int k e
  | .bool b => (b.subst β).map fun b => .bool b
  | .nilp => some .nilp
  | .ptr n off => (σ[n]?).map fun n => .ptr n off
  | .ptrx n e sz off => (σ[n]?).bind fun n => (e.subst β).map fun e => .ptrx n e sz off
  | .hnd n => (σ[n]?).map fun n => .hnd n
  | .nils => some .nils
  | .slice n l c => (σ[n]?).bind fun n => (l.subst β).bind fun l => (c.subst β).map fun c => .slice n l c
  | .func fn a b => (SV.substL β σ a).bind fun a => (SV.substL β σ b).map fun b => .func fn a b
  | .nilf => some .nilf
  | .agg l => (SV.substL β σ l).map fun l => .agg l
  | .tuple l => (SV.substL β σ l).map fun l => .tuple l
  | .rowv k i => match β[i]? with | some (.var j) => some (.rowv k j) | _ => none
  | .yld n => (σ[n]?).map fun n => .yld n
  | .junk => some .junk
def SV.substL (β : List Bnd) (σ : List Nat) : List SV → Option (List SV)
  | [] => some []
  | v :: l => (SV.subst β σ v).bind fun v => (SV.substL β σ l).map fun l => v :: l
end
def HE.subst (β : List Bnd) (σ : List Nat) : HE → Option HE
  | .cells vs t => (SV.substL β σ vs).map fun vs => .cells vs t
  | .abs i => match β[i]? with | some (.var j) => some (.abs j) | _ => none
  | .row k t i => match β[i]? with | some (.var j) => some (.row k t j) | _ => none
  | .ro ks i => match β[i]? with | some (.var j) => some (.ro ks j) | _ => none
  | .sys i a => match β[i]? with | some (.var j) => some (.sys j a) | _ => none
  | .gone => some .gone

def Ex.inScope (n : Nat) : Ex → Bool
  | .lit _ => true
  | .var i => i < n
  | .bin _ _ a b => a.inScope n && b.inScope n
  | .conv _ a => a.inScope n
  | .len i => i < n
  | .nth i e => i < n && e.inScope n
  | .fld i e _ => i < n && e.inScope n
  | .nrow i => i < n
def Bx.inScope (n : Nat) : Bx → Bool
  | .lit _ => true
  | .var i => i < n
  | .cmp _ a b => a.inScope n && b.inScope n
  | .beq a b => a.inScope n && b.inScope n
  | .not a => a.inScope n
  | .and a b => a.inScope n && b.inScope n
  | .isnil i => i < n
  | .fld i e _ => i < n && e.inScope n
def Bnd.inScope (n : Nat) : Bnd → Bool
  | .ex e => e.inScope n
  | .bx b => b.inScope n
  | .var i => i < n

def allSome {α : Type} : List (Option α) → Option (List α)
  | [] => some []
  | some a :: l => (allSome l).map (a :: ·)
  | none :: _ => none
def nodup : List Nat → Bool
  | [] => true
  | a :: l => !l.contains a && nodup l

/-- do values fit a form under what was found? -/
def chkL (β : List Bnd) (σ : List Nat) (ts as : List SV) : Bool :=
  match SV.substL β σ ts with
  | some l => SV.beqL l as && SV.sureL l
  | none => false
def chkHp (β : List Bnd) (σ : List Nat) (hp : List HE) : Nat → List HE → Bool
  | _, [] => true
  | n, t :: ts =>
    (match σ[n]? with
     | some a => match hp[a]?, t.subst β σ with | some h, some h' => h'.beq h && (match h' with | .cells vs _ => SV.sureL vs | _ => true) | _, _ => false
     | none => false) && chkHp β σ hp (n + 1) ts
def substHp (β : List Bnd) (σ : List Nat) (hp : List HE) : Nat → List HE → Option (List HE)
  | _, [] => some hp
  | n, .ro _ _ :: ts =>
    match σ[n]? with
    | some a => match hp[a]? with | some (.ro _ _) => substHp β σ hp (n + 1) ts | _ => none
    | none => none
  | n, t :: ts =>
    match σ[n]?, t.subst β σ with
    | some a, some h => (substHp β σ hp (n + 1) ts).map fun hp' => hp'.set a h
    | _, _ => none
def substNew (β : List Bnd) (σ : List Nat) : List HE → Option (List HE)
  | [] => some []
  | .ro _ _ :: _ => none
  | t :: ts => (t.subst β σ).bind fun h => (substNew β σ ts).map (h :: ·)
end Go.Proofs.Ytjohihkbampbgaa
