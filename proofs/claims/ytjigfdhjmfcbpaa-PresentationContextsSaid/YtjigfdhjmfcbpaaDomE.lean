/-
  THE COMPILER OF OPERATIONS. Own work; generic over the program.
-/
import Derived.Test.YtjigfdhjmfcbpaaDomD
set_option linter.all false
namespace Go.Dom
open Go.RowKit

/-- A constant of one cell. -/
def cvC : Value → Option AV
  | .bool b => some (.v (.b b))
  | .int k n => some (.v (.i k n))
  | .string s => some (.v (.s s.data.toList))
  | .pointer none => some (.v .p0)
  | .slice none 0 0 => some .sn
  | .nilFunc => some (.v .fn0)
  | .nilIface => some (.v .if0)
  | _ => none

def sx : Operand → Option SX
  | .tmp t => some (.t t)
  | .const v => (cvC v).map .c
  | .func f => some (.c (.v (.fn (.func f))))
  | .global _ => none

def sxO : Option Operand → Option (Option SX)
  | none => some none
  | some x => (sx x).map some

def zeroC (P : Program) (t : TypeId) : Option (List AV) := do
  let i ← P.info? t
  let z ← i.zero
  if z.cells.size = i.size then mapO cvC z.cells.toList else none

def isAggT (P : Program) (t : TypeId) : Option Bool :=
  match P.underlying t with
  | some (.struct _) => some true
  | some (.array _ _) => some true
  | some _ => some false
  | none => none

def sizeT (P : Program) (t : TypeId) : Option Nat := (P.info? t).map (·.size)

def partsS (P : Program) (fs : Array Field) (ps : Array (Nat × Operand)) : Option (List (Nat × Nat × SX)) :=
  mapO (fun p => do
    let f ← fs[p.1]?
    let z ← sizeT P f.type
    let x ← sx p.2
    some (f.offset, z, x)) ps.toList

def partsA (z : Nat) (ps : Array (Nat × Operand)) : Option (List (Nat × Nat × SX)) :=
  mapO (fun p => do
    let x ← sx p.2
    some (p.1 * z, z, x)) ps.toList

def compCall (P : Program) (o : Oper) (c : Call) : Option SO :=
  match c.callee with
  | .value f => do
    let f ← sx f
    let args ← mapO sx c.args.toList
    some (.call f args)
  | .builtin b =>
    match b, c.args.toList, c.argTypes.toList with
    | .len, [x], [t] => match P.underlying t with
      | some .string => do some (.lenS (← sx x))
      | some (.slice _) => do some (.len (← sx x))
      | some (.array n _) => some (.lenA n)
      | _ => none
    | .append, [x, y], [t, u] => match P.underlying t, P.underlying u with
      | some (.slice e), some (.slice e') => do
        let i ← P.info? e
        let z ← i.zero
        if z.cells.size = i.size ∧ 0 < i.size ∧ e = e' ∧ t = u then some (.app e i.size i.bytes (← sx x) (← sx y)) else none
      | some (.slice e), some .string => do
        let i ← P.info? e
        let z ← i.zero
        if z.cells.size = i.size ∧ i.size = 1 then some (.app e i.size i.bytes (← sx x) (← sx y)) else none
      | _, _ => none
    | .copy, [x, y], [t, u] => match P.underlying t, P.underlying u with
      | some (.slice e), some (.slice _) => do some (.cpy (← sizeT P e) (← sx x) (← sx y))
      | some (.slice e), some .string => do
        if (← sizeT P e) = 1 then some (.cpy 1 (← sx x) (← sx y)) else none
      | _, _ => none
    | .max, [x, y], _ => do some (.mm true (← sx x) (← sx y))
    | .min, [x, y], _ => do some (.mm false (← sx x) (← sx y))
    | .unsafeSliceData, [x], _ => do some (.sld (← sx x))
    | .unsafeString, [x, y], [pt, _] => match P.underlying pt with
      | some (.pointer e) => do if P.cellsOf e = 1 then some (.ust e (← sx x) (← sx y)) else none
      | _ => none
    | _, _, _ => none
  | .invoke _ _ => none

def compOp (P : Program) (o : Oper) : Option SO :=
  match o.op with
  | .move x => do some (.mov (← sx x))
  | .assign x => do some (.mov (← sx x))
  | .pick c a b => do some (.pick (← sx c) (← sx a) (← sx b))
  | .alloc t => do some (.alloc t (← zeroC P t))
  | .box _ x => do some (.box (← sx x))
  | .build t ps => match P.underlying t with
    | some (.struct fs) => do
      if fs.toList.all (fun f => (sizeT P f.type).isSome) then some (.build (← zeroC P t) (← partsS P fs ps)) else none
    | some (.array _ e) => do
      let z ← sizeT P e
      some (.build (← zeroC P t) (← partsA z ps))
    | _ => none
  | .buildSlice t n ps => match P.underlying t with
    | some (.slice e) => do
      let z ← sizeT P e
      let ze ← zeroC P e
      let xs ← mapO sx (ps.toList.map (·.2))
      if ps.toList.map (·.1) = List.range n ∧ n * z ≤ 16777216 ∧ 0 < z then some (.bsl z xs) else none
    | _ => none
  | .load t x => do
    let ag ← isAggT P t
    let z ← sizeT P t
    if ag || z == 1 then some (.ld ag z (← sx x)) else none
  | .store t a x => do
    let z ← sizeT P t
    some (.st z (← sx a) (← sx x))
  | .binOp op t x y _ => match P.underlying t with
    | some (.int _) => do some (.bin op (← sx x) (← sx y))
    | some .string => do some (.bin op (← sx x) (← sx y))
    | some .bool => match op with
      | .eql => do some (.beq false (← sx x) (← sx y))
      | .neq => do some (.beq true (← sx x) (← sx y))
      | _ => none
    | some (.pointer te) => if (P.info? te).isSome then (match op with
      | .eql => do some (.peq false (← sx x) (← sx y))
      | .neq => do some (.peq true (← sx x) (← sx y))
      | _ => none) else none
    | _ => none
  | .unOp op _ x => do some (.un op (← sx x))
  | .convert s d x => match P.underlying s, P.underlying d with
    | some (.int _), some (.int k) => do some (.cvi k (← sx x))
    | some .string, some .string => do some (.cvs (← sx x))
    | some (.slice e), some .string => match P.underlying e with
      | some (.int .u8) => do
        if (← sizeT P e) = 1 then some (.b2s (← sx x)) else none
      | _ => none
    | some .string, some (.slice e) => match P.underlying e with
      | some (.int .u8) => do some (.s2b (← sx x))
      | _ => none
    | some (.pointer t), some .unsafePointer => do
      if (← sizeT P t) = 0 then none else some (.cvp (fun _ _ _ => true) (← sx x))
    | some .unsafePointer, some (.pointer u) => do
      if (← sizeT P u) = 0 then none else some (.cvp (fun e n o => liesAt P P.depth e (n / P.cellsOf e) o u 1) (← sx x))
    | _, _ => none
  | .makeSlice t l c => match P.underlying t with
    | some (.slice e) => do
      let i ← P.info? e
      let z ← zeroC P e
      if 0 < i.size ∧ 0 < i.bytes then some (.mks z i.bytes (← sx l) (← sx c)) else none
    | _ => none
  | .slice t x lo hi mx => match P.underlying t with
    | some .string => match mx with
      | none => do some (.slS (← sx x) (← sxO lo) (← sxO hi))
      | some _ => none
    | some (.slice e) => do some (.slL (← sizeT P e) (← sx x) (← sxO lo) (← sxO hi) (← sxO mx))
    | some (.array n e) => do some (.slA n (← sizeT P e) (← sx x) (← sxO lo) (← sxO hi) (← sxO mx))
    | _ => none
  | .fieldAddr s x f => match P.underlying s with
    | some (.struct fs) => do
      let fl ← fs[f]?
      let z ← sizeT P fl.type
      if z = 0 then none else some (.fad fl.offset (← sx x))
    | _ => none
  | .field s x f => match P.underlying s with
    | some (.struct fs) => do
      let fl ← fs[f]?
      let z ← sizeT P fl.type
      let ag ← isAggT P fl.type
      if ag || z == 1 then some (.fld ag fl.offset z (← sx x)) else none
    | _ => none
  | .indexAddr t x i => match P.underlying t with
    | some (.slice e) => do some (.ixs (← sizeT P e) (← sx x) (← sx i))
    | some (.array n e) => do some (.ixa n (← sizeT P e) (← sx x) (← sx i))
    | _ => none
  | .index t x i => match P.underlying t with
    | some .string => do some (.ixS (← sx x) (← sx i))
    | some (.array n e) => do
      let z ← sizeT P e
      let ag ← isAggT P e
      if ag || z == 1 then some (.ixV ag n z (← sx x) (← sx i)) else none
    | _ => none
  | .extract x k => do some (.ext (← sx x) k)
  | .call c => compCall P o c
  | .makeFunc f a c => do some (.mkf f (← mapO sx a.toList) (← mapO sx c.toList))
  | .nilCheck x => do some (.nck (← sx x))
  | .makeInterface t x => match P.underlying t with
    | some (.int _) => do some (.mki t (← sx x))
    | some .string => do some (.mki t (← sx x))
    | _ => none
  | .panic _ => some .stop
  | _ => none

/-! ## Operands -/
section
variable {C : Cx} {tf : Nat → AV} {a : Act}

theorem cvC_ok {v : Value} {x : AV} (h : cvC v = some x) : AR C x v := by
  unfold cvC at h
  split at h <;> first | (cases h; done) | skip
  all_goals (simp at h; subst h)
  · exact .v (.b _)
  · exact .v (.i _ _)
  · rename_i s
    have : s = ⟨s.data.toList.toArray⟩ := by cases s; simp
    conv => rhs; rw [this]
    exact .v (.s _)
  · exact .v .p0
  · exact .sn
  · exact .v .fn0
  · exact .v .if0

theorem sx_ok {o : Operand} {x : SX} (h : sx o = some x) (ht : ∀ k, AR C (tf k) (a.tmps.getD k undef)) : AR C (x.ev tf) (a.eval o) := by
  cases o with
  | tmp t => simp [sx] at h; subst h; exact ht t
  | const v =>
    simp only [sx, Option.map_eq_some_iff] at h
    obtain ⟨y, hy, rfl⟩ := h
    exact cvC_ok hy
  | func f => simp [sx] at h; subst h; exact .v (.fn _)
  | global g => simp [sx] at h

theorem sxL_ok {os : List Operand} {xs : List SX} (h : mapO sx os = some xs) (ht : ∀ k, AR C (tf k) (a.tmps.getD k undef)) : RelL (AR C) (xs.map (SX.ev tf)) (os.map a.eval) := by
  obtain ⟨h1, h2⟩ := mapO_some h
  refine ⟨by simp [h1], fun k x v hx hv => ?_⟩
  simp only [List.getElem?_map, Option.map_eq_some_iff] at hx hv
  obtain ⟨y, hy, rfl⟩ := hx
  obtain ⟨z, hz, rfl⟩ := hv
  exact sx_ok (h2 k z y hz hy) ht

end
end Go.Dom
