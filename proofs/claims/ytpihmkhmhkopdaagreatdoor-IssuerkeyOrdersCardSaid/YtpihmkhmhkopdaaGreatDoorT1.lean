/-
  THE THEORY OF THIS CLAIM: a logic for its functions, generic over the program; part 1. Own work.
-/
import Derived.Below
import Derived.Calls
import Derived.Laws.Rows
import Derived.Laws.CopyRow
import Derived.Laws.AppendOwn
import Derived.Laws.Slices
import Derived.Laws.Strings
import Derived.Laws.BytesArg
import Derived.Laws.BytesString
set_option linter.all false
/-
  THE DATA OF THE LOGIC: pure values and abstract values, and how they stand to the model's values in a world. Own work; generic over the program.
-/
set_option linter.all false
namespace Go.Dom
open Go.RowKit

abbrev Bytes := List UInt8

/-- Pure values: no identity; a slice is the list of its elements. -/
inductive PV where
  | b (x : Bool)
  | i (k : IntKind) (n : Int)
  | s (x : Bytes)
  | agg (l : List PV)
  | tup (l : List PV)
  | sl (l : List PV)
  | fn (f : Fn)
  | fn0
  | p0
  | if0
  | ifc (t : TypeId) (v : PV)
  | pt (x : PV) (o : Nat)
  | fc (f : FuncId) (a c : List PV)
  deriving Inhabited

def PV.cells : PV → List PV
  | .agg l => l
  | x => [x]

/-- The value of one cell. -/
def PV.one : PV → Bool
  | .agg _ => false
  | .tup _ => false
  | _ => true

/-- What may be read of memory as pure data. -/
abbrev Rd := Nat → Nat → Option Value

inductive PR (rd : Rd) : PV → Value → Prop where
  | b (x : Bool) : PR rd (.b x) (.bool x)
  | i (k : IntKind) (n : Int) : PR rd (.i k n) (.int k n)
  | s (x : Bytes) : PR rd (.s x) (.string ⟨x.toArray⟩)
  | agg (l : List PV) (vs : List Value) (h1 : ∀ x ∈ l, x.one = true) (hl : l.length = vs.length) (h : ∀ (k : Nat) (x : PV) (v : Value), l[k]? = some x → vs[k]? = some v → PR rd x v) : PR rd (.agg l) (.agg vs.toArray)
  | tup (l : List PV) (vs : List Value) (hl : l.length = vs.length) (h : ∀ (k : Nat) (x : PV) (v : Value), l[k]? = some x → vs[k]? = some v → PR rd x v) : PR rd (.tup l) (.tuple vs.toArray)
  | sl0 : PR rd (.sl []) (.slice none 0 0)
  | sle (a : Addr) (cap : Nat) : PR rd (.sl []) (.slice (some a) 0 cap)
  | sl (l : List PV) (z : Nat) (vs : List Value) (bk of cap : Nat) (hc : l.length ≤ cap) (hz : ∀ x ∈ l, x.cells.length = z) (h1 : ∀ y ∈ l.flatMap PV.cells, y.one = true)
      (hl : (l.flatMap PV.cells).length = vs.length)
      (hr : ∀ (k : Nat) (v : Value), vs[k]? = some v → rd bk (of + k) = some v)
      (h : ∀ (k : Nat) (x : PV) (v : Value), (l.flatMap PV.cells)[k]? = some x → vs[k]? = some v → PR rd x v) :
      PR rd (.sl l) (.slice (some ⟨bk, of, none⟩) l.length cap)
  | fn (f : Fn) : PR rd (.fn f) (.func f #[] #[])
  | fn0 : PR rd .fn0 .nilFunc
  | p0 : PR rd .p0 (.pointer none)
  | if0 : PR rd .if0 .nilIface
  | ifc (t : TypeId) (x : PV) (v : Value) (h : PR rd x v) : PR rd (.ifc t x) (.iface t v)
  | pt (x : PV) (o : Nat) (vs : List Value) (bk of : Nat) (h1 : ∀ y ∈ x.cells, y.one = true) (hl : x.cells.length = vs.length)
      (hr : ∀ (k : Nat) (v : Value), vs[k]? = some v → rd bk (of + k) = some v)
      (h : ∀ (k : Nat) (y : PV) (v : Value), x.cells[k]? = some y → vs[k]? = some v → PR rd y v) : PR rd (.pt x o) (.pointer (some ⟨bk, of + o, none⟩))
  | fc (f : FuncId) (a c : List PV) (va vc : List Value) (hla : a.length = va.length) (hlc : c.length = vc.length)
      (ha : ∀ (k : Nat) (x : PV) (v : Value), a[k]? = some x → va[k]? = some v → PR rd x v)
      (hc : ∀ (k : Nat) (x : PV) (v : Value), c[k]? = some x → vc[k]? = some v → PR rd x v) : PR rd (.fc f a c) (.func (.func f) va.toArray vc.toArray)

theorem PR.mono {rd rd' : Rd} (hr : ∀ b o v, rd b o = some v → rd' b o = some v) {x : PV} {v : Value} (h : PR rd x v) : PR rd' x v := by
  induction h with
  | b x => exact .b x
  | i k n => exact .i k n
  | s x => exact .s x
  | agg l vs h1 hl _ ih => exact .agg l vs h1 hl ih
  | tup l vs hl _ ih => exact .tup l vs hl ih
  | sl0 => exact .sl0
  | sle a cap => exact .sle a cap
  | sl l z vs bk of cap hc hz h1 hl hrd _ ih => exact .sl l z vs bk of cap hc hz h1 hl (fun k v hv => hr _ _ _ (hrd k v hv)) ih
  | fn f => exact .fn f
  | fn0 => exact .fn0
  | p0 => exact .p0
  | if0 => exact .if0
  | ifc t x v _ ih => exact .ifc t x v ih
  | pt x o vs bk of h1 hl hrd _ ih => exact .pt x o vs bk of h1 hl (fun k v hv => hr _ _ _ (hrd k v hv)) ih
  | fc f a c va vc hla hlc _ _ iha ihc => exact .fc f a c va vc hla hlc iha ihc

/-- Abstract values: pure ones, pointers and slices into own objects (by name and version), pointers into pure data. -/
inductive AV where
  | v (x : PV)
  | p (n ver o : Nat)
  | pp (x : PV) (o : Nat)
  | rs (n ver o len z : Nat)
  | fs (l : List PV)
  | sn
  | agg (l : List AV)
  | tup (l : List AV)
  | fn (f : Fn) (a c : List AV)
  | ub
  | u
  deriving Inhabited

def AV.one : AV → Bool
  | .v x => x.one
  | .agg _ => false
  | .tup _ => false
  | .u => false
  | _ => true

/-- May its cells be written into memory? -/
def AV.okc : AV → Bool
  | .v (.tup _) => false
  | .v _ => true
  | .agg l => l.all AV.one
  | .tup _ => false
  | .u => false
  | _ => true

def AV.cells : AV → List AV
  | .agg l => l
  | .v (.agg l) => l.map .v
  | x => [x]

/-- The context of the relation: what may be read; which names have been given; the live ones with their version; their blocks and the blocks' sizes. -/
structure Cx where
  rd : Rd
  al : Nat → Prop
  cur : Nat → Option Nat
  mu : Nat → Nat
  sz : Nat → Nat

inductive AR (C : Cx) : AV → Value → Prop where
  | v {x : PV} {w : Value} (h : PR C.rd x w) : AR C (.v x) w
  | p (n ver o b : Nat) (ha : C.al n) (h : ∀ c, C.cur n = some c → ver ≤ c ∧ (ver = c → b = C.mu n)) : AR C (.p n ver o) (.pointer (some ⟨b, o, none⟩))
  | pp (x : PV) (o : Nat) (vs : List Value) (bk of : Nat) (h1 : ∀ y ∈ x.cells, y.one = true) (hl : x.cells.length = vs.length)
      (hr : ∀ (k : Nat) (v : Value), vs[k]? = some v → C.rd bk (of + k) = some v)
      (h : ∀ (k : Nat) (y : PV) (v : Value), x.cells[k]? = some y → vs[k]? = some v → PR C.rd y v) : AR C (.pp x o) (.pointer (some ⟨bk, of + o, none⟩))
  | rs (n ver o len z b o' cap : Nat) (ha : C.al n) (hc : len ≤ cap) (ho : cap = 0 ∨ o' = o)
      (h : ∀ c, C.cur n = some c → ver ≤ c ∧ (ver = c → b = C.mu n ∧ o + cap * z ≤ C.sz n)) : AR C (.rs n ver o len z) (.slice (some ⟨b, o', none⟩) len cap)
  | fs (l : List PV) (a : Option Addr) (h : PR C.rd (.sl l) (.slice a l.length l.length)) : AR C (.fs l) (.slice a l.length l.length)
  | sn : AR C .sn (.slice none 0 0)
  | agg (l : List AV) (vs : List Value) (hl : l.length = vs.length) (h : ∀ (k : Nat) (x : AV) (v : Value), l[k]? = some x → vs[k]? = some v → AR C x v) : AR C (.agg l) (.agg vs.toArray)
  | tup (l : List AV) (vs : List Value) (hl : l.length = vs.length) (h : ∀ (k : Nat) (x : AV) (v : Value), l[k]? = some x → vs[k]? = some v → AR C x v) : AR C (.tup l) (.tuple vs.toArray)
  | fn (f : Fn) (a c : List AV) (va vc : List Value) (hla : a.length = va.length) (hlc : c.length = vc.length)
      (ha : ∀ (k : Nat) (x : AV) (v : Value), a[k]? = some x → va[k]? = some v → AR C x v)
      (hc : ∀ (k : Nat) (x : AV) (v : Value), c[k]? = some x → vc[k]? = some v → AR C x v) : AR C (.fn f a c) (.func f va.toArray vc.toArray)
  | ub (x : Bool) : AR C .ub (.bool x)
  | u (w : Value) : AR C .u w

/-- The context has gone on. -/
structure Cx.Le (C D : Cx) : Prop where
  rd : ∀ b o v, C.rd b o = some v → D.rd b o = some v
  al : ∀ n, C.al n → D.al n
  cur : ∀ n, C.al n → ∀ d, D.cur n = some d → ∃ c, C.cur n = some c ∧ c ≤ d ∧ (c = d → D.mu n = C.mu n ∧ D.sz n = C.sz n)

theorem Cx.Le.refl (C : Cx) : C.Le C := ⟨fun _ _ _ h => h, fun _ h => h, fun _ _ d h => ⟨d, h, Nat.le_refl _, fun _ => ⟨rfl, rfl⟩⟩⟩

theorem Cx.Le.trans {C D E : Cx} (h : C.Le D) (k : D.Le E) : C.Le E := by
  refine ⟨fun b o v hv => k.rd _ _ _ (h.rd _ _ _ hv), fun n hn => k.al _ (h.al _ hn), fun n hn e he => ?_⟩
  obtain ⟨d, hd, hde, hd'⟩ := k.cur n (h.al n hn) e he
  obtain ⟨c, hc, hcd, hc'⟩ := h.cur n hn d hd
  refine ⟨c, hc, Nat.le_trans hcd hde, fun heq => ?_⟩
  have h1 : c = d := by omega
  have h2 : d = e := by omega
  obtain ⟨m1, s1⟩ := hc' h1
  obtain ⟨m2, s2⟩ := hd' h2
  exact ⟨m2.trans m1, s2.trans s1⟩

theorem AR.mono {C D : Cx} (hle : C.Le D) {x : AV} {w : Value} (h : AR C x w) : AR D x w := by
  induction h with
  | v h => exact .v (h.mono hle.rd)
  | p n ver o b ha h =>
    refine .p n ver o b (hle.al _ ha) fun d hd => ?_
    obtain ⟨c, hc, hcd, hm⟩ := hle.cur n ha d hd
    obtain ⟨h1, h2⟩ := h c hc
    refine ⟨by omega, fun hv => ?_⟩
    obtain ⟨hmu, -⟩ := hm (by omega)
    rw [hmu]; exact h2 (by omega)
  | pp x o vs bk of h1 hl hr h => exact .pp x o vs bk of h1 hl (fun k v hv => hle.rd _ _ _ (hr k v hv)) (fun k y v hy hv => (h k y v hy hv).mono hle.rd)
  | rs n ver o len z b o' cap ha hc ho h =>
    refine .rs n ver o len z b o' cap (hle.al _ ha) hc ho fun d hd => ?_
    obtain ⟨c, hc, hcd, hm⟩ := hle.cur n ha d hd
    obtain ⟨h1, h2⟩ := h c hc
    refine ⟨by omega, fun hv => ?_⟩
    obtain ⟨hmu, hsz⟩ := hm (by omega)
    rw [hmu, hsz]; exact h2 (by omega)
  | fs l a h => exact .fs l a (h.mono hle.rd)
  | sn => exact .sn
  | agg l vs hl _ ih => exact .agg l vs hl ih
  | tup l vs hl _ ih => exact .tup l vs hl ih
  | fn f a c va vc hla hlc _ _ iha ihc => exact .fn f a c va vc hla hlc iha ihc
  | ub x => exact .ub x
  | u w => exact .u w

/-- Pointers to pure data and functions with pure data, as such. -/
def PV.nz : PV → AV
  | .b x => .v (.b x)
  | .i k n => .v (.i k n)
  | .s x => .v (.s x)
  | .agg l => .v (.agg l)
  | .tup l => .v (.tup l)
  | .sl l => .v (.sl l)
  | .fn f => .v (.fn f)
  | .fn0 => .v .fn0
  | .p0 => .v .p0
  | .if0 => .v .if0
  | .ifc t v => .v (.ifc t v)
  | .pt x o => .pp x o
  | .fc f a c => .fn (.func f) (a.map .v) (c.map .v)
def AV.nz : AV → AV
  | .v x => x.nz
  | .p n ver o => .p n ver o
  | .pp x o => .pp x o
  | .rs n ver o len z => .rs n ver o len z
  | .fs l => .fs l
  | .sn => .sn
  | .agg l => .agg l
  | .tup l => .tup l
  | .fn f a c => .fn f a c
  | .ub => .ub
  | .u => .u
theorem AR.nz {C : Cx} {x : AV} {v : Value} (h : AR C x v) : AR C x.nz v := by
  cases h with
  | v h =>
    cases h with
    | pt x o vs bk of h1 hl hr h => exact .pp x o vs bk of h1 hl hr h
    | fc f a c va vc hla hlc ha hc =>
      refine .fn _ _ _ va vc (by simpa using hla) (by simpa using hlc) (fun k y w hy hw => ?_) (fun k y w hy hw => ?_)
      · simp only [List.getElem?_map, Option.map_eq_some_iff] at hy; obtain ⟨z, hz, rfl⟩ := hy; exact .v (ha k z w hz hw)
      · simp only [List.getElem?_map, Option.map_eq_some_iff] at hy; obtain ⟨z, hz, rfl⟩ := hy; exact .v (hc k z w hz hw)
    | b x => exact .v (.b x)
    | i k n => exact .v (.i k n)
    | s x => exact .v (.s x)
    | agg l vs h1 hl h => exact .v (.agg l vs h1 hl h)
    | tup l vs hl h => exact .v (.tup l vs hl h)
    | sl0 => exact .v .sl0
    | sle a cap => exact .v (.sle a cap)
    | sl l z vs bk of cap hc hz h1 hl hr h => exact .v (.sl l z vs bk of cap hc hz h1 hl hr h)
    | fn f => exact .v (.fn f)
    | fn0 => exact .v .fn0
    | p0 => exact .v .p0
    | if0 => exact .v .if0
    | ifc t x v h => exact .v (.ifc t x v h)
  | p n ver o b ha h => exact .p n ver o b ha h
  | pp x o vs bk of h1 hl hr h => exact .pp x o vs bk of h1 hl hr h
  | rs n ver o len z b o' cap ha hc ho h => exact .rs n ver o len z b o' cap ha hc ho h
  | fs l a h => exact .fs l a h
  | sn => exact .sn
  | agg l vs hl h => exact .agg l vs hl h
  | tup l vs hl h => exact .tup l vs hl h
  | fn f a c va vc hla hlc ha hc => exact .fn f a c va vc hla hlc ha hc
  | ub x => exact .ub x
  | u => exact .u _

/-- An own object: its version, its cells, whether the block may be longer than them, and its type where it is known. -/
structure AObj where
  ver : Nat
  cells : List AV
  gr : Bool
  el : Option TypeId

/-- The heap of own objects against the world. 'wr': the blocks that the call may write. -/
structure HR (C : Cx) (hf : Nat → Option AObj) (wr : Nat → Prop) (w : World) : Prop where
  rdw : ∀ b o v, C.rd b o = some v → w.cell? ⟨b, o, none⟩ = some v
  live : ∀ n ob, hf n = some ob → C.al n ∧ C.cur n = some ob.ver
  dead : ∀ n, hf n = none → C.cur n = none
  sep : ∀ n ob, hf n = some ob → ∀ k, C.rd (C.mu n) k = none
  inj : ∀ n m ob oc, hf n = some ob → hf m = some oc → C.mu n = C.mu m → n = m
  wr : ∀ n ob, hf n = some ob → wr (C.mu n)
  obj : ∀ n ob, hf n = some ob → ∃ cs el, w.heap[C.mu n]? = some (.cells cs el (0, 0)) ∧ cs.size = C.sz n ∧ ob.cells.length ≤ cs.size ∧
    (ob.gr = false → ob.cells.length = cs.size) ∧ ∀ (k : Nat) (x : AV) (v : Value), ob.cells[k]? = some x → cs[k]? = some v → AR C x v
  typ : ∀ n ob, hf n = some ob → ∀ t, ob.el = some t → ∃ cs, w.heap[C.mu n]? = some (.cells cs t (0, 0))

end Go.Dom

/-
  THE CODE FORM AND THE ABSTRACT OPERATIONS; the compiler from the model's code. Own work; generic over the program.
-/
set_option linter.all false
namespace Go.Dom
open Go.RowKit

/-- Operands. -/
inductive SX where
  | t (n : Nat)
  | c (v : AV)

def SX.ev (tf : Nat → AV) : SX → AV
  | .t n => tf n
  | .c v => v

/-- Operations with their types resolved. -/
inductive SO where
  | mov (x : SX)
  | pick (c a b : SX)
  | alloc (t : TypeId) (z : List AV)
  | box (x : SX)
  | build (z : List AV) (ps : List (Nat × Nat × SX))
  | bsl (z : Nat) (ps : List SX)
  | ld (ag : Bool) (z : Nat) (x : SX)
  | st (z : Nat) (a x : SX)
  | bin (op : BinOp) (x y : SX)
  | beq (ng : Bool) (x y : SX)
  | un (op : UnOp) (x : SX)
  | cvi (k : IntKind) (x : SX)
  | cvs (x : SX)
  | b2s (x : SX)
  | s2b (x : SX)
  | mks (z : List AV) (by_ : Nat) (l c : SX)
  | slS (x : SX) (lo hi : Option SX)
  | slL (z : Nat) (x : SX) (lo hi mx : Option SX)
  | slA (n z : Nat) (x : SX) (lo hi mx : Option SX)
  | fad (o : Nat) (x : SX)
  | fld (ag : Bool) (o z : Nat) (x : SX)
  | ixs (z : Nat) (x i : SX)
  | ixa (n z : Nat) (x i : SX)
  | ixS (x i : SX)
  | ixV (ag : Bool) (n z : Nat) (x i : SX)
  | ext (x : SX) (k : Nat)
  | len (x : SX)
  | lenS (x : SX)
  | lenA (n : Nat)
  | mm (mx : Bool) (x y : SX)
  | app (e : TypeId) (z by_ : Nat) (x y : SX)
  | cpy (z : Nat) (x y : SX)
  | call (f : SX) (args : List SX)
  | mkf (f : Fn) (a c : List SX)
  | nck (x : SX)
  | mki (t : TypeId) (x : SX)
  | peq (ng : Bool) (x y : SX)
  | cvp (ok : TypeId → Nat → Nat → Bool) (x : SX)
  | sld (x : SX)
  | ust (e : TypeId) (x y : SX)
  | clr (z : List AV) (x : SX)
  | snl (ng : Bool) (x : SX)
  | stop

/-- An operation in its place: destination, operation, guard (a slot and the value wanted). -/
structure SOp where
  d : Option Nat
  o : SO
  g : Option (Nat × Bool)

/-- Code. A region that draws its order bears what stands before each operation, as bits. -/
inductive SC where
  | skip
  | reg (bf : Option (List Nat)) (ops : List SOp)
  | seq (a b : SC)
  | cond (x : SX) (a b : SC)
  | blk (id : Nat) (a : SC)
  | loop (a : SC)
  | rng (x : SX) (ps : List Nat) (a b : SC)
  | exit (id : Nat)
  | ret
  | stop

/-! ## Pure views of abstract values -/

def mapO {α β : Type} (g : α → Option β) : List α → Option (List β)
  | [] => some []
  | x :: r => match g x, mapO g r with
    | some y, some ys => some (y :: ys)
    | _, _ => none

/-- Cells into elements of z cells each. -/
def chunk (z : Nat) : Nat → List PV → List PV
  | 0, _ => []
  | n + 1, l => (if z = 1 then (l.headD .fn0) else .agg (l.take z)) :: chunk z n (l.drop z)

def AV.pv0 : AV → Option PV
  | .v x => some x
  | .fs l => some (.sl l)
  | .sn => some (.sl [])
  | .pp x o => some (.pt x o)
  | _ => none
/-- A function with what it is bound to and has captured. -/
def mkFc : Fn → Option (List PV) → Option (List PV) → Option PV
  | f, some [], some [] => some (.fn f)
  | .func f, some a, some c => some (.fc f a c)
  | _, _, _ => none
def AV.pv1 : AV → Option PV
  | .v x => some x
  | .fs l => some (.sl l)
  | .sn => some (.sl [])
  | .pp x o => some (.pt x o)
  | .fn f a c => mkFc f (mapO AV.pv0 a) (mapO AV.pv0 c)
  | _ => none

/-- A struct of pure cells is pure. -/
def mkAgg (l : List AV) : AV :=
  match mapO (fun x => match x with | .v y => if y.one then some y else none | _ => none) l with
  | some ys => .v (.agg ys)
  | none => .agg l

def view (hf : Nat → Option AObj) : Nat → AV → Option PV
  | 0, _ => none
  | _ + 1, .v x => some x
  | _ + 1, .fs l => some (.sl l)
  | _ + 1, .sn => some (.sl [])
  | _ + 1, .pp x o => some (.pt x o)
  | f + 1, .fn g a c => mkFc g (mapO (view hf f) a) (mapO (view hf f) c)
  | f + 1, .p n ver o => match hf n with
    | some ob => if ob.ver = ver ∧ ob.cells.all AV.one then (mapO (view hf f) ob.cells).map fun cs => .pt (.agg cs) o else none
    | none => none
  | f + 1, .agg l => if l.all AV.one then (mapO (view hf f) l).map .agg else none
  | f + 1, .tup l => (mapO (view hf f) l).map .tup
  | f + 1, .rs n ver o len z => match hf n with
    | some ob => if ob.ver = ver ∧ o + len * z ≤ ob.cells.length ∧ ((ob.cells.drop o).take (len * z)).all AV.one then
        (mapO (view hf f) ((ob.cells.drop o).take (len * z))).map fun cs => .sl (chunk z len cs) else none
    | none => none
  | _ + 1, _ => none

/-- The names that a view reads. -/
def viewN (hf : Nat → Option AObj) : Nat → AV → List Nat
  | 0, _ => []
  | f + 1, .fn _ a c => a.flatMap (viewN hf f) ++ c.flatMap (viewN hf f)
  | f + 1, .p n _ _ => n :: match hf n with
    | some ob => ob.cells.flatMap (viewN hf f)
    | none => []
  | f + 1, .agg l => l.flatMap (viewN hf f)
  | f + 1, .tup l => l.flatMap (viewN hf f)
  | f + 1, .rs n _ o len z => n :: match hf n with
    | some ob => ((ob.cells.drop o).take (len * z)).flatMap (viewN hf f)
    | none => []
  | _ + 1, _ => []

/-- No slice in it: then it says nothing of memory. -/
def PV.flat : PV → Bool
  | .agg l => flatL l
  | .tup l => flatL l
  | .sl _ => false
  | .ifc _ v => v.flat
  | .pt _ _ => false
  | .fc _ _ _ => false
  | _ => true
where flatL : List PV → Bool
  | [] => true
  | x :: r => x.flat && flatL r

/-! ## The operations -/

/-- What an operation comes to: its value, what it asks, the names that it reads, what it makes of names. -/
structure AO where
  v : AV
  pre : Prop
  rs : List Nat
  up : List (Nat × Option AObj)

def retO (v : AV) : Option AO := some ⟨v, True, [], []⟩
def retP (v : AV) (p : Prop) : Option AO := some ⟨v, p, [], []⟩

/-- The operations on bits. -/
def iAnd (k : IntKind) (a b : Int) : Int := k.wrap (BitVec.ofInt k.bits a &&& BitVec.ofInt k.bits b).toNat
def iOr (k : IntKind) (a b : Int) : Int := k.wrap (BitVec.ofInt k.bits a ||| BitVec.ofInt k.bits b).toNat
def iXor (k : IntKind) (a b : Int) : Int := k.wrap (BitVec.ofInt k.bits a ^^^ BitVec.ofInt k.bits b).toNat
def iAndNot (k : IntKind) (a b : Int) : Int := k.wrap (BitVec.ofInt k.bits a &&& ~~~ BitVec.ofInt k.bits b).toNat

def ibin (op : BinOp) (k : IntKind) (a : Int) (k' : IntKind) (b : Int) : Option AO :=
  match op with
  | .shl => retP (.v (.i k (k.wrap (a * 2 ^ min b.toNat k.bits)))) (0 ≤ b)
  | .shr => retP (.v (.i k (a.fdiv (2 ^ min b.toNat k.bits)))) (0 ≤ b)
  | .add => retP (.v (.i k (k.wrap (a + b)))) (k = k')
  | .sub => retP (.v (.i k (k.wrap (a - b)))) (k = k')
  | .mul => retP (.v (.i k (k.wrap (a * b)))) (k = k')
  | .quo => retP (.v (.i k (k.wrap (a.tdiv b)))) (k = k' ∧ b ≠ 0)
  | .rem => retP (.v (.i k (a.tmod b))) (k = k' ∧ b ≠ 0)
  | .and => retP (.v (.i k (iAnd k a b))) (k = k')
  | .or => retP (.v (.i k (iOr k a b))) (k = k')
  | .xor => retP (.v (.i k (iXor k a b))) (k = k')
  | .andNot => retP (.v (.i k (iAndNot k a b))) (k = k')
  | .eql => retP (.v (.b (a == b))) (k = k')
  | .neq => retP (.v (.b (a != b))) (k = k')
  | .lss => retP (.v (.b (decide (a < b)))) (k = k')
  | .leq => retP (.v (.b (decide (a ≤ b)))) (k = k')
  | .gtr => retP (.v (.b (decide (a > b)))) (k = k')
  | .geq => retP (.v (.b (decide (a ≥ b)))) (k = k')

def sbin (op : BinOp) (a b : Bytes) : Option AO :=
  match op with
  | .add => retP (.v (.s (a ++ b))) (a.length + b.length ≤ 9223372036854775807)
  | .eql => retO (.v (.b (a == b)))
  | .neq => retO (.v (.b (!(a == b))))
  | .lss => retO (.v (.b (Op.bytesLess a b)))
  | .leq => retO (.v (.b (Op.bytesLess a b || a == b)))
  | .gtr => retO (.v (.b (!(Op.bytesLess a b || a == b))))
  | .geq => retO (.v (.b (!(Op.bytesLess a b))))
  | _ => none

/-- A byte of a cell. -/
def PV.byte : PV → UInt8
  | .i _ n => UInt8.ofNat n.toNat
  | _ => 0
def PV.isByte : PV → Prop
  | .i .u8 _ => True
  | _ => False
def AV.byte : AV → UInt8
  | .v x => x.byte
  | _ => 0
def AV.isByte : AV → Prop
  | .v x => x.isByte
  | _ => False
/-- The cell of a byte. -/
def u8 (c : UInt8) : PV := .i .u8 c.toNat

def lenOf : AV → Option Nat
  | .v (.sl l) => some l.length
  | .fs l => some l.length
  | .sn => some 0
  | .rs _ _ _ len _ => some len
  | _ => none

/-- The bounds of a slice expression: low, high. -/
def bounds (len : Nat) (lo hi : Option AV) : Option (Nat × Nat × Prop) :=
  match lo, hi with
  | none, none => some (0, len, True)
  | some (.v (.i _ l)), none => some (l.toNat, len, 0 ≤ l ∧ l ≤ len)
  | none, some (.v (.i _ h)) => some (0, h.toNat, 0 ≤ h ∧ h ≤ len)
  | some (.v (.i _ l)), some (.v (.i _ h)) => some (l.toNat, h.toNat, 0 ≤ l ∧ l ≤ h ∧ h ≤ len)
  | _, _ => none

/-- The cells that are appended or copied from a source, how many elements they are, what is asked, the names read. -/
def srcOf (hf : Nat → Option AObj) (z : Nat) : AV → Option (List AV × Nat × Prop × List Nat)
  | .v (.s x) => some (x.map fun c => .v (u8 c), x.length, z = 1, [])
  | .v (.sl l) => some ((l.flatMap PV.cells).map .v, l.length, (∀ x ∈ l, x.cells.length = z), [])
  | .fs l => some ((l.flatMap PV.cells).map .v, l.length, (∀ x ∈ l, x.cells.length = z), [])
  | .sn => some ([], 0, True, [])
  | .rs n ver o len z' => match hf n with
    | some ob => some ((ob.cells.drop o).take (len * z), len, ob.ver = ver ∧ z' = z ∧ o + len * z ≤ ob.cells.length, [n])
    | none => none
  | _ => none

def fillA (cells : List AV) : List (Nat × Nat × AV) → Option (List AV × Prop)
  | [] => some (cells, True)
  | (o, z, v) :: r =>
    match fillA (cells.take o ++ v.cells ++ cells.drop (o + z)) r with
    | some (cs, p) => some (cs, (v.okc = true ∧ v.cells.length = z ∧ o + z ≤ cells.length) ∧ p)
    | none => none

def AV.pvL (l : List AV) : Option (List PV) :=
  mapO (fun x => match x with
    | .agg l => if l.all AV.one then (mapO AV.pv1 l).map .agg else none
    | x => if x.okc then x.pv1 else none) l

def aLd (hf : Nat → Option AObj) (ag : Bool) (z : Nat) (x : AV) : Option AO :=
  match x.nz with
  | .p n ver o => match hf n with
    | some ob => some ⟨if ag then mkAgg ((ob.cells.drop o).take z) else ob.cells.getD o .u, ob.ver = ver ∧ o + z ≤ ob.cells.length, [n], []⟩
    | none => none
  | .pp y o => some ⟨if ag then .v (.agg ((y.cells.drop o).take z)) else .v (y.cells.getD o .fn0), o + z ≤ y.cells.length, [], []⟩
  | _ => none

def aBin (op : BinOp) (x y : AV) : Option AO :=
  match x, y with
  | .v (.i k a), .v (.i k' b) => ibin op k a k' b
  | .v (.s a), .v (.s b) => sbin op a b
  | _, _ => none

def aUn (op : UnOp) (x : AV) : Option AO :=
  match op, x with
  | .not, .v (.b a) => retO (.v (.b (!a)))
  | .neg, .v (.i k a) => retO (.v (.i k (k.wrap (0 - a))))
  | .xor, .v (.i k a) => retO (.v (.i k (k.wrap (BitVec.ofInt k.bits (if k.signed then -1 else k.max) ^^^ BitVec.ofInt k.bits a).toNat)))
  | _, _ => none

def aFad (o : Nat) (x : AV) : Option AO :=
  match x.nz with
  | .p n ver q => retO (.p n ver (q + o))
  | .pp y q => retO (.pp y (q + o))
  | _ => none

def aIxs (z : Nat) (x i : AV) : Option AO :=
  match x, i with
  | .v (.sl l), .v (.i _ a) => retP (.pp (l.getD a.toNat .fn0) 0) (0 ≤ a ∧ a < l.length ∧ (l.getD a.toNat .fn0).cells.length = z)
  | .fs l, .v (.i _ a) => retP (.pp (l.getD a.toNat .fn0) 0) (0 ≤ a ∧ a < l.length ∧ (l.getD a.toNat .fn0).cells.length = z)
  | .rs n ver o len z', .v (.i _ a) => retP (.p n ver (o + a.toNat * z)) (0 ≤ a ∧ a < len ∧ z' = z)
  | _, _ => none

def aIxa (n z : Nat) (x i : AV) : Option AO :=
  match x.nz, i with
  | .p m ver o, .v (.i _ a) => retP (.p m ver (o + a.toNat * z)) (0 ≤ a ∧ a < n)
  | .pp y o, .v (.i _ a) => retP (.pp y (o + a.toNat * z)) (0 ≤ a ∧ a < n)
  | _, _ => none

def aExt (k : Nat) (x : AV) : Option AO :=
  match x with
  | .tup l => retP (l.getD k .u) (k < l.length)
  | .v (.tup l) => retP (.v (l.getD k .fn0)) (k < l.length)
  | _ => none

def aNck (x : AV) : Option AO :=
  match x.nz with
  | .p n ver o => retO (.p n ver o)
  | .pp y o => retO (.pp y o)
  | .v (.fn (.func f)) => retO (.v (.fn (.func f)))
  | .fn (.func f) a c => retO (.fn (.func f) a c)
  | _ => none

/-- Pointers held against each other. -/
def aPeq (hf : Nat → Option AObj) (ng : Bool) (x y : AV) : Option AO :=
  match x.nz, y with
  | .v .p0, .v .p0 => retO (.v (.b (!ng)))
  | .p _ _ _, .v .p0 => retO (.v (.b ng))
  | .v .p0, .p _ _ _ => retO (.v (.b ng))
  | .pp _ _, .v .p0 => retO (.v (.b ng))
  | .p n ver o, .p n' ver' o' => if n = n' ∧ ver = ver' ∧ o = o' then (match hf n with
    | some ob => some ⟨.v (.b (!ng)), ob.ver = ver, [n], []⟩
    | none => none) else none
  | _, _ => none

/-- A pointer through unsafe.Pointer. -/
def aCvp (hf : Nat → Option AObj) (ok : TypeId → Nat → Nat → Bool) (x : AV) : Option AO :=
  match x with
  | .p n ver o => match hf n with
    | some ob => match ob.el with
      | some T => some ⟨.p n ver o, ob.ver = ver ∧ o < ob.cells.length ∧ ob.gr = false ∧ ok T ob.cells.length o = true, [n], []⟩
      | none => none
    | none => none
  | _ => none

def aSld (x : AV) : Option AO :=
  match x with
  | .sn => retO (.v .p0)
  | .rs n ver o len _ => retP (.p n ver o) (0 < len)
  | _ => none

/-- The string over an own row of bytes; the row is given up. -/
def aUst (hf : Nat → Option AObj) (e : TypeId) (x y : AV) : Option AO :=
  match x, y with
  | .v .p0, .v (.i .i64 0) => retO (.v (.s []))
  | .p n ver o, .v (.i .i64 len) => match hf n with
    | some ob => some ⟨.v (.s ((ob.cells.take len.toNat).map AV.byte)), ob.ver = ver ∧ o = 0 ∧ ob.el = some e ∧ 0 < len ∧ len.toNat ≤ ob.cells.length ∧ len ≤ 9223372036854775807 ∧ ∀ y ∈ ob.cells.take len.toNat, y = .v (u8 y.byte), [n], [(n, none)]⟩
    | none => none
  | _, _ => none

/-- Is it a struct or an array by value? -/
def AV.isAgg : AV → Prop
  | .agg _ => True
  | .v (.agg _) => True
  | _ => False

/-- The operation 'o', its own name 'nm'; calls are not among them. -/
def aop (nm : Nat) (o : SO) (tf : Nat → AV) (hf : Nat → Option AObj) : Option AO :=
  match o with
  | .mov x => retO (x.ev tf)
  | .pick c a b => match c.ev tf with
    | .v (.b true) => retO (a.ev tf)
    | .v (.b false) => retO (b.ev tf)
    | _ => none
  | .alloc t z => some ⟨.p nm 0 0, True, [], [(nm, some ⟨0, z, false, some t⟩)]⟩
  | .box x => some ⟨.p nm 0 0, (x.ev tf).okc = true, [], [(nm, some ⟨0, (x.ev tf).cells, false, none⟩)]⟩
  | .build z ps => match fillA z (ps.map fun (a, b, x) => (a, b, x.ev tf)) with
    | some (cs, p) => some ⟨mkAgg cs, p, [], []⟩
    | none => none
  | .bsl z ps => match AV.pvL (ps.map (SX.ev tf)) with
    | some xs => some ⟨.fs xs, ∀ x ∈ xs, x.cells.length = z, [], []⟩
    | none => some ⟨.rs nm 0 0 ps.length z, (∀ x ∈ ps.map (SX.ev tf), x.okc = true ∧ x.cells.length = z), [], [(nm, some ⟨0, (ps.map (SX.ev tf)).flatMap AV.cells, false, none⟩)]⟩
  | .ld ag z x => aLd hf ag z (x.ev tf)
  | .st z a x => match a.ev tf with
    | .p n ver o => match hf n with
      | some ob => some ⟨.v (.tup []), ob.ver = ver ∧ o + z ≤ ob.cells.length ∧ (x.ev tf).okc = true ∧ (x.ev tf).cells.length = z, [n],
          [(n, some ⟨ob.ver, ob.cells.take o ++ (x.ev tf).cells ++ ob.cells.drop (o + z), ob.gr, ob.el⟩)]⟩
      | none => none
    | _ => none
  | .bin op x y => aBin op (x.ev tf) (y.ev tf)
  | .beq ng x y => match x.ev tf, y.ev tf with
    | .v (.b a), .v (.b b) => retO (.v (.b (if ng then !(a == b) else a == b)))
    | _, _ => none
  | .un op x => aUn op (x.ev tf)
  | .cvi k x => match x.ev tf with
    | .v (.i _ a) => retO (.v (.i k (k.wrap a)))
    | _ => none
  | .cvs x => match x.ev tf with
    | .v (.s l) => retO (.v (.s l))
    | _ => none
  | .b2s x => match x.ev tf with
    | .v (.sl l) => retP (.v (.s (l.map PV.byte))) (∀ y ∈ l, y.isByte)
    | .fs l => retP (.v (.s (l.map PV.byte))) (∀ y ∈ l, y.isByte)
    | .sn => retO (.v (.s []))
    | .rs n ver o len z => match hf n with
      | some ob => some ⟨.v (.s (((ob.cells.drop o).take len).map AV.byte)), ob.ver = ver ∧ z = 1 ∧ o + len ≤ ob.cells.length ∧ ∀ y ∈ (ob.cells.drop o).take len, y.isByte, [n], []⟩
      | none => none
    | _ => none
  | .s2b _ => none
  | .mks z by_ l c => match l.ev tf, c.ev tf with
    | .v (.i .i64 l), .v (.i .i64 c) => some ⟨.rs nm 0 0 l.toNat z.length, 0 ≤ l ∧ l ≤ c ∧ by_ * c ≤ 140737488355328 ∧ c ≤ 140737488355328, [], [(nm, some ⟨0, (List.replicate c.toNat z).flatten, false, none⟩)]⟩
    | _, _ => none
  | .slS x lo hi => match x.ev tf with
    | .v (.s a) => match bounds a.length (lo.map (SX.ev tf)) (hi.map (SX.ev tf)) with
      | some (l, h, p) => retP (.v (.s ((a.take h).drop l))) p
      | none => none
    | _ => none
  | .slL z x lo hi mx => match x.ev tf, mx with
    | .v (.sl a), none => match bounds a.length (lo.map (SX.ev tf)) (hi.map (SX.ev tf)) with
      | some (l, h, p) => retP (.v (.sl ((a.take h).drop l))) (p ∧ ∀ x ∈ a, x.cells.length = z)
      | none => none
    | .fs a, none => match bounds a.length (lo.map (SX.ev tf)) (hi.map (SX.ev tf)) with
      | some (l, h, p) => retP (.v (.sl ((a.take h).drop l))) (p ∧ ∀ x ∈ a, x.cells.length = z)
      | none => none
    | .rs n ver o len z', none => match bounds len (lo.map (SX.ev tf)) (hi.map (SX.ev tf)) with
      | some (l, h, p) => retP (.rs n ver (o + l * z) (h - l) z) (p ∧ z' = z)
      | none => none
    | .v (.sl a), some mx => match bounds a.length (lo.map (SX.ev tf)) (hi.map (SX.ev tf)), hi.map (SX.ev tf), mx.ev tf with
      | some (l, h, p), some (.v (.i _ hh)), .v (.i _ m) => retP (.fs ((a.take h).drop l)) (p ∧ m = hh ∧ ∀ x ∈ a, x.cells.length = z)
      | _, _, _ => none
    | _, _ => none
  | .slA n z x lo hi mx => match x.ev tf, mx with
    | .p m ver o, none => match hf m, bounds n (lo.map (SX.ev tf)) (hi.map (SX.ev tf)) with
      | some ob, some (l, h, p) => some ⟨.rs m ver (o + l * z) (h - l) z, p ∧ ob.ver = ver ∧ o + n * z ≤ ob.cells.length, [m], []⟩
      | _, _ => none
    | _, _ => none
  | .fad o x => aFad o (x.ev tf)
  | .fld ag o z x => retP (if ag then mkAgg (((x.ev tf).cells.drop o).take z) else (x.ev tf).cells.getD o .u) ((x.ev tf).isAgg ∧ o + z ≤ (x.ev tf).cells.length)
  | .ixs z x i => aIxs z (x.ev tf) (i.ev tf)
  | .ixa n z x i => aIxa n z (x.ev tf) (i.ev tf)
  | .ixS x i => match x.ev tf, i.ev tf with
    | .v (.s l), .v (.i _ a) => retP (.v (u8 (l.getD a.toNat 0))) (0 ≤ a ∧ a < l.length)
    | _, _ => none
  | .ixV ag n z x i => match i.ev tf with
    | .v (.i _ a) => retP (if ag then mkAgg (((x.ev tf).cells.drop (a.toNat * z)).take z) else (x.ev tf).cells.getD (a.toNat * z) .u) ((x.ev tf).isAgg ∧ 0 ≤ a ∧ a < n ∧ a.toNat * z + z ≤ (x.ev tf).cells.length)
    | _ => none
  | .ext x k => aExt k (x.ev tf)
  | .len x => match lenOf (x.ev tf) with
    | some n => retO (.v (.i .i64 n))
    | none => none
  | .lenS x => match x.ev tf with
    | .v (.s l) => retO (.v (.i .i64 l.length))
    | _ => none
  | .lenA n => retO (.v (.i .i64 n))
  | .mm mx x y => match x.ev tf, y.ev tf with
    | .v (.i k a), .v (.i k' b) => retP (.v (.i k (if mx then (if b > a then b else a) else (if b < a then b else a)))) (k = k')
    | _, _ => none
  | .app e z by_ x y => match srcOf hf z (y.ev tf) with
    | some (ys, k, p, r) =>
      match x.ev tf with
      | .sn => if k = 0 then some ⟨.sn, p, r, []⟩ else some ⟨.rs nm 0 0 k z, p ∧ (∀ y ∈ ys, y.one = true) ∧ k * by_ ≤ 140737488355328 ∧ k ≤ 140737488355328, r, [(nm, some ⟨0, ys, true, some e⟩)]⟩
      | .fs l => if k = 0 then some ⟨.fs l, p, r, []⟩ else some ⟨.rs nm 0 0 (l.length + k) z, p ∧ (∀ y ∈ ys, y.one = true) ∧ (∀ x ∈ l, x.cells.length = z) ∧ (l.length + k) * by_ ≤ 140737488355328 ∧ l.length + k ≤ 140737488355328, r, [(nm, some ⟨0, (l.flatMap PV.cells).map .v ++ ys, true, some e⟩)]⟩
      | .rs n ver o len z' => match hf n with
        | some ob => some ⟨.rs n (ver + 1) 0 (len + k) z, p ∧ (∀ y ∈ ys, y.one = true) ∧ ob.ver = ver ∧ o = 0 ∧ z' = z ∧ len * z ≤ ob.cells.length ∧ (len + k) * by_ ≤ 140737488355328 ∧ len + k ≤ 140737488355328,
            n :: r, [(n, some ⟨ver + 1, ob.cells.take (len * z) ++ ys, true, if ob.el = some e then some e else none⟩)]⟩
        | none => none
      | _ => none
    | none => none
  | .cpy z x y => match srcOf hf z (y.ev tf), x.ev tf with
    | some (ys, k, p, r), .rs n ver o len z' => match hf n with
      | some ob => some ⟨.v (.i .i64 (min k len : Nat)), p ∧ (∀ y ∈ ys, y.one = true) ∧ ob.ver = ver ∧ z' = z ∧ o + len * z ≤ ob.cells.length, n :: r,
          [(n, some ⟨ob.ver, ob.cells.take o ++ ys.take (min k len * z) ++ ob.cells.drop (o + min k len * z), ob.gr, ob.el⟩)]⟩
      | none => none
    | _, _ => none
  | .mkf f a c => retO (match a, c with
    | [], [] => .v (.fn f)
    | _, _ => .fn f (a.map (SX.ev tf)) (c.map (SX.ev tf)))
  | .nck x => aNck (x.ev tf)
  | .mki t x => match x.ev tf with
    | .v y => retO (.v (.ifc t y))
    | _ => none
  | .peq ng x y => aPeq hf ng (x.ev tf) (y.ev tf)
  | .cvp ok x => aCvp hf ok (x.ev tf)
  | .sld x => aSld (x.ev tf)
  | .ust e x y => aUst hf e (x.ev tf) (y.ev tf)
  | .clr z x => match x.ev tf with
    | .rs n ver o len z' => match hf n with
      | some ob => some ⟨.v (.tup []), ob.ver = ver ∧ z' = z.length ∧ o + len * z' ≤ ob.cells.length, [n],
          [(n, some ⟨ob.ver, ob.cells.take o ++ (List.replicate len z).flatten ++ ob.cells.drop (o + len * z'), ob.gr, ob.el⟩)]⟩
      | none => none
    | _ => none
  | .snl ng x => match x.ev tf with
    | .v (.sl []) => retO .ub
    | .v (.sl (_ :: _)) => retO (.v (.b ng))
    | .sn => retO (.v (.b (!ng)))
    | .fs [] => retO .ub
    | .fs (_ :: _) => retO (.v (.b ng))
    | .rs _ _ _ _ _ => retO (.v (.b ng))
    | _ => none
  | .stop => none
  | .call _ _ => none

end Go.Dom

/-
  HOW THE HEAP OF OWN OBJECTS GOES ON: a new object, new pure data, a write, a move. Own work; generic over the program.
-/
set_option linter.all false
namespace Go.Dom
open Go.RowKit

/-- The world went on and touched only blocks that may be written. -/
structure Wf (wr : Nat → Prop) (w w' : World) : Prop where
  os : w'.os = w.os
  tape : w'.tape = w.tape
  output : w'.output = w.output
  size : w.heap.size ≤ w'.heap.size
  blk : ∀ b, b < w.heap.size → ¬ wr b → w'.heap[b]? = w.heap[b]?

theorem Wf.refl (wr : Nat → Prop) (w : World) : Wf wr w w := ⟨rfl, rfl, rfl, Nat.le_refl _, fun _ _ _ => rfl⟩
theorem Wf.trans {wr : Nat → Prop} {a b c : World} (h : Wf wr a b) (k : Wf wr b c) : Wf wr a c :=
  ⟨k.os.trans h.os, k.tape.trans h.tape, k.output.trans h.output, Nat.le_trans h.size k.size, fun i hi hn => (k.blk i (Nat.lt_of_lt_of_le hi h.size) hn).trans (h.blk i hi hn)⟩
theorem Wf.drew (wr : Nat → Prop) (w : World) : Wf wr w w.drew := ⟨rfl, rfl, rfl, Nat.le_refl _, fun _ _ _ => rfl⟩
theorem Wf.alloc (wr : Nat → Prop) (w : World) (o : Obj) : Wf wr w (w.alloc o) := ⟨rfl, rfl, rfl, by simp, fun b hb _ => heap_alloc_old w o b hb⟩

/-- Names that are updated. -/
def updF (hf : Nat → Option AObj) : List (Nat × Option AObj) → Nat → Option AObj
  | [] => hf
  | (n, x) :: r => updF (fun k => if k = n then x else hf k) r

@[simp] theorem updF_nil (hf : Nat → Option AObj) : updF hf [] = hf := rfl
theorem updF_one (hf : Nat → Option AObj) (n : Nat) (x : Option AObj) : updF hf [(n, x)] = fun k => if k = n then x else hf k := rfl

theorem cell_heap {w : World} {b o : Nat} {v : Value} (h : w.cell? ⟨b, o, none⟩ = some v) : ∃ cs el fr, w.heap[b]? = some (.cells cs el fr) ∧ cs[o]? = some v := by
  unfold World.cell? at h
  simp only at h
  split at h
  · rename_i c e f hh; exact ⟨c, e, f, hh, by simpa using h⟩
  · cases h

theorem cell_of_heap {w : World} {b o : Nat} {cs : Array Value} {el : TypeId} {fr : Nat × Nat} (h : w.heap[b]? = some (.cells cs el fr)) : w.cell? ⟨b, o, none⟩ = cs[o]? := by
  simp [World.cell?, h]

theorem cell_lt {w : World} {b o : Nat} {v : Value} (h : w.cell? ⟨b, o, none⟩ = some v) : b < w.heap.size := by
  obtain ⟨cs, el, fr, hh, -⟩ := cell_heap h
  exact (Array.getElem?_eq_some_iff.1 hh).1

section
variable {C : Cx} {hf : Nat → Option AObj} {wr : Nat → Prop} {w : World}

theorem HR.muLt (h : HR C hf wr w) {n : Nat} {ob : AObj} (hn : hf n = some ob) : C.mu n < w.heap.size := by
  obtain ⟨cs, el, hh, -⟩ := h.obj n ob hn
  exact (Array.getElem?_eq_some_iff.1 hh).1

theorem HR.rdNew (h : HR C hf wr w) (k : Nat) : C.rd w.heap.size k = none := by
  cases hv : C.rd w.heap.size k with
  | none => rfl
  | some v => have := cell_lt (h.rdw _ _ _ hv); omega

/-- What is live has stayed in its block, or lies in a new one. -/
def Stay (base : Nat) (C C' : Cx) (hf hf' : Nat → Option AObj) : Prop := ∀ n ob', hf' n = some ob' → (∃ ob, hf n = some ob ∧ C'.mu n = C.mu n) ∨ base ≤ C'.mu n

theorem Stay.mu {base : Nat} {C C' : Cx} {hf : Nat → Option AObj} (h : C'.mu = C.mu) : Stay base C C' hf hf := fun _ ob hn => .inl ⟨ob, hn, by rw [h]⟩

theorem Stay.one {base : Nat} {C C' : Cx} {hf : Nat → Option AObj} {n : Nat} {x : Option AObj} (h1 : x = none ∨ (∃ ob, hf n = some ob ∧ C'.mu n = C.mu n) ∨ base ≤ C'.mu n) (h2 : ∀ k, k ≠ n → C'.mu k = C.mu k) : Stay base C C' hf (updF hf [(n, x)]) := by
  intro k ob' hk
  rw [updF_one] at hk
  by_cases e : k = n
  · simp only [e, if_true] at hk
    subst e
    rcases h1 with h1 | h1
    · rw [h1] at hk; cases hk
    · exact h1
  · simp only [e, if_false] at hk
    exact .inl ⟨ob', hk, h2 k e⟩

/-- One name more has been given. -/
def Cx.give (C : Cx) (nm : Nat) : Cx := { C with al := fun n => C.al n ∨ n = nm }

theorem Cx.le_give (C : Cx) (nm : Nat) : C.Le (C.give nm) := ⟨fun _ _ _ h => h, fun _ h => .inl h, fun _ _ d h => ⟨d, h, Nat.le_refl _, fun _ => ⟨rfl, rfl⟩⟩⟩

theorem HR.give (h : HR C hf wr w) (nm : Nat) : HR (C.give nm) hf wr w where
  rdw := h.rdw
  live := fun n ob hn => ⟨.inl (h.live n ob hn).1, (h.live n ob hn).2⟩
  dead := h.dead
  sep := h.sep
  inj := h.inj
  wr := h.wr
  obj := fun n ob hn => by
    obtain ⟨cs, el, h1, h2, h3, h4, h5⟩ := h.obj n ob hn
    exact ⟨cs, el, h1, h2, h3, h4, fun k x v hx hv => (h5 k x v hx hv).mono (C.le_give nm)⟩
  typ := h.typ

/-- A change of the world that leaves all blocks. -/
theorem HR.world (h : HR C hf wr w) {w' : World} (hh : ∀ b, b < w.heap.size → w'.heap[b]? = w.heap[b]?) : HR C hf wr w' where
  rdw := fun b o v hv => by
    have h1 := h.rdw b o v hv
    rw [← h1]; exact World.cell?_of_block (hh b (cell_lt h1))
  live := h.live
  dead := h.dead
  sep := h.sep
  inj := h.inj
  wr := h.wr
  obj := fun n ob hn => by
    obtain ⟨cs, el, h1, h2⟩ := h.obj n ob hn
    exact ⟨cs, el, (hh _ (h.muLt hn)).trans h1, h2⟩
  typ := fun n ob hn t ht => by
    obtain ⟨cs, h1⟩ := h.typ n ob hn t ht
    exact ⟨cs, (hh _ (h.muLt hn)).trans h1⟩

/-- A new object. -/
def Cx.newObj (C : Cx) (w : World) (nm z : Nat) : Cx :=
  { rd := C.rd, al := fun n => C.al n ∨ n = nm, cur := fun k => if k = nm then some 0 else C.cur k,
    mu := fun k => if k = nm then w.heap.size else C.mu k, sz := fun k => if k = nm then z else C.sz k }

theorem Cx.le_newObj {C : Cx} (w : World) {nm : Nat} (z : Nat) (hnm : ¬ C.al nm) : C.Le (C.newObj w nm z) := by
  refine ⟨fun _ _ _ h => h, fun _ h => .inl h, fun n hn d hd => ?_⟩
  have hne : n ≠ nm := fun e => hnm (e ▸ hn)
  have hd' : C.cur n = some d := by simpa [Cx.newObj, hne] using hd
  exact ⟨d, hd', Nat.le_refl _, fun _ => ⟨by simp [Cx.newObj, hne], by simp [Cx.newObj, hne]⟩⟩

theorem HR.newObj (h : HR C hf wr w) {nm : Nat} (hnm : ¬ C.al nm) (hwr : wr w.heap.size) (cells : List AV) (gr : Bool) (vs : Array Value) (el : TypeId) (eo : Option TypeId) (heo : eo = none ∨ eo = some el)
    (hl : cells.length ≤ vs.size) (hg : gr = false → cells.length = vs.size) (hc : ∀ (k : Nat) (x : AV) (v : Value), cells[k]? = some x → vs[k]? = some v → AR C x v) :
    HR (C.newObj w nm vs.size) (fun k => if k = nm then some ⟨0, cells, gr, eo⟩ else hf k) wr (w.alloc (.cells vs el)) := by
  have hle := Cx.le_newObj w (z := vs.size) hnm
  have hno : ∀ n ob, hf n = some ob → n ≠ nm := fun n ob hn e => hnm (e ▸ (h.live n ob hn).1)
  refine ⟨?_, ?_, ?_, ?_, ?_, ?_, ?_, ?_⟩
  · intro b o v hv
    have h1 := h.rdw b o v hv
    rw [← h1]; exact World.cell?_of_block (heap_alloc_old _ _ _ (cell_lt h1))
  · intro n ob hn
    by_cases e : n = nm
    · subst e; simp at hn; subst hn; exact ⟨.inr rfl, by simp [Cx.newObj]⟩
    · simp only [e, if_false] at hn
      exact ⟨.inl (h.live n ob hn).1, by simp [Cx.newObj, e, (h.live n ob hn).2]⟩
  · intro n hn
    by_cases e : n = nm
    · subst e; simp at hn
    · simp only [e, if_false] at hn
      simp [Cx.newObj, e, h.dead n hn]
  · intro n ob hn k
    by_cases e : n = nm
    · subst e; simp only [Cx.newObj, if_true]; exact h.rdNew k
    · simp only [e, if_false] at hn
      simp only [Cx.newObj, e, if_false]; exact h.sep n ob hn k
  · intro n m ob oc hn hm hmu
    by_cases e : n = nm <;> by_cases f : m = nm
    · rw [e, f]
    · exfalso
      simp only [f, if_false] at hm
      simp only [Cx.newObj, e, f, if_true, if_false] at hmu
      have := h.muLt hm; omega
    · exfalso
      simp only [e, if_false] at hn
      simp only [Cx.newObj, e, f, if_true, if_false] at hmu
      have := h.muLt hn; omega
    · simp only [e, f, if_false] at hn hm
      simp only [Cx.newObj, e, f, if_false] at hmu
      exact h.inj n m ob oc hn hm hmu
  · intro n ob hn
    by_cases e : n = nm
    · simp only [Cx.newObj, e, if_true]; exact hwr
    · simp only [e, if_false] at hn
      simp only [Cx.newObj, e, if_false]; exact h.wr n ob hn
  · intro n ob hn
    by_cases e : n = nm
    · subst e; simp at hn; subst hn
      refine ⟨vs, el, ?_, ?_, hl, hg, fun k x v hx hv => (hc k x v hx hv).mono hle⟩
      · simp only [Cx.newObj, if_true]; exact heap_alloc_new _ _
      · simp [Cx.newObj]
    · simp only [e, if_false] at hn
      obtain ⟨cs, el', h1, h2, h3, h4, h5⟩ := h.obj n ob hn
      refine ⟨cs, el', ?_, ?_, h3, h4, fun k x v hx hv => (h5 k x v hx hv).mono hle⟩
      · simp only [Cx.newObj, e, if_false]; rw [heap_alloc_old _ _ _ (h.muLt hn)]; exact h1
      · simp [Cx.newObj, e, h2]
  · intro n ob hn t ht
    by_cases e : n = nm
    · subst e; simp at hn; subst hn
      simp only at ht
      rcases heo with he | he
      · rw [he] at ht; cases ht
      · rw [he] at ht; injection ht with ht; subst ht
        exact ⟨vs, by simp only [Cx.newObj, if_true]; exact heap_alloc_new _ _⟩
    · simp only [e, if_false] at hn
      obtain ⟨cs, h1⟩ := h.typ n ob hn t ht
      exact ⟨cs, by simp only [Cx.newObj, e, if_false]; rw [heap_alloc_old _ _ _ (h.muLt hn)]; exact h1⟩

/-- New pure data in a block of their own. -/
def Cx.newPure (C : Cx) (w : World) (nm : Nat) (vs : Array Value) : Cx :=
  { C with rd := fun b o => if b = w.heap.size then vs[o]? else C.rd b o, al := fun n => C.al n ∨ n = nm }

theorem Cx.le_newPure (h : HR C hf wr w) (nm : Nat) (vs : Array Value) : C.Le (C.newPure w nm vs) := by
  refine ⟨fun b o v hv => ?_, fun _ h => .inl h, fun _ _ d h => ⟨d, h, Nat.le_refl _, fun _ => ⟨rfl, rfl⟩⟩⟩
  have : b ≠ w.heap.size := fun e => by rw [e, h.rdNew] at hv; cases hv
  simp [Cx.newPure, this, hv]

theorem HR.newPure (h : HR C hf wr w) (nm : Nat) (vs : Array Value) (el : TypeId) (fr : Nat × Nat := (0, 0)) : HR (C.newPure w nm vs) hf wr (w.alloc (.cells vs el fr)) := by
  have hle := Cx.le_newPure h nm vs
  refine ⟨?_, ?_, h.dead, ?_, h.inj, h.wr, ?_, ?_⟩
  · intro b o v hv
    by_cases e : b = w.heap.size
    · subst e; simp [Cx.newPure] at hv; rw [cell_of_heap (heap_alloc_new _ _)]; exact hv
    · simp only [Cx.newPure, e, if_false] at hv
      have h1 := h.rdw b o v hv
      rw [← h1]; exact World.cell?_of_block (heap_alloc_old _ _ _ (cell_lt h1))
  · exact fun n ob hn => ⟨.inl (h.live n ob hn).1, (h.live n ob hn).2⟩
  · intro n ob hn k
    have := h.muLt hn
    have e : C.mu n ≠ w.heap.size := by omega
    simp only [Cx.newPure, e, if_false]; exact h.sep n ob hn k
  · intro n ob hn
    obtain ⟨cs, el', h1, h2, h3, h4, h5⟩ := h.obj n ob hn
    refine ⟨cs, el', ?_, h2, h3, h4, fun k x v hx hv => (h5 k x v hx hv).mono hle⟩
    show (w.alloc _).heap[C.mu n]? = _
    rw [heap_alloc_old _ _ _ (h.muLt hn)]; exact h1
  · intro n ob hn t ht
    obtain ⟨cs, h1⟩ := h.typ n ob hn t ht
    exact ⟨cs, by show (w.alloc _).heap[C.mu n]? = _; rw [heap_alloc_old _ _ _ (h.muLt hn)]; exact h1⟩

/-- An object is written, and may get a later version. -/
def Cx.bump (C : Cx) (nm n ver : Nat) : Cx :=
  { C with al := fun k => C.al k ∨ k = nm, cur := fun k => if k = n then some ver else C.cur k }

theorem Cx.le_bump {C : Cx} (nm : Nat) {n c ver : Nat} (hc : C.cur n = some c) (hv : c ≤ ver) : C.Le (C.bump nm n ver) := by
  refine ⟨fun _ _ _ h => h, fun _ h => .inl h, fun k _ d hd => ?_⟩
  by_cases e : k = n
  · subst e; simp [Cx.bump] at hd; subst hd; exact ⟨c, hc, hv, fun _ => ⟨rfl, rfl⟩⟩
  · simp only [Cx.bump, e, if_false] at hd
    exact ⟨d, hd, Nat.le_refl _, fun _ => ⟨rfl, rfl⟩⟩

theorem HR.write (h : HR C hf wr w) (nm : Nat) {n : Nat} {ob : AObj} (hn : hf n = some ob) {ver : Nat} (hver : ob.ver ≤ ver) (cells : List AV) (gr : Bool) {w' : World} (vs : Array Value) (el : TypeId) (eo : Option TypeId) (heo : eo = none ∨ eo = ob.el) (hel : ∃ cs, w.heap[C.mu n]? = some (.cells cs el (0, 0)))
    (hw : w'.heap[C.mu n]? = some (.cells vs el (0, 0))) (hvs : vs.size = C.sz n) (hl : cells.length ≤ vs.size) (hg : gr = false → cells.length = vs.size)
    (hoth : ∀ b, b < w.heap.size → b ≠ C.mu n → w'.heap[b]? = w.heap[b]?)
    (hc : ∀ (k : Nat) (x : AV) (v : Value), cells[k]? = some x → vs[k]? = some v → AR C x v) :
    HR (C.bump nm n ver) (fun k => if k = n then some ⟨ver, cells, gr, eo⟩ else hf k) wr w' := by
  have hle : C.Le (C.bump nm n ver) := Cx.le_bump nm (h.live n ob hn).2 hver
  refine ⟨?_, ?_, ?_, ?_, ?_, ?_, ?_, ?_⟩
  · intro b o v hv
    have h1 := h.rdw b o v hv
    have hne : b ≠ C.mu n := fun e => by have hv' : C.rd b o = some v := hv; rw [e, h.sep n ob hn] at hv'; cases hv'
    rw [← h1]; exact World.cell?_of_block (hoth b (cell_lt h1) hne)
  · intro m oc hm
    by_cases e : m = n
    · subst e; simp at hm; subst hm; exact ⟨.inl (h.live m ob hn).1, by simp [Cx.bump]⟩
    · simp only [e, if_false] at hm
      exact ⟨.inl (h.live m oc hm).1, by simp [Cx.bump, e, (h.live m oc hm).2]⟩
  · intro m hm
    by_cases e : m = n
    · subst e; simp at hm
    · simp only [e, if_false] at hm
      simp [Cx.bump, e, h.dead m hm]
  · intro m oc hm k
    by_cases e : m = n
    · subst e; exact h.sep m ob hn k
    · simp only [e, if_false] at hm; exact h.sep m oc hm k
  · intro m m' oc oc' hm hm' hmu
    by_cases e : m = n <;> by_cases f : m' = n
    · rw [e, f]
    · simp only [f, if_false] at hm'; subst e; exact h.inj _ _ _ _ hn hm' hmu
    · simp only [e, if_false] at hm; subst f; exact h.inj _ _ _ _ hm hn hmu
    · simp only [e, f, if_false] at hm hm'; exact h.inj _ _ _ _ hm hm' hmu
  · intro m oc hm
    by_cases e : m = n
    · subst e; exact h.wr m ob hn
    · simp only [e, if_false] at hm; exact h.wr m oc hm
  · intro m oc hm
    by_cases e : m = n
    · subst e; simp at hm; subst hm
      exact ⟨vs, el, hw, hvs, hl, hg, fun k x v hx hv => (hc k x v hx hv).mono hle⟩
    · simp only [e, if_false] at hm
      obtain ⟨cs, el', h1, h2, h3, h4, h5⟩ := h.obj m oc hm
      refine ⟨cs, el', ?_, h2, h3, h4, fun k x v hx hv => (h5 k x v hx hv).mono hle⟩
      have hne : C.mu m ≠ C.mu n := fun he => e (h.inj _ _ _ _ hm hn he)
      exact (hoth _ (h.muLt hm) hne).trans h1
  · intro m oc hm t ht
    by_cases e : m = n
    · subst e; simp at hm; subst hm
      simp only at ht
      rcases heo with he | he
      · rw [he] at ht; cases ht
      · rw [he] at ht
        obtain ⟨cs, h1⟩ := h.typ m ob hn t ht
        obtain ⟨cs', h2⟩ := hel
        rw [h1] at h2
        injection h2 with h2; injection h2 with _ h2 _
        exact ⟨vs, by rw [h2]; exact hw⟩
    · simp only [e, if_false] at hm
      obtain ⟨cs, h1⟩ := h.typ m oc hm t ht
      have hne : C.mu m ≠ C.mu n := fun he => e (h.inj _ _ _ _ hm hn he)
      exact ⟨cs, (hoth _ (h.muLt hm) hne).trans h1⟩

/-- An object moves into a new block. -/
def Cx.move (C : Cx) (w : World) (nm n ver z : Nat) : Cx :=
  { rd := C.rd, al := fun k => C.al k ∨ k = nm, cur := fun k => if k = n then some ver else C.cur k,
    mu := fun k => if k = n then w.heap.size else C.mu k, sz := fun k => if k = n then z else C.sz k }

theorem Cx.le_move {C : Cx} (w : World) (nm : Nat) {n c ver : Nat} (z : Nat) (hc : C.cur n = some c) (hv : c < ver) : C.Le (C.move w nm n ver z) := by
  refine ⟨fun _ _ _ h => h, fun _ h => .inl h, fun k _ d hd => ?_⟩
  by_cases e : k = n
  · subst e; simp [Cx.move] at hd; subst hd; exact ⟨c, hc, by omega, fun he => by omega⟩
  · have hd' : C.cur k = some d := by simpa [Cx.move, e] using hd
    exact ⟨d, hd', Nat.le_refl _, fun _ => ⟨by simp [Cx.move, e], by simp [Cx.move, e]⟩⟩

theorem HR.move (h : HR C hf wr w) (nm : Nat) {n : Nat} {ob : AObj} (hn : hf n = some ob) {ver : Nat} (hver : ob.ver < ver) (hwr : wr w.heap.size) (cells : List AV) (gr : Bool) (vs : Array Value) (el : TypeId) (eo : Option TypeId) (heo : eo = none ∨ eo = some el)
    (hl : cells.length ≤ vs.size) (hg : gr = false → cells.length = vs.size) (hc : ∀ (k : Nat) (x : AV) (v : Value), cells[k]? = some x → vs[k]? = some v → AR C x v) :
    HR (C.move w nm n ver vs.size) (fun k => if k = n then some ⟨ver, cells, gr, eo⟩ else hf k) wr (w.alloc (.cells vs el)) := by
  have hle : C.Le (C.move w nm n ver vs.size) := Cx.le_move w nm _ (h.live n ob hn).2 hver
  refine ⟨?_, ?_, ?_, ?_, ?_, ?_, ?_, ?_⟩
  · intro b o v hv
    have h1 := h.rdw b o v hv
    rw [← h1]; exact World.cell?_of_block (heap_alloc_old _ _ _ (cell_lt h1))
  · intro m oc hm
    by_cases e : m = n
    · subst e; simp at hm; subst hm; exact ⟨.inl (h.live m ob hn).1, by simp [Cx.move]⟩
    · simp only [e, if_false] at hm
      exact ⟨.inl (h.live m oc hm).1, by simp [Cx.move, e, (h.live m oc hm).2]⟩
  · intro m hm
    by_cases e : m = n
    · subst e; simp at hm
    · simp only [e, if_false] at hm
      simp [Cx.move, e, h.dead m hm]
  · intro m oc hm k
    by_cases e : m = n
    · simp only [Cx.move, e, if_true]; exact h.rdNew k
    · simp only [e, if_false] at hm
      simp only [Cx.move, e, if_false]; exact h.sep m oc hm k
  · intro m m' oc oc' hm hm' hmu
    by_cases e : m = n <;> by_cases f : m' = n
    · rw [e, f]
    · exfalso
      simp only [f, if_false] at hm'
      simp only [Cx.move, e, f, if_true, if_false] at hmu
      have := h.muLt hm'; omega
    · exfalso
      simp only [e, if_false] at hm
      simp only [Cx.move, e, f, if_true, if_false] at hmu
      have := h.muLt hm; omega
    · simp only [e, f, if_false] at hm hm'
      simp only [Cx.move, e, f, if_false] at hmu
      exact h.inj _ _ _ _ hm hm' hmu
  · intro m oc hm
    by_cases e : m = n
    · simp only [Cx.move, e, if_true]; exact hwr
    · simp only [e, if_false] at hm
      simp only [Cx.move, e, if_false]; exact h.wr m oc hm
  · intro m oc hm
    by_cases e : m = n
    · subst e; simp at hm; subst hm
      refine ⟨vs, el, ?_, ?_, hl, hg, fun k x v hx hv => (hc k x v hx hv).mono hle⟩
      · simp only [Cx.move, if_true]; exact heap_alloc_new _ _
      · simp [Cx.move]
    · simp only [e, if_false] at hm
      obtain ⟨cs, el', h1, h2, h3, h4, h5⟩ := h.obj m oc hm
      refine ⟨cs, el', ?_, ?_, h3, h4, fun k x v hx hv => (h5 k x v hx hv).mono hle⟩
      · simp only [Cx.move, e, if_false]; rw [heap_alloc_old _ _ _ (h.muLt hm)]; exact h1
      · simp [Cx.move, e, h2]
  · intro m oc hm t ht
    by_cases e : m = n
    · subst e; simp at hm; subst hm
      simp only at ht
      rcases heo with he | he
      · rw [he] at ht; cases ht
      · rw [he] at ht; injection ht with ht; subst ht
        exact ⟨vs, by simp only [Cx.move, if_true]; exact heap_alloc_new _ _⟩
    · simp only [e, if_false] at hm
      obtain ⟨cs, h1⟩ := h.typ m oc hm t ht
      exact ⟨cs, by simp only [Cx.move, e, if_false]; rw [heap_alloc_old _ _ _ (h.muLt hm)]; exact h1⟩

end
end Go.Dom

/-
  THE COMPILER, AND WHAT VALUES COME TO. Own work; generic over the program.
-/
set_option linter.all false
namespace Go.Dom
open Go.RowKit

/-! ## Lists that stand to values place by place -/

def RelL {α : Type} (R : α → Value → Prop) (l : List α) (vs : List Value) : Prop :=
  l.length = vs.length ∧ ∀ (k : Nat) (x : α) (v : Value), l[k]? = some x → vs[k]? = some v → R x v

section
variable {α : Type} {R : α → Value → Prop}
theorem RelL.nil : RelL R [] [] := ⟨rfl, fun k x v h => by simp at h⟩
theorem RelL.cons {x : α} {v : Value} {l : List α} {vs : List Value} (h : R x v) (hl : RelL R l vs) : RelL R (x :: l) (v :: vs) := by
  refine ⟨by simp [hl.1], fun k y u hy hu => ?_⟩
  cases k with
  | zero => simp at hy hu; subst hy; subst hu; exact h
  | succ k => simp at hy hu; exact hl.2 k y u hy hu
theorem RelL.head {x : α} {v : Value} {l : List α} {vs : List Value} (h : RelL R (x :: l) (v :: vs)) : R x v := h.2 0 x v rfl rfl
theorem RelL.tail {x : α} {v : Value} {l : List α} {vs : List Value} (h : RelL R (x :: l) (v :: vs)) : RelL R l vs :=
  ⟨by simpa using h.1, fun k y u hy hu => h.2 (k + 1) y u (by simpa using hy) (by simpa using hu)⟩
theorem RelL.uncons {x : α} {l : List α} {vs : List Value} (h : RelL R (x :: l) vs) : ∃ v us, vs = v :: us ∧ R x v ∧ RelL R l us := by
  cases vs with
  | nil => have := h.1; simp at this
  | cons v us => exact ⟨v, us, rfl, h.head, h.tail⟩
theorem RelL.nil_inv {vs : List Value} (h : RelL R [] vs) : vs = [] := by
  have := h.1; exact List.eq_nil_of_length_eq_zero (by simpa using this.symm)
theorem RelL.append {l m : List α} {vs us : List Value} (h : RelL R l vs) (k : RelL R m us) : RelL R (l ++ m) (vs ++ us) := by
  induction l generalizing vs with
  | nil => rw [h.nil_inv]; exact k
  | cons x l ih => obtain ⟨v, ws, rfl, h1, h2⟩ := h.uncons; exact .cons h1 (ih h2)
theorem RelL.take {l : List α} {vs : List Value} (h : RelL R l vs) (n : Nat) : RelL R (l.take n) (vs.take n) := by
  induction l generalizing vs n with
  | nil => rw [h.nil_inv]; simpa using RelL.nil
  | cons x l ih =>
    obtain ⟨v, ws, rfl, h1, h2⟩ := h.uncons
    cases n with
    | zero => simpa using RelL.nil
    | succ n => exact .cons h1 (ih h2 n)
theorem RelL.drop {l : List α} {vs : List Value} (h : RelL R l vs) (n : Nat) : RelL R (l.drop n) (vs.drop n) := by
  induction l generalizing vs n with
  | nil => rw [h.nil_inv]; simpa using RelL.nil
  | cons x l ih =>
    obtain ⟨v, ws, rfl, h1, h2⟩ := h.uncons
    cases n with
    | zero => exact .cons h1 h2
    | succ n => exact ih h2 n
theorem RelL.get {l : List α} {vs : List Value} (h : RelL R l vs) {k : Nat} {x : α} (hx : l[k]? = some x) : ∃ v, vs[k]? = some v ∧ R x v := by
  have hk : k < l.length := (List.getElem?_eq_some_iff.1 hx).1
  have hk' : k < vs.length := by have := h.1; omega
  exact ⟨vs[k], by simp [hk'], h.2 k x _ hx (by simp [hk'])⟩
theorem RelL.imp {S : α → Value → Prop} (hi : ∀ x v, R x v → S x v) {l : List α} {vs : List Value} (h : RelL R l vs) : RelL S l vs :=
  ⟨h.1, fun k x v hx hv => hi _ _ (h.2 k x v hx hv)⟩
theorem RelL.mapL {β : Type} {S : β → Value → Prop} (f : α → β) {l : List α} {vs : List Value} (h : RelL R l vs) (hi : ∀ x v, R x v → S (f x) v) : RelL S (l.map f) vs := by
  induction l generalizing vs with
  | nil => rw [h.nil_inv]; exact .nil
  | cons x l ih => obtain ⟨v, ws, rfl, h1, h2⟩ := h.uncons; exact .cons (hi _ _ h1) (ih h2)
theorem RelL.flatten {ls : List (List α)} {vss : List (List Value)} (hl : ls.length = vss.length) (h : ∀ (k : Nat) l vs, ls[k]? = some l → vss[k]? = some vs → RelL R l vs) : RelL R ls.flatten vss.flatten := by
  induction ls generalizing vss with
  | nil => cases vss with | nil => exact .nil | cons _ _ => simp at hl
  | cons l ls ih =>
    cases vss with
    | nil => simp at hl
    | cons vs vss =>
      simp only [List.flatten_cons]
      exact (h 0 l vs rfl rfl).append (ih (by simpa using hl) fun k l vs h1 h2 => h (k + 1) l vs (by simpa using h1) (by simpa using h2))
end

/-! ## Inversions -/
section
variable {rd : Rd} {C : Cx}

theorem PR.oneCell {x : PV} {v : Value} (h : PR rd x v) (h1 : x.one = true) : v.oneCell' = true := by
  cases h <;> first | rfl | (simp [PV.one] at h1)
theorem AR.oneCell {x : AV} {v : Value} (h : AR C x v) (h1 : x.one = true) : v.oneCell' = true := by
  cases h with
  | v h => exact h.oneCell h1
  | p => rfl
  | rs => rfl
  | pp => rfl
  | fs => rfl
  | sn => rfl
  | agg => simp [AV.one] at h1
  | tup => simp [AV.one] at h1
  | fn => rfl
  | ub => rfl
  | u => simp [AV.one] at h1

theorem PR.notAgg {x : PV} {v : Value} (h : PR rd x v) (h1 : x.one = true) : v.cells = #[v] := by
  cases h <;> first | rfl | (simp [PV.one] at h1)
theorem AR.notAgg {x : AV} {v : Value} (h : AR C x v) (h1 : x.one = true) : v.cells = #[v] := by
  have := h.oneCell h1
  cases v <;> first | rfl | (simp [Value.oneCell'] at this)

theorem AR.cells {x : AV} {v : Value} (h : AR C x v) (hk : x.okc = true) : ∃ vs : List Value, v.cells = vs.toArray ∧ RelL (AR C) x.cells vs ∧ ∀ u ∈ vs, u.oneCell' = true := by
  cases h with
  | v h =>
    rename_i y
    cases h with
    | agg l vs h1 hl h =>
      have hr : RelL (PR C.rd) l vs := ⟨hl, h⟩
      refine ⟨vs, rfl, hr.mapL _ fun x v hx => .v hx, fun u hu => ?_⟩
      obtain ⟨k, hk', rfl⟩ := List.getElem_of_mem hu
      have hkl : k < l.length := by omega
      exact (h k l[k] vs[k] (by simp [hkl]) (by simp [hk'])).oneCell (h1 _ (List.getElem_mem hkl))
    | tup l vs hl h => simp [AV.okc] at hk
    | b x => exact ⟨[.bool x], rfl, .cons (.v (.b x)) .nil, by simp [Value.oneCell']⟩
    | i k n => exact ⟨[.int k n], rfl, .cons (.v (.i k n)) .nil, by simp [Value.oneCell']⟩
    | s x => exact ⟨[.string ⟨x.toArray⟩], rfl, .cons (.v (.s x)) .nil, by simp [Value.oneCell']⟩
    | sl0 => exact ⟨[.slice none 0 0], rfl, .cons (.v .sl0) .nil, by simp [Value.oneCell']⟩
    | sle a cap => exact ⟨[_], rfl, .cons (.v (.sle a cap)) .nil, by simp [Value.oneCell']⟩
    | sl l z vs bk of cap hc hz h1 hl hr h => exact ⟨[_], rfl, .cons (.v (.sl l z vs bk of cap hc hz h1 hl hr h)) .nil, by simp [Value.oneCell']⟩
    | fn f => exact ⟨[_], rfl, .cons (.v (.fn f)) .nil, by simp [Value.oneCell']⟩
    | fn0 => exact ⟨[_], rfl, .cons (.v .fn0) .nil, by simp [Value.oneCell']⟩
    | p0 => exact ⟨[_], rfl, .cons (.v .p0) .nil, by simp [Value.oneCell']⟩
    | if0 => exact ⟨[_], rfl, .cons (.v .if0) .nil, by simp [Value.oneCell']⟩
    | ifc t x v h => exact ⟨[_], rfl, .cons (.v (.ifc t x v h)) .nil, by simp [Value.oneCell']⟩
    | pt x o vs bk of h1 hl hr h => exact ⟨[_], rfl, .cons (.v (.pt x o vs bk of h1 hl hr h)) .nil, by simp [Value.oneCell']⟩
    | fc f a c va vc hla hlc ha hc => exact ⟨[_], rfl, .cons (.v (.fc f a c va vc hla hlc ha hc)) .nil, by simp [Value.oneCell']⟩
  | agg l vs hl h =>
    refine ⟨vs, rfl, ⟨hl, h⟩, fun u hu => ?_⟩
    obtain ⟨k, hk', rfl⟩ := List.getElem_of_mem hu
    have hkl : k < l.length := by omega
    simp only [AV.okc, List.all_eq_true] at hk
    exact (h k l[k] vs[k] (by simp [hkl]) (by simp [hk'])).oneCell (hk _ (List.getElem_mem hkl))
  | tup => simp [AV.okc] at hk
  | u => simp [AV.okc] at hk
  | ub x => exact ⟨[_], rfl, .cons (.ub x) .nil, by simp [Value.oneCell']⟩
  | p n ver o b ha h => exact ⟨[_], rfl, .cons (.p n ver o b ha h) .nil, by simp [Value.oneCell']⟩
  | rs n ver o len z b o' cap ha hc ho h => exact ⟨[_], rfl, .cons (.rs n ver o len z b o' cap ha hc ho h) .nil, by simp [Value.oneCell']⟩
  | pp x o vs bk of h1 hl hr h => exact ⟨[_], rfl, .cons (.pp x o vs bk of h1 hl hr h) .nil, by simp [Value.oneCell']⟩
  | fs l a h => exact ⟨[_], rfl, .cons (.fs l a h) .nil, by simp [Value.oneCell']⟩
  | sn => exact ⟨[_], rfl, .cons .sn .nil, by simp [Value.oneCell']⟩
  | fn f a c va vc hla hlc ha hc => exact ⟨[_], rfl, .cons (.fn f a c va vc hla hlc ha hc) .nil, by simp [Value.oneCell']⟩

theorem mapO_some {α β : Type} {g : α → Option β} {l : List α} {ys : List β} (h : mapO g l = some ys) : l.length = ys.length ∧ ∀ (k : Nat) (x : α) (y : β), l[k]? = some x → ys[k]? = some y → g x = some y := by
  induction l generalizing ys with
  | nil => simp [mapO] at h; subst h; exact ⟨rfl, fun k x y h => by simp at h⟩
  | cons x l ih =>
    simp only [mapO] at h
    cases hx : g x with
    | none => simp [hx] at h
    | some y =>
      cases hl : mapO g l with
      | none => simp [hx, hl] at h
      | some zs =>
        simp [hx, hl] at h; subst h
        obtain ⟨h1, h2⟩ := ih hl
        refine ⟨by simp [h1], fun k u z hu hz => ?_⟩
        cases k with
        | zero => simp at hu hz; subst hu; subst hz; exact hx
        | succ k => simp at hu hz; exact h2 k u z hu hz

theorem AR.mkAgg {l : List AV} {vs : List Value} (h : RelL (AR C) l vs) : AR C (Dom.mkAgg l) (.agg vs.toArray) := by
  unfold Dom.mkAgg
  split
  · rename_i ys hys
    obtain ⟨h1, h2⟩ := mapO_some hys
    have hp : ∀ (k : Nat) (y : PV), ys[k]? = some y → ∃ x, l[k]? = some x ∧ x = .v y ∧ y.one = true := by
      intro k y hy
      have hk : k < l.length := by have := (List.getElem?_eq_some_iff.1 hy).1; omega
      have hx : l[k]? = some l[k] := by simp [hk]
      have := h2 k _ y hx hy
      refine ⟨l[k], hx, ?_⟩
      split at this
      · rename_i z hz
        split at this
        · simp at this; subst this; exact ⟨hz, by assumption⟩
        · cases this
      · cases this
    refine .v (.agg ys vs ?_ (by rw [← h1]; exact h.1) ?_)
    · intro y hy
      obtain ⟨k, hk, rfl⟩ := List.getElem_of_mem hy
      exact (hp k _ (by simp [hk])).choose_spec.2.2
    · intro k y v hy hv
      obtain ⟨x, hx, rfl, -⟩ := hp k y hy
      have := h.2 k _ v hx hv
      cases this with | v h => exact h
  · exact .agg l vs h.1 h.2

end
end Go.Dom

/-
  THE COMPILER OF OPERATIONS. Own work; generic over the program.
-/
set_option linter.all false
namespace Go.Dom
open Go.RowKit

/-- A constant of one cell. -/
def cvC : Value → Option AV
  | .bool b => some (.v (.b b))
  | .int k n => some (.v (.i k n))
  | .string s => some (.v (.s s.data.toList))
  | .pointer none => some (.v .p0)
  | .slice none 0 0 => some .sn
  | .nilFunc => some (.v .fn0)
  | .nilIface => some (.v .if0)
  | _ => none

/-- Tables of numbers that are laid before the program begins, by the number of the variable. -/
class Tabs (P : Program) where
  tab : List (Nat × List (IntKind × Int))
def tabL (l : List (IntKind × Int)) : List PV := l.map fun p => .i p.1 p.2
/-- What may be read of them. -/
def TR (P : Program) [Tabs P] : Rd := fun b o => match (Tabs.tab P).lookup b with
  | some l => (l[o]?).map fun p => .int p.1 p.2
  | none => none
def tabV (P : Program) [Tabs P] (g : Nat) : AV :=
  match (Tabs.tab P).lookup g with
  | some l => .pp (.agg (tabL l)) 0
  | none => .u

def sx (P : Program) [Tabs P] : Operand → Option SX
  | .tmp t => some (.t t)
  | .const v => (cvC v).map .c
  | .func f => some (.c (.v (.fn (.func f))))
  | .global g => some (.c (tabV P g))

/-- What the operands of a frame stand for. -/
def TM (P : Program) [Tabs P] (C : Cx) (tf : Nat → AV) (a : Act) : Prop := (∀ b o v, TR P b o = some v → C.rd b o = some v) ∧ ∀ k, AR C (tf k) (a.tmps.getD k undef)

def sxO (P : Program) [Tabs P] : Option Operand → Option (Option SX)
  | none => some none
  | some x => (sx P x).map some

def zeroC (P : Program) (t : TypeId) : Option (List AV) := do
  let i ← P.info? t
  let z ← i.zero
  if z.cells.size = i.size then mapO cvC z.cells.toList else none

def isAggT (P : Program) (t : TypeId) : Option Bool :=
  match P.underlying t with
  | some (.struct _) => some true
  | some (.array _ _) => some true
  | some _ => some false
  | none => none

def sizeT (P : Program) (t : TypeId) : Option Nat := (P.info? t).map (·.size)

def partsS (P : Program) [Tabs P] (fs : Array Field) (ps : Array (Nat × Operand)) : Option (List (Nat × Nat × SX)) :=
  mapO (fun p => do
    let f ← fs[p.1]?
    let z ← sizeT P f.type
    let x ← sx P p.2
    some (f.offset, z, x)) ps.toList

def partsA (P : Program) [Tabs P] (z : Nat) (ps : Array (Nat × Operand)) : Option (List (Nat × Nat × SX)) :=
  mapO (fun p => do
    let x ← sx P p.2
    some (p.1 * z, z, x)) ps.toList

def compCall (P : Program) [Tabs P] (o : Oper) (c : Call) : Option SO :=
  match c.callee with
  | .value f => do
    let f ← sx P f
    let args ← mapO (sx P) c.args.toList
    some (.call f args)
  | .builtin b =>
    match b, c.args.toList, c.argTypes.toList with
    | .len, [x], [t] => match P.underlying t with
      | some .string => do some (.lenS (← sx P x))
      | some (.slice _) => do some (.len (← sx P x))
      | some (.array n _) => some (.lenA n)
      | _ => none
    | .append, [x, y], [t, u] => match P.underlying t, P.underlying u with
      | some (.slice e), some (.slice e') => do
        let i ← P.info? e
        let z ← i.zero
        if z.cells.size = i.size ∧ 0 < i.size ∧ e = e' ∧ t = u then some (.app e i.size i.bytes (← sx P x) (← sx P y)) else none
      | some (.slice e), some .string => do
        let i ← P.info? e
        let z ← i.zero
        if z.cells.size = i.size ∧ i.size = 1 then some (.app e i.size i.bytes (← sx P x) (← sx P y)) else none
      | _, _ => none
    | .copy, [x, y], [t, u] => match P.underlying t, P.underlying u with
      | some (.slice e), some (.slice _) => do some (.cpy (← sizeT P e) (← sx P x) (← sx P y))
      | some (.slice e), some .string => do
        if (← sizeT P e) = 1 then some (.cpy 1 (← sx P x) (← sx P y)) else none
      | _, _ => none
    | .clear, [x], [t] => match P.underlying t with
      | some (.slice e) => do some (.clr (← zeroC P e) (← sx P x))
      | _ => none
    | .max, [x, y], _ => do some (.mm true (← sx P x) (← sx P y))
    | .min, [x, y], _ => do some (.mm false (← sx P x) (← sx P y))
    | .unsafeSliceData, [x], _ => do some (.sld (← sx P x))
    | .unsafeString, [x, y], [pt, _] => match P.underlying pt with
      | some (.pointer e) => do if P.cellsOf e = 1 then some (.ust e (← sx P x) (← sx P y)) else none
      | _ => none
    | _, _, _ => none
  | .invoke _ _ => none

def compOp (P : Program) [Tabs P] (o : Oper) : Option SO :=
  match o.op with
  | .move x => do some (.mov (← sx P x))
  | .assign x => do some (.mov (← sx P x))
  | .pick c a b => do some (.pick (← sx P c) (← sx P a) (← sx P b))
  | .alloc t => do some (.alloc t (← zeroC P t))
  | .box _ x => do some (.box (← sx P x))
  | .build t ps => match P.underlying t with
    | some (.struct fs) => do
      if fs.toList.all (fun f => (sizeT P f.type).isSome) then some (.build (← zeroC P t) (← partsS P fs ps)) else none
    | some (.array _ e) => do
      let z ← sizeT P e
      some (.build (← zeroC P t) (← partsA P z ps))
    | _ => none
  | .buildSlice t n ps => match P.underlying t with
    | some (.slice e) => do
      let z ← sizeT P e
      let ze ← zeroC P e
      let xs ← mapO (sx P) (ps.toList.map (·.2))
      if ps.toList.map (·.1) = List.range n ∧ n * z ≤ 16777216 ∧ 0 < z then some (.bsl z xs) else none
    | _ => none
  | .load t x => do
    let ag ← isAggT P t
    let z ← sizeT P t
    if ag || z == 1 then some (.ld ag z (← sx P x)) else none
  | .store t a x => do
    let z ← sizeT P t
    some (.st z (← sx P a) (← sx P x))
  | .binOp op t x y _ => match P.underlying t with
    | some (.int _) => do some (.bin op (← sx P x) (← sx P y))
    | some .string => do some (.bin op (← sx P x) (← sx P y))
    | some .bool => match op with
      | .eql => do some (.beq false (← sx P x) (← sx P y))
      | .neq => do some (.beq true (← sx P x) (← sx P y))
      | _ => none
    | some (.pointer te) => if (P.info? te).isSome then (match op with
      | .eql => do some (.peq false (← sx P x) (← sx P y))
      | .neq => do some (.peq true (← sx P x) (← sx P y))
      | _ => none) else none
    | some (.slice _) => match op, y with
      | .eql, .const (.slice none 0 0) => do some (.snl false (← sx P x))
      | .neq, .const (.slice none 0 0) => do some (.snl true (← sx P x))
      | _, _ => none
    | _ => none
  | .unOp op _ x => do some (.un op (← sx P x))
  | .convert s d x => match P.underlying s, P.underlying d with
    | some (.int _), some (.int k) => do some (.cvi k (← sx P x))
    | some .string, some .string => do some (.cvs (← sx P x))
    | some (.slice e), some .string => match P.underlying e with
      | some (.int .u8) => do
        if (← sizeT P e) = 1 then some (.b2s (← sx P x)) else none
      | _ => none
    | some .string, some (.slice e) => match P.underlying e with
      | some (.int .u8) => do some (.s2b (← sx P x))
      | _ => none
    | some (.pointer t), some .unsafePointer => do
      if (← sizeT P t) = 0 then none else some (.cvp (fun _ _ _ => true) (← sx P x))
    | some .unsafePointer, some (.pointer u) => do
      if (← sizeT P u) = 0 then none else some (.cvp (fun e n o => liesAt P P.depth e (n / P.cellsOf e) o u 1) (← sx P x))
    | _, _ => none
  | .makeSlice t l c => match P.underlying t with
    | some (.slice e) => do
      let i ← P.info? e
      let z ← zeroC P e
      if 0 < i.size ∧ 0 < i.bytes then some (.mks z i.bytes (← sx P l) (← sx P c)) else none
    | _ => none
  | .slice t x lo hi mx => match P.underlying t with
    | some .string => match mx with
      | none => do some (.slS (← sx P x) (← sxO P lo) (← sxO P hi))
      | some _ => none
    | some (.slice e) => do some (.slL (← sizeT P e) (← sx P x) (← sxO P lo) (← sxO P hi) (← sxO P mx))
    | some (.array n e) => do some (.slA n (← sizeT P e) (← sx P x) (← sxO P lo) (← sxO P hi) (← sxO P mx))
    | _ => none
  | .fieldAddr s x f => match P.underlying s with
    | some (.struct fs) => do
      let fl ← fs[f]?
      let z ← sizeT P fl.type
      if z = 0 then none else some (.fad fl.offset (← sx P x))
    | _ => none
  | .field s x f => match P.underlying s with
    | some (.struct fs) => do
      let fl ← fs[f]?
      let z ← sizeT P fl.type
      let ag ← isAggT P fl.type
      if ag || z == 1 then some (.fld ag fl.offset z (← sx P x)) else none
    | _ => none
  | .indexAddr t x i => match P.underlying t with
    | some (.slice e) => do some (.ixs (← sizeT P e) (← sx P x) (← sx P i))
    | some (.array n e) => do some (.ixa n (← sizeT P e) (← sx P x) (← sx P i))
    | _ => none
  | .index t x i => match P.underlying t with
    | some .string => do some (.ixS (← sx P x) (← sx P i))
    | some (.array n e) => do
      let z ← sizeT P e
      let ag ← isAggT P e
      if ag || z == 1 then some (.ixV ag n z (← sx P x) (← sx P i)) else none
    | _ => none
  | .extract x k => do some (.ext (← sx P x) k)
  | .call c => compCall P o c
  | .makeFunc f a c => do some (.mkf f (← mapO (sx P) a.toList) (← mapO (sx P) c.toList))
  | .nilCheck x => do some (.nck (← sx P x))
  | .makeInterface t x => match P.underlying t with
    | some (.int _) => do some (.mki t (← sx P x))
    | some .string => do some (.mki t (← sx P x))
    | _ => none
  | .panic _ => some .stop
  | _ => none

/-! ## Operands -/
section
variable {P : Program} [Tabs P] {C : Cx} {tf : Nat → AV} {a : Act}

theorem cvC_ok {v : Value} {x : AV} (h : cvC v = some x) : AR C x v := by
  unfold cvC at h
  split at h <;> first | (cases h; done) | skip
  all_goals (simp at h; subst h)
  · exact .v (.b _)
  · exact .v (.i _ _)
  · rename_i s
    have : s = ⟨s.data.toList.toArray⟩ := by cases s; simp
    conv => rhs; rw [this]
    exact .v (.s _)
  · exact .v .p0
  · exact .sn
  · exact .v .fn0
  · exact .v .if0

theorem tabV_ok (hT : ∀ b o v, TR P b o = some v → C.rd b o = some v) (g : Nat) : AR C (tabV P g) (.pointer (some ⟨g, 0, none⟩)) := by
  unfold tabV
  split
  · rename_i l hl
    refine .pp (.agg (tabL l)) 0 (l.map fun p => .int p.1 p.2) g 0 ?_ (by simp [PV.cells, tabL]) ?_ ?_
    · intro y hy
      simp only [PV.cells, tabL, List.mem_map] at hy
      obtain ⟨p, -, rfl⟩ := hy; rfl
    · intro k v hv
      refine hT _ _ _ ?_
      rw [Nat.zero_add]
      simp only [TR, hl]
      simpa using hv
    · intro k y v hy hv
      simp only [PV.cells, tabL, List.getElem?_map, Option.map_eq_some_iff] at hy hv
      obtain ⟨p, hp, rfl⟩ := hy
      obtain ⟨q, hq, rfl⟩ := hv
      rw [hp] at hq; injection hq with hq; subst hq
      exact .i _ _
  · exact .u _

theorem sx_ok {o : Operand} {x : SX} (h : sx P o = some x) (ht : TM P C tf a) : AR C (x.ev tf) (a.eval o) := by
  cases o with
  | tmp t => simp [sx] at h; subst h; exact ht.2 t
  | const v =>
    simp only [sx, Option.map_eq_some_iff] at h
    obtain ⟨y, hy, rfl⟩ := h
    exact cvC_ok hy
  | func f => simp [sx] at h; subst h; exact .v (.fn _)
  | global g => simp [sx] at h; subst h; exact tabV_ok ht.1 g

theorem sxL_ok {os : List Operand} {xs : List SX} (h : mapO (sx P) os = some xs) (ht : TM P C tf a) : RelL (AR C) (xs.map (SX.ev tf)) (os.map a.eval) := by
  obtain ⟨h1, h2⟩ := mapO_some h
  refine ⟨by simp [h1], fun k x v hx hv => ?_⟩
  simp only [List.getElem?_map, Option.map_eq_some_iff] at hx hv
  obtain ⟨y, hy, rfl⟩ := hx
  obtain ⟨z, hz, rfl⟩ := hv
  exact sx_ok (h2 k z y hz hy) ht

end
end Go.Dom

/-
  THE ABSTRACT OPERATIONS ARE RIGHT, FIRST PART: those that make no memory. Own work; generic over the program.
-/
set_option linter.all false
namespace Go.Dom
open Go.RowKit

/-- An operation that gives a value. -/
def vS (x : Sem Value) : Sem Next := do pure (.value (← x))

/-- The operation runs, and what it comes to is as the abstract operation says. -/
def OpOk (P : Program) (C : Cx) (hf : Nat → Option AObj) (wr : Nat → Prop) (base nm : Nat) (s : Sem Next) (w : World) (v : AV) (up : List (Nat × Option AObj)) : Prop :=
  ∃ val w' C', (s.run P w = .ok (.value val) w' ∨ (s.run P w = .ok .skip w' ∧ val = undef)) ∧ AR C' v val ∧ HR C' (updF hf up) wr w' ∧
    C.Le C' ∧ (∀ n, C'.al n ↔ C.al n ∨ n = nm) ∧ Wf wr w w' ∧ (∀ b, b < base → C'.rd b = C.rd b) ∧ Stay base C C' hf (updF hf up)

section
variable {P : Program} {C : Cx} {hf : Nat → Option AObj} {wr : Nat → Prop} {base nm : Nat} {w : World} {tf : Nat → AV}

theorem OpOk.val0 {s : Sem Next} {v : AV} {val : Value} (h : HR C hf wr w) (hrun : s.run P w = .ok (.value val) w) (hv : AR C v val) : OpOk P C hf wr base nm s w v [] :=
  ⟨val, w, C.give nm, .inl hrun, hv.mono (C.le_give nm), h.give nm, C.le_give nm, fun _ => Iff.rfl, Wf.refl _ _, fun _ _ => rfl, .mu rfl⟩

theorem OpOk.val {s : Sem Value} {v : AV} {val : Value} (h : HR C hf wr w) (hrun : s.run P w = .ok val w) (hv : AR C v val) : OpOk P C hf wr base nm (vS s) w v [] :=
  .val0 h (by simp [vS, hrun]) hv

theorem inv_b {x : Bool} {v : Value} (h : AR C (.v (.b x)) v) : v = .bool x := by cases h with | v h => cases h; rfl
theorem inv_i {k : IntKind} {n : Int} {v : Value} (h : AR C (.v (.i k n)) v) : v = .int k n := by cases h with | v h => cases h; rfl
theorem inv_s {x : Bytes} {v : Value} (h : AR C (.v (.s x)) v) : v = .string ⟨x.toArray⟩ := by cases h with | v h => cases h; rfl

theorem run_ibin {op : BinOp} {k k' : IntKind} {x y : Int} {ao : AO} (h : ibin op k x k' y = some ao) (hp : ao.pre) (t : TypeId) (ox oy : Operand) (w : World) :
    ∃ val, (do eqGuard op t ox oy (.int k x) (.int k' y); binOp op t (.int k x) (.int k' y) : Sem Value).run P w = .ok val w ∧ AR C ao.v val ∧ ao.up = [] := by
  cases op <;> simp only [ibin, iAnd, iOr, iXor, iAndNot, retP, Option.some.injEq] at h <;> subst h <;> (simp only at hp)
  case shl => exact ⟨_, by simp [eqGuard, binOp, Op.shift, show ¬ y < 0 from by omega], .v (.i _ _), rfl⟩
  case shr => exact ⟨_, by simp [eqGuard, binOp, Op.shift, show ¬ y < 0 from by omega], .v (.i _ _), rfl⟩
  case quo => obtain ⟨rfl, h0⟩ := hp; exact ⟨_, by simp [eqGuard, binOp, Op.intDiv, h0], .v (.i _ _), rfl⟩
  case rem => obtain ⟨rfl, h0⟩ := hp; exact ⟨_, by simp [eqGuard, binOp, Op.intDiv, h0], .v (.i _ _), rfl⟩
  case add => subst hp; exact ⟨_, by simp [eqGuard, binOp, Op.intArith], .v (.i _ _), rfl⟩
  case sub => subst hp; exact ⟨_, by simp [eqGuard, binOp, Op.intArith], .v (.i _ _), rfl⟩
  case mul => subst hp; exact ⟨_, by simp [eqGuard, binOp, Op.intArith], .v (.i _ _), rfl⟩
  case and => subst hp; exact ⟨_, by simp only [eqGuard, binOp, Op.intBits]; simp, .v (.i _ _), rfl⟩
  case or => subst hp; exact ⟨_, by simp only [eqGuard, binOp, Op.intBits]; simp, .v (.i _ _), rfl⟩
  case xor => subst hp; exact ⟨_, by simp only [eqGuard, binOp, Op.intBits]; simp, .v (.i _ _), rfl⟩
  case andNot => subst hp; exact ⟨_, by simp only [eqGuard, binOp, Op.intBits]; simp, .v (.i _ _), rfl⟩
  case eql => subst hp; exact ⟨_, by simp [eqGuard, binOp, Op.intCmp], .v (.b _), rfl⟩
  case neq => subst hp; exact ⟨_, by simp [eqGuard, binOp, Op.intCmp], .v (.b _), rfl⟩
  case lss => subst hp; exact ⟨_, by simp [eqGuard, binOp, Op.intCmp], .v (.b _), rfl⟩
  case leq => subst hp; exact ⟨_, by simp [eqGuard, binOp, Op.intCmp], .v (.b _), rfl⟩
  case gtr => subst hp; exact ⟨_, by simp [eqGuard, binOp, Op.intCmp], .v (.b _), rfl⟩
  case geq => subst hp; exact ⟨_, by simp [eqGuard, binOp, Op.intCmp], .v (.b _), rfl⟩

theorem run_sbin {op : BinOp} {x y : Bytes} {ao : AO} (h : sbin op x y = some ao) (hp : ao.pre) (t : TypeId) (ox oy : Operand) (w : World) :
    ∃ val, (do eqGuard op t ox oy (.string ⟨x.toArray⟩) (.string ⟨y.toArray⟩); binOp op t (.string ⟨x.toArray⟩) (.string ⟨y.toArray⟩) : Sem Value).run P w = .ok val w ∧ AR C ao.v val ∧ ao.up = [] := by
  cases op <;> simp only [sbin, retP, retO, Option.some.injEq, reduceCtorEq] at h <;> subst h <;> (simp only at hp)
  case add =>
    have h1 : ¬ (((ByteArray.mk x.toArray).size + (ByteArray.mk y.toArray).size : Nat) : Int) > IntKind.i64.max := by
      have e1 : (ByteArray.mk x.toArray).size = x.length := by simp [ByteArray.size]
      have e2 : (ByteArray.mk y.toArray).size = y.length := by simp [ByteArray.size]
      have e3 : IntKind.i64.max = 9223372036854775807 := by decide
      rw [e1, e2, e3]; omega
    have e : (ByteArray.mk x.toArray ++ ByteArray.mk y.toArray) = ByteArray.mk (x ++ y).toArray := by
      apply ByteArray.ext; simp
    refine ⟨.string ⟨(x ++ y).toArray⟩, ?_, .v (.s _), rfl⟩
    rw [← e]
    simp only [eqGuard, binOp, Op.stringOp, h1]; simp
  case eql => exact ⟨_, by simp [eqGuard, binOp, Op.stringOp], .v (.b _), rfl⟩
  case neq => exact ⟨_, by simp [eqGuard, binOp, Op.stringOp], .v (.b _), rfl⟩
  case lss => exact ⟨_, by simp [eqGuard, binOp, Op.stringOp], .v (.b _), rfl⟩
  case leq => exact ⟨_, by simp only [eqGuard, binOp, Op.stringOp, ByteArray.toList_mk]; simp, .v (.b _), rfl⟩
  case gtr => exact ⟨_, by simp only [eqGuard, binOp, Op.stringOp, ByteArray.toList_mk]; simp, .v (.b _), rfl⟩
  case geq => exact ⟨_, by simp [eqGuard, binOp, Op.stringOp], .v (.b _), rfl⟩

/-- The addresses of a pointer. -/
theorem inv_p {n ver q : Nat} {v : Value} (h : AR C (.p n ver q) v) {ob : AObj} (hh : HR C hf wr w) (hn : hf n = some ob) (hv : ob.ver = ver) : v = .pointer (some ⟨C.mu n, q, none⟩) := by
  cases h with
  | p n ver o b ha h => rw [(h _ (hh.live _ _ hn).2).2 hv.symm]

theorem add_none (b q k : Nat) : (⟨b, q, none⟩ : Addr).add k = ⟨b, q + k, none⟩ := by unfold Addr.add; split <;> simp_all

/-- Loading cells of an object. -/
theorem run_loadObj (hh : HR C hf wr w) {n : Nat} {ob : AObj} (hn : hf n = some ob) {q z : Nat} (hz : q + z ≤ ob.cells.length) :
    ∃ vs : List Value, (loadCells ⟨C.mu n, q, none⟩ z).run P w = .ok vs.toArray w ∧ RelL (AR C) ((ob.cells.drop q).take z) vs := by
  obtain ⟨cs, el, h1, h2, h3, h4, h5⟩ := hh.obj n ob hn
  have hr : RelL (AR C) ob.cells (cs.toList.take ob.cells.length) := by
    refine ⟨by simp; omega, fun k x v hx hv => h5 k x v hx ?_⟩
    rw [List.getElem?_take] at hv
    split at hv
    · simpa using hv
    · cases hv
  refine ⟨((cs.toList.take ob.cells.length).drop q).take z, ?_, (hr.drop q).take z⟩
  have hlen : (((cs.toList.take ob.cells.length).drop q).take z).length = z := by simp; omega
  have := run_loadCells_list (P := P) w ⟨C.mu n, q, none⟩ (((cs.toList.take ob.cells.length).drop q).take z) (by
    intro j v hv
    rw [add_none, cell_of_heap h1]
    rw [List.getElem?_take] at hv
    split at hv
    · rw [List.getElem?_drop, List.getElem?_take] at hv
      split at hv
      · simpa using hv
      · cases hv
    · cases hv)
  rw [hlen] at this
  exact this

theorem run_loadPure (hh : HR C hf wr w) {b q : Nat} (vs : List Value) (hr : ∀ (k : Nat) (v : Value), vs[k]? = some v → C.rd b (q + k) = some v) (o z : Nat) (hz : o + z ≤ vs.length) :
    (loadCells ⟨b, q + o, none⟩ z).run P w = .ok ((vs.drop o).take z).toArray w := by
  have hlen : ((vs.drop o).take z).length = z := by simp; omega
  have := run_loadCells_list (P := P) w ⟨b, q + o, none⟩ ((vs.drop o).take z) (by
    intro j v hv
    rw [add_none]
    refine hh.rdw _ _ _ ?_
    rw [List.getElem?_take] at hv
    split at hv
    · rw [List.getElem?_drop] at hv
      rw [Nat.add_assoc]; exact hr _ _ hv
    · cases hv)
  rw [hlen] at this
  exact this

theorem isAggT_run {t : TypeId} {ag : Bool} (h : isAggT P t = some ag) (w : World) : (isAgg t).run P w = .ok ag w := by
  unfold isAggT at h
  split at h <;> first | (cases h; done) | skip
  all_goals (simp at h; subst h; rename_i hu; simp [isAgg, run_underlying hu])

theorem sizeT_run {t : TypeId} {z : Nat} (h : sizeT P t = some z) (w : World) : (sizeOf t).run P w = .ok z w := by
  unfold sizeT at h
  simp only [Option.map_eq_some_iff] at h
  obtain ⟨i, hi, rfl⟩ := h
  simp [sizeOf, typeInfo, hi]

theorem load_one {b q : Nat} {v : Value} (h : (loadCells ⟨b, q, none⟩ 1).run P w = .ok #[v] w) : (load ⟨b, q, none⟩).run P w = .ok v w := by
  simp only [loadCells, loadCellsFrom, Sem.run_bind, add_none, Nat.add_zero] at h
  cases hl : (load ⟨b, q, none⟩).run P w with
  | ok u w' => rw [hl] at h; simp [Result.andThen] at h; obtain ⟨rfl, rfl⟩ := h; rfl
  | halt x w' => rw [hl] at h; simp [Result.andThen] at h

end
end Go.Dom

/-
  THE ABSTRACT OPERATIONS ARE RIGHT, SECOND PART. Own work; generic over the program.
-/
set_option linter.all false
namespace Go.Dom
open Go.RowKit

section
variable {P : Program} {C : Cx} {hf : Nat → Option AObj} {wr : Nat → Prop} {base nm : Nat} {w : World} {tf : Nat → AV}

theorem take_one {α : Type} {l : List α} {q : Nat} (h : q < l.length) : (l.drop q).take 1 = [l[q]] := by
  rw [List.drop_eq_getElem_cons h]; rfl

theorem getD_lt {α : Type} {l : List α} {q : Nat} (h : q < l.length) (d : α) : l.getD q d = l[q] := by
  simp [List.getD_eq_getElem?_getD, h]

theorem ok_ld (h : HR C hf wr w) {t : TypeId} {ag : Bool} {z : Nat} (hag : isAggT P t = some ag) (hz : sizeT P t = some z) (h1 : ag = true ∨ z = 1)
    {vx : AV} {x : Value} (hx : AR C vx x) {ao : AO}
    (ha : aLd hf ag z vx = some ao) (hp : ao.pre) : OpOk P C hf wr base nm (vS (Instr.loadAt t x)) w ao.v ao.up := by
  unfold aLd at ha
  replace hx := hx.nz
  generalize vx.nz = vx at hx ha
  cases vx <;> first | (simp at ha; done) | skip
  case p n ver q =>
    simp only at ha
    cases hn : hf n with
    | none => simp [hn] at ha
    | some ob =>
      simp only [hn, Option.some.injEq] at ha
      subst ha
      obtain ⟨hv, hlen⟩ := hp
      have hval := inv_p hx h hn hv
      subst hval
      obtain ⟨vs, hrun, hrel⟩ := run_loadObj (P := P) h hn hlen
      cases ag with
      | true =>
        refine .val h (val := .agg vs.toArray) ?_ (.mkAgg hrel)
        simp only [Instr.loadAt, Instr.sureAddr, loadVar, Sem.run_bind, Sem.run_pure, Result.andThen, isAggT_run hag, sizeT_run hz, hrun, if_true]
      | false =>
        have hz1 : z = 1 := by simpa using h1
        subst hz1
        have hlen' : q < ob.cells.length := by omega
        rw [take_one hlen'] at hrel
        obtain ⟨v, us, rfl, hv1, hnil⟩ := hrel.uncons
        rw [hnil.nil_inv] at hrun
        refine .val h (val := v) ?_ (by simp only [Bool.false_eq_true, if_false]; rw [getD_lt hlen']; exact hv1)
        simp only [Instr.loadAt, Instr.sureAddr, loadVar, Sem.run_bind, Sem.run_pure, Result.andThen, isAggT_run hag, Bool.false_eq_true, if_false, load_one hrun]
  case pp y q =>
    simp only [Option.some.injEq] at ha
    subst ha
    cases hx with
    | pp x o' vs bk of h1' hl hr hrel =>
      have hlen : q + z ≤ vs.length := by have : q + z ≤ y.cells.length := hp; omega
      have hrun := run_loadPure (P := P) h vs hr q z hlen
      have hrl : RelL (PR C.rd) y.cells vs := ⟨hl, hrel⟩
      have hrl' := (hrl.drop q).take z
      cases ag with
      | true =>
        refine .val h (val := .agg ((vs.drop q).take z).toArray) ?_ (.v (.agg _ _ (fun x hx => h1' x (List.mem_of_mem_drop (List.mem_of_mem_take hx))) hrl'.1 hrl'.2))
        simp only [Instr.loadAt, Instr.sureAddr, loadVar, Sem.run_bind, Sem.run_pure, Result.andThen, isAggT_run hag, sizeT_run hz, hrun, if_true]
      | false =>
        have hz1 : z = 1 := by simpa using h1
        subst hz1
        have hlen' : q < y.cells.length := by have : q + 1 ≤ y.cells.length := hp; omega
        rw [take_one hlen'] at hrl'
        obtain ⟨v, us, he, hv1, hnil⟩ := hrl'.uncons
        rw [hnil.nil_inv] at he
        rw [he] at hrun
        refine .val h (val := v) ?_ (by simp only [Bool.false_eq_true, if_false]; rw [getD_lt hlen']; exact .v hv1)
        simp only [Instr.loadAt, Instr.sureAddr, loadVar, Sem.run_bind, Sem.run_pure, Result.andThen, isAggT_run hag, Bool.false_eq_true, if_false, load_one hrun]

theorem ok_bin (h : HR C hf wr w) {op : BinOp} {t : TypeId} (ox oy : Operand) {x y : Value} {vx vy : AV} (hx : AR C vx x) (hy : AR C vy y) {ao : AO}
    (ha : aBin op vx vy = some ao) (hp : ao.pre) : OpOk P C hf wr base nm (vS (do eqGuard op t ox oy x y; binOp op t x y)) w ao.v ao.up := by
  unfold aBin at ha
  split at ha
  · skip
    have e1 := inv_i hx; have e2 := inv_i hy; subst e1; subst e2
    obtain ⟨val, hrun, hv, hup⟩ := run_ibin (P := P) (C := C) ha hp t ox oy w
    rw [hup]
    exact .val h hrun hv
  · skip
    have e1 := inv_s hx; have e2 := inv_s hy; subst e1; subst e2
    obtain ⟨val, hrun, hv, hup⟩ := run_sbin (P := P) (C := C) ha hp t ox oy w
    rw [hup]
    exact .val h hrun hv
  · cases ha

theorem run_equalIn_bool (d : Nat) {t : TypeId} (ht : P.underlying t = some .bool) (p q : Bool) (w : World) : (Op.equalIn (d + 1) t (.bool p) (.bool q)).run P w = .ok (p == q) w := by
  simp [Op.equalIn, run_underlying ht]

theorem run_equal_bool {t : TypeId} (ht : P.underlying t = some .bool) (p q : Bool) (w : World) : (Op.equal t (.bool p) (.bool q)).run P w = .ok (p == q) w := run_equalIn_bool 9999 ht p q w

theorem ok_beq (h : HR C hf wr w) {ng : Bool} {t : TypeId} (ox oy : Operand) (ht : P.underlying t = some .bool) {x y : Value} {p q : Bool} (hx : AR C (.v (.b p)) x) (hy : AR C (.v (.b q)) y) :
    OpOk P C hf wr base nm (vS (do eqGuard (if ng then .neq else .eql) t ox oy x y; binOp (if ng then .neq else .eql) t x y)) w (.v (.b (if ng then !(p == q) else p == q))) [] := by
  have e1 := inv_b hx; have e2 := inv_b hy; subst e1; subst e2
  refine .val h (val := .bool (if ng then !(p == q) else p == q)) ?_ (.v (.b _))
  cases ng <;> simp only [Bool.false_eq_true, if_false, if_true, eqGuard, binOp, Sem.run_bind, Sem.run_pure, Result.andThen, run_equal_bool ht] <;> simp

theorem ok_un (h : HR C hf wr w) {op : UnOp} {x : Value} {vx : AV} (hx : AR C vx x) {ao : AO}
    (ha : aUn op vx = some ao) : OpOk P C hf wr base nm (vS (Op.unary op x)) w ao.v ao.up := by
  unfold aUn at ha
  split at ha
  · simp only [retO, Option.some.injEq] at ha; subst ha
    skip
    have e := inv_b hx; subst e
    exact .val h (val := .bool _) (by simp [Op.unary]) (.v (.b _))
  · simp only [retO, Option.some.injEq] at ha; subst ha
    skip
    have e := inv_i hx; subst e
    exact .val h (val := .int _ _) (by simp only [Op.unary, Op.intArith]; rfl) (.v (.i _ _))
  · simp only [retO, Option.some.injEq] at ha; subst ha
    skip
    have e := inv_i hx; subst e
    exact .val h (val := .int _ _) (by simp only [Op.unary, Op.intBits]; rfl) (.v (.i _ _))
  · cases ha

theorem ok_cvi (h : HR C hf wr w) {s d : TypeId} {ks k : IntKind} (hs : P.underlying s = some (.int ks)) (hd : P.underlying d = some (.int k)) {k' : IntKind} {n : Int} {x : Value} (hx : AR C (.v (.i k' n)) x) :
    OpOk P C hf wr base nm (vS (convert s d x)) w (.v (.i k (k.wrap n))) [] := by
  have e := inv_i hx; subst e
  exact .val h (val := .int k (k.wrap n)) (by simp [convert, run_underlying hs, run_underlying hd, Conv.intToInt]) (.v (.i _ _))

theorem ok_cvs (h : HR C hf wr w) {s d : TypeId} (hs : P.underlying s = some .string) (hd : P.underlying d = some .string) {b : Bytes} {x : Value} (hx : AR C (.v (.s b)) x) :
    OpOk P C hf wr base nm (vS (convert s d x)) w (.v (.s b)) [] := by
  have e := inv_s hx; subst e
  exact .val h (val := .string _) (by simp [convert, run_underlying hs, run_underlying hd]) (.v (.s _))

end
end Go.Dom

/-
  THE ABSTRACT OPERATIONS ARE RIGHT, THIRD PART: slices, indexes, fields. Own work; generic over the program.
-/
set_option linter.all false
namespace Go.Dom
open Go.RowKit

/-- Options that stand to one another. -/
inductive OR (C : Cx) : Option AV → Option Value → Prop where
  | none : OR C none none
  | some {x : AV} {v : Value} (h : AR C x v) : OR C (some x) (some v)

theorem flat_get {l : List PV} {z : Nat} (hz : ∀ x ∈ l, x.cells.length = z) {i : Nat} (hi : i < l.length) : ((l.flatMap PV.cells).drop (i * z)).take z = l[i].cells := by
  induction l generalizing i with
  | nil => simp at hi
  | cons x l ih =>
    have hx : x.cells.length = z := hz x (by simp)
    cases i with
    | zero => simp [List.flatMap_cons, ← hx]
    | succ i =>
      rw [List.flatMap_cons, Nat.succ_mul, Nat.add_comm, ← List.drop_drop]
      have : (x.cells ++ l.flatMap PV.cells).drop z = l.flatMap PV.cells := by rw [← hx]; simp
      rw [this]
      simpa using ih (fun y hy => hz y (by simp [hy])) (by simpa using hi)

theorem flat_len {l : List PV} {z : Nat} (hz : ∀ x ∈ l, x.cells.length = z) : (l.flatMap PV.cells).length = l.length * z := by
  induction l with
  | nil => simp
  | cons x l ih =>
    rw [List.flatMap_cons, List.length_append, hz x (by simp), ih fun y hy => hz y (by simp [hy])]
    simp [Nat.succ_mul]; omega

theorem flat_take {l : List PV} {z : Nat} (hz : ∀ x ∈ l, x.cells.length = z) (h : Nat) : (l.take h).flatMap PV.cells = (l.flatMap PV.cells).take (h * z) := by
  induction l generalizing h with
  | nil => simp
  | cons x l ih =>
    cases h with
    | zero => simp
    | succ h =>
      have hx : x.cells.length = z := hz x (by simp)
      rw [List.take_succ_cons, List.flatMap_cons, List.flatMap_cons, List.take_append, ih fun y hy => hz y (by simp [hy])]
      have e1 : x.cells.take ((h + 1) * z) = x.cells := List.take_of_length_le (by rw [hx, Nat.succ_mul]; omega)
      have e2 : (h + 1) * z - z = h * z := by rw [Nat.succ_mul]; omega
      rw [e1, hx, e2]

theorem flat_drop {l : List PV} {z : Nat} (hz : ∀ x ∈ l, x.cells.length = z) (h : Nat) : (l.drop h).flatMap PV.cells = (l.flatMap PV.cells).drop (h * z) := by
  induction l generalizing h with
  | nil => simp
  | cons x l ih =>
    cases h with
    | zero => simp
    | succ h =>
      have hx : x.cells.length = z := hz x (by simp)
      rw [List.drop_succ_cons, List.flatMap_cons, List.drop_append, ih fun y hy => hz y (by simp [hy])]
      have e1 : x.cells.drop ((h + 1) * z) = [] := List.drop_of_length_le (by rw [hx, Nat.succ_mul]; omega)
      have e2 : (h + 1) * z - z = h * z := by rw [Nat.succ_mul]; omega
      rw [e1, hx, e2, List.nil_append]

theorem PR.sub {rd : Rd} {l : List PV} {q : Option Addr} {len cap : Nat} (h : PR rd (.sl l) (.slice q len cap)) {z lo hi : Nat} (hz : ∀ x ∈ l, x.cells.length = z) (h1 : lo ≤ hi) (h2 : hi ≤ l.length) :
    PR rd (.sl ((l.take hi).drop lo)) (.slice (if cap = lo then q else q.map (·.add (lo * z))) (hi - lo) (cap - lo)) := by
  cases h with
  | sl0 =>
    simp at h2
    have h3 : hi = 0 := h2
    have h4 : lo = 0 := by omega
    subst h3; subst h4
    simpa using PR.sl0
  | sle a cap =>
    simp at h2
    have h3 : hi = 0 := h2
    have h4 : lo = 0 := by omega
    subst h3; subst h4
    have e : a.add 0 = a := by simp [Addr.add]
    have := PR.sle (rd := rd) a cap
    by_cases hc : cap = 0
    · subst hc; simpa using this
    · simpa [hc, e] using this
  | sl l z' vs bk of cap hc hz' h1' hl hr h =>
    have hlen : ((l.take hi).drop lo).length = hi - lo := by simp; omega
    have hfl := flat_len hz
    have hsub : ((l.take hi).drop lo).flatMap PV.cells = ((l.flatMap PV.cells).take (hi * z)).drop (lo * z) := by
      rw [flat_drop (z := z) (fun x hx => hz x (List.mem_of_mem_take hx)), flat_take hz]
    have hrel : RelL (PR rd) (l.flatMap PV.cells) vs := ⟨hl, h⟩
    have hrel' := (hrel.take (hi * z)).drop (lo * z)
    by_cases hcap : cap = lo
    · have h3 : hi - lo = 0 := by omega
      rw [if_pos hcap, h3]
      have h4 : (l.take hi).drop lo = [] := by apply List.eq_nil_of_length_eq_zero; omega
      rw [h4]
      exact .sl [] 0 [] bk of (cap - lo) (by simp) (by simp) (by simp) (by simp) (by simp) (by simp)
    · rw [if_neg hcap]
      simp only [Option.map_some, add_none]
      have := PR.sl (rd := rd) ((l.take hi).drop lo) z ((vs.take (hi * z)).drop (lo * z)) bk (of + lo * z) (cap - lo) (by omega)
        (fun x hx => hz x (List.mem_of_mem_take (List.mem_of_mem_drop hx)))
        (by rw [hsub]; exact fun y hy => h1' y (List.mem_of_mem_take (List.mem_of_mem_drop hy)))
        (by rw [hsub]; exact hrel'.1)
        (by
          intro k v hv
          rw [List.getElem?_drop, List.getElem?_take] at hv
          split at hv
          · rw [Nat.add_assoc]; exact hr _ _ hv
          · cases hv)
        (by rw [hsub]; exact hrel'.2)
      rw [hlen] at this
      exact this

section
variable {P : Program} {C : Cx} {hf : Nat → Option AObj} {wr : Nat → Prop} {base nm : Nat} {w : World} {tf : Nat → AV}

theorem run_bounds {sl : Bool} {len cap : Nat} {vlo vhi : Option AV} {xlo xhi : Option Value} {l h : Nat} {p : Prop} (hb : bounds len vlo vhi = some (l, h, p)) (hp : p) (hlo : OR C vlo xlo) (hhi : OR C vhi xhi) (hc : len ≤ cap) :
    (Instr.sliceBounds sl len cap xlo xhi none).run P w = .ok (l, h, cap) w ∧ l ≤ h ∧ h ≤ len := by
  unfold bounds at hb
  split at hb
  · simp only [Option.some.injEq, Prod.mk.injEq] at hb
    obtain ⟨rfl, rfl, rfl⟩ := hb
    cases hlo; cases hhi
    exact ⟨by simp [Instr.sliceBounds], by omega, by omega⟩
  · simp only [Option.some.injEq, Prod.mk.injEq] at hb
    obtain ⟨rfl, rfl, rfl⟩ := hb
    cases hlo with | some h1 => ?_
    cases hhi
    have e := inv_i h1; subst e
    refine ⟨?_, by omega, by omega⟩
    simp only [Instr.sliceBounds, Sem.run_bind, Sem.run_pure, Result.andThen]
    rw [run_sliceBound _ _ _ _ _ hp.1 hp.2]
  · simp only [Option.some.injEq, Prod.mk.injEq] at hb
    obtain ⟨rfl, rfl, rfl⟩ := hb
    cases hlo
    cases hhi with | some h1 => ?_
    have e := inv_i h1; subst e
    refine ⟨?_, by omega, by omega⟩
    simp only [Instr.sliceBounds, Sem.run_bind, Sem.run_pure, Result.andThen]
    rw [run_sliceBound _ _ _ _ _ hp.1 (by omega)]
  · simp only [Option.some.injEq, Prod.mk.injEq] at hb
    obtain ⟨rfl, rfl, rfl⟩ := hb
    cases hlo with | some h1 => ?_
    cases hhi with | some h2 => ?_
    have e := inv_i h1; subst e
    have e := inv_i h2; subst e
    refine ⟨?_, by omega, by omega⟩
    simp only [Instr.sliceBounds, Sem.run_bind, Sem.run_pure, Result.andThen]
    rw [run_sliceBound _ _ _ _ _ (by omega) (by omega)]
    simp only [Result.andThen]
    rw [run_sliceBound _ _ _ _ _ (by omega) (by omega)]
  · cases hb

theorem ok_slS (h : HR C hf wr w) {t : TypeId} (ht : P.underlying t = some .string) {b : Bytes} {x : Value} (hx : AR C (.v (.s b)) x) {vlo vhi : Option AV} {xlo xhi : Option Value} (hlo : OR C vlo xlo) (hhi : OR C vhi xhi)
    {l hh : Nat} {p : Prop} (hb : bounds b.length vlo vhi = some (l, hh, p)) (hp : p) : OpOk P C hf wr base nm (vS (Instr.sliceAt t x xlo xhi none)) w (.v (.s ((b.take hh).drop l))) [] := by
  have e := inv_s hx; subst e
  have es : (ByteArray.mk b.toArray).size = b.length := by simp [ByteArray.size]
  obtain ⟨hrun, h1, h2⟩ := run_bounds (P := P) (w := w) (sl := false) (cap := b.length) hb hp hlo hhi (Nat.le_refl _)
  refine .val h (val := .string ⟨((b.take hh).drop l).toArray⟩) ?_ (.v (.s _))
  have hx : (ByteArray.mk b.toArray).extract l hh = ⟨((b.take hh).drop l).toArray⟩ := by
    apply ByteArray.ext
    simp [List.drop_take]
  simp only [Instr.sliceAt, Instr.slice, Sem.run_bind, run_underlying ht, Result.andThen, Option.isSome_none, Bool.false_eq_true, if_false, Sem.run_pure, es, hrun, hx]

theorem ok_slL (h : HR C hf wr w) {t e : TypeId} (ht : P.underlying t = some (.slice e)) {z : Nat} (hz : sizeT P e = some z) {ls : List PV} {q : Option Addr} {len cap : Nat} (hx : PR C.rd (.sl ls) (.slice q len cap)) {vlo vhi : Option AV} {xlo xhi : Option Value} (hlo : OR C vlo xlo) (hhi : OR C vhi xhi)
    {l hh : Nat} {p : Prop} (hb : bounds ls.length vlo vhi = some (l, hh, p)) (hp : p) (hzz : ∀ x ∈ ls, x.cells.length = z) : OpOk P C hf wr base nm (vS (Instr.sliceAt t (.slice q len cap) xlo xhi none)) w (.v (.sl ((ls.take hh).drop l))) [] := by
  have hlen : len = ls.length ∧ ls.length ≤ cap := by cases hx <;> simp_all
  obtain ⟨hlen, hcap⟩ := hlen
  subst hlen
  obtain ⟨hrun, h1, h2⟩ := run_bounds (P := P) (w := w) (sl := true) (cap := cap) hb hp hlo hhi hcap
  refine .val h (val := .slice (if cap = l then q else q.map (·.add (l * z))) (hh - l) (cap - l)) ?_ (.v (hx.sub hzz h1 h2))
  simp only [Instr.sliceAt, Instr.slice, Sem.run_bind, run_underlying ht, Result.andThen, Sem.run_pure, hrun, sizeT_run hz]

end
end Go.Dom
