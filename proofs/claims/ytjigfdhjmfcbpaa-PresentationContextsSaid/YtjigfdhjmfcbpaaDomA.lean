/-
  THE DATA OF THE LOGIC: pure values and abstract values, and how they stand to the model's values in a world. Own work; generic over the program.
-/
import Derived.Below
import Derived.Calls
set_option linter.all false
namespace Go.Dom
open Go.RowKit

abbrev Bytes := List UInt8

/-- Pure values: no identity; a slice is the list of its elements. -/
inductive PV where
  | b (x : Bool)
  | i (k : IntKind) (n : Int)
  | s (x : Bytes)
  | agg (l : List PV)
  | tup (l : List PV)
  | sl (l : List PV)
  | fn (f : Fn)
  | fn0
  | p0
  | if0
  | ifc (t : TypeId) (v : PV)
  deriving Inhabited

def PV.cells : PV → List PV
  | .agg l => l
  | x => [x]

/-- The value of one cell. -/
def PV.one : PV → Bool
  | .agg _ => false
  | .tup _ => false
  | _ => true

/-- What may be read of memory as pure data. -/
abbrev Rd := Nat → Nat → Option Value

inductive PR (rd : Rd) : PV → Value → Prop where
  | b (x : Bool) : PR rd (.b x) (.bool x)
  | i (k : IntKind) (n : Int) : PR rd (.i k n) (.int k n)
  | s (x : Bytes) : PR rd (.s x) (.string ⟨x.toArray⟩)
  | agg (l : List PV) (vs : List Value) (h1 : ∀ x ∈ l, x.one = true) (hl : l.length = vs.length) (h : ∀ (k : Nat) (x : PV) (v : Value), l[k]? = some x → vs[k]? = some v → PR rd x v) : PR rd (.agg l) (.agg vs.toArray)
  | tup (l : List PV) (vs : List Value) (hl : l.length = vs.length) (h : ∀ (k : Nat) (x : PV) (v : Value), l[k]? = some x → vs[k]? = some v → PR rd x v) : PR rd (.tup l) (.tuple vs.toArray)
  | sl0 : PR rd (.sl []) (.slice none 0 0)
  | sle (a : Addr) (cap : Nat) : PR rd (.sl []) (.slice (some a) 0 cap)
  | sl (l : List PV) (z : Nat) (vs : List Value) (bk of cap : Nat) (hc : l.length ≤ cap) (hz : ∀ x ∈ l, x.cells.length = z) (h1 : ∀ y ∈ l.flatMap PV.cells, y.one = true)
      (hl : (l.flatMap PV.cells).length = vs.length)
      (hr : ∀ (k : Nat) (v : Value), vs[k]? = some v → rd bk (of + k) = some v)
      (h : ∀ (k : Nat) (x : PV) (v : Value), (l.flatMap PV.cells)[k]? = some x → vs[k]? = some v → PR rd x v) :
      PR rd (.sl l) (.slice (some ⟨bk, of, none⟩) l.length cap)
  | fn (f : Fn) : PR rd (.fn f) (.func f #[] #[])
  | fn0 : PR rd .fn0 .nilFunc
  | p0 : PR rd .p0 (.pointer none)
  | if0 : PR rd .if0 .nilIface
  | ifc (t : TypeId) (x : PV) (v : Value) (h : PR rd x v) : PR rd (.ifc t x) (.iface t v)

theorem PR.mono {rd rd' : Rd} (hr : ∀ b o v, rd b o = some v → rd' b o = some v) {x : PV} {v : Value} (h : PR rd x v) : PR rd' x v := by
  induction h with
  | b x => exact .b x
  | i k n => exact .i k n
  | s x => exact .s x
  | agg l vs h1 hl _ ih => exact .agg l vs h1 hl ih
  | tup l vs hl _ ih => exact .tup l vs hl ih
  | sl0 => exact .sl0
  | sle a cap => exact .sle a cap
  | sl l z vs bk of cap hc hz h1 hl hrd _ ih => exact .sl l z vs bk of cap hc hz h1 hl (fun k v hv => hr _ _ _ (hrd k v hv)) ih
  | fn f => exact .fn f
  | fn0 => exact .fn0
  | p0 => exact .p0
  | if0 => exact .if0
  | ifc t x v _ ih => exact .ifc t x v ih

/-- Abstract values: pure ones, pointers and slices into own objects (by name and version), pointers into pure data. -/
inductive AV where
  | v (x : PV)
  | p (n ver o : Nat)
  | pp (x : PV) (o : Nat)
  | rs (n ver o len z : Nat)
  | fs (l : List PV)
  | sn
  | agg (l : List AV)
  | tup (l : List AV)
  | fn (f : Fn) (a c : List AV)
  | u
  deriving Inhabited

def AV.one : AV → Bool
  | .v x => x.one
  | .agg _ => false
  | .tup _ => false
  | .u => false
  | _ => true

/-- May its cells be written into memory? -/
def AV.okc : AV → Bool
  | .v (.tup _) => false
  | .v _ => true
  | .agg l => l.all AV.one
  | .tup _ => false
  | .u => false
  | _ => true

def AV.cells : AV → List AV
  | .agg l => l
  | .v (.agg l) => l.map .v
  | x => [x]

/-- The context of the relation: what may be read; which names have been given; the live ones with their version; their blocks and the blocks' sizes. -/
structure Cx where
  rd : Rd
  al : Nat → Prop
  cur : Nat → Option Nat
  mu : Nat → Nat
  sz : Nat → Nat

inductive AR (C : Cx) : AV → Value → Prop where
  | v {x : PV} {w : Value} (h : PR C.rd x w) : AR C (.v x) w
  | p (n ver o b : Nat) (ha : C.al n) (h : ∀ c, C.cur n = some c → ver ≤ c ∧ (ver = c → b = C.mu n)) : AR C (.p n ver o) (.pointer (some ⟨b, o, none⟩))
  | pp (x : PV) (o : Nat) (vs : List Value) (bk of : Nat) (h1 : ∀ y ∈ x.cells, y.one = true) (hl : x.cells.length = vs.length)
      (hr : ∀ (k : Nat) (v : Value), vs[k]? = some v → C.rd bk (of + k) = some v)
      (h : ∀ (k : Nat) (y : PV) (v : Value), x.cells[k]? = some y → vs[k]? = some v → PR C.rd y v) : AR C (.pp x o) (.pointer (some ⟨bk, of + o, none⟩))
  | rs (n ver o len z b o' cap : Nat) (ha : C.al n) (hc : len ≤ cap) (ho : cap = 0 ∨ o' = o)
      (h : ∀ c, C.cur n = some c → ver ≤ c ∧ (ver = c → b = C.mu n ∧ o + cap * z ≤ C.sz n)) : AR C (.rs n ver o len z) (.slice (some ⟨b, o', none⟩) len cap)
  | fs (l : List PV) (a : Option Addr) (h : PR C.rd (.sl l) (.slice a l.length l.length)) : AR C (.fs l) (.slice a l.length l.length)
  | sn : AR C .sn (.slice none 0 0)
  | agg (l : List AV) (vs : List Value) (hl : l.length = vs.length) (h : ∀ (k : Nat) (x : AV) (v : Value), l[k]? = some x → vs[k]? = some v → AR C x v) : AR C (.agg l) (.agg vs.toArray)
  | tup (l : List AV) (vs : List Value) (hl : l.length = vs.length) (h : ∀ (k : Nat) (x : AV) (v : Value), l[k]? = some x → vs[k]? = some v → AR C x v) : AR C (.tup l) (.tuple vs.toArray)
  | fn (f : Fn) (a c : List AV) (va vc : List Value) (hla : a.length = va.length) (hlc : c.length = vc.length)
      (ha : ∀ (k : Nat) (x : AV) (v : Value), a[k]? = some x → va[k]? = some v → AR C x v)
      (hc : ∀ (k : Nat) (x : AV) (v : Value), c[k]? = some x → vc[k]? = some v → AR C x v) : AR C (.fn f a c) (.func f va.toArray vc.toArray)
  | u (w : Value) : AR C .u w

/-- The context has gone on. -/
structure Cx.Le (C D : Cx) : Prop where
  rd : ∀ b o v, C.rd b o = some v → D.rd b o = some v
  al : ∀ n, C.al n → D.al n
  cur : ∀ n, C.al n → ∀ d, D.cur n = some d → ∃ c, C.cur n = some c ∧ c ≤ d ∧ (c = d → D.mu n = C.mu n ∧ D.sz n = C.sz n)

theorem Cx.Le.refl (C : Cx) : C.Le C := ⟨fun _ _ _ h => h, fun _ h => h, fun _ _ d h => ⟨d, h, Nat.le_refl _, fun _ => ⟨rfl, rfl⟩⟩⟩

theorem Cx.Le.trans {C D E : Cx} (h : C.Le D) (k : D.Le E) : C.Le E := by
  refine ⟨fun b o v hv => k.rd _ _ _ (h.rd _ _ _ hv), fun n hn => k.al _ (h.al _ hn), fun n hn e he => ?_⟩
  obtain ⟨d, hd, hde, hd'⟩ := k.cur n (h.al n hn) e he
  obtain ⟨c, hc, hcd, hc'⟩ := h.cur n hn d hd
  refine ⟨c, hc, Nat.le_trans hcd hde, fun heq => ?_⟩
  have h1 : c = d := by omega
  have h2 : d = e := by omega
  obtain ⟨m1, s1⟩ := hc' h1
  obtain ⟨m2, s2⟩ := hd' h2
  exact ⟨m2.trans m1, s2.trans s1⟩

theorem AR.mono {C D : Cx} (hle : C.Le D) {x : AV} {w : Value} (h : AR C x w) : AR D x w := by
  induction h with
  | v h => exact .v (h.mono hle.rd)
  | p n ver o b ha h =>
    refine .p n ver o b (hle.al _ ha) fun d hd => ?_
    obtain ⟨c, hc, hcd, hm⟩ := hle.cur n ha d hd
    obtain ⟨h1, h2⟩ := h c hc
    refine ⟨by omega, fun hv => ?_⟩
    obtain ⟨hmu, -⟩ := hm (by omega)
    rw [hmu]; exact h2 (by omega)
  | pp x o vs bk of h1 hl hr h => exact .pp x o vs bk of h1 hl (fun k v hv => hle.rd _ _ _ (hr k v hv)) (fun k y v hy hv => (h k y v hy hv).mono hle.rd)
  | rs n ver o len z b o' cap ha hc ho h =>
    refine .rs n ver o len z b o' cap (hle.al _ ha) hc ho fun d hd => ?_
    obtain ⟨c, hc, hcd, hm⟩ := hle.cur n ha d hd
    obtain ⟨h1, h2⟩ := h c hc
    refine ⟨by omega, fun hv => ?_⟩
    obtain ⟨hmu, hsz⟩ := hm (by omega)
    rw [hmu, hsz]; exact h2 (by omega)
  | fs l a h => exact .fs l a (h.mono hle.rd)
  | sn => exact .sn
  | agg l vs hl _ ih => exact .agg l vs hl ih
  | tup l vs hl _ ih => exact .tup l vs hl ih
  | fn f a c va vc hla hlc _ _ iha ihc => exact .fn f a c va vc hla hlc iha ihc
  | u w => exact .u w

/-- An own object: its version, its cells, whether the block may be longer than them, and its type where it is known. -/
structure AObj where
  ver : Nat
  cells : List AV
  gr : Bool
  el : Option TypeId

/-- The heap of own objects against the world. 'wr': the blocks that the call may write. -/
structure HR (C : Cx) (hf : Nat → Option AObj) (wr : Nat → Prop) (w : World) : Prop where
  rdw : ∀ b o v, C.rd b o = some v → w.cell? ⟨b, o, none⟩ = some v
  live : ∀ n ob, hf n = some ob → C.al n ∧ C.cur n = some ob.ver
  dead : ∀ n, hf n = none → C.cur n = none
  sep : ∀ n ob, hf n = some ob → ∀ k, C.rd (C.mu n) k = none
  inj : ∀ n m ob oc, hf n = some ob → hf m = some oc → C.mu n = C.mu m → n = m
  wr : ∀ n ob, hf n = some ob → wr (C.mu n)
  obj : ∀ n ob, hf n = some ob → ∃ cs el, w.heap[C.mu n]? = some (.cells cs el (0, 0)) ∧ cs.size = C.sz n ∧ ob.cells.length ≤ cs.size ∧
    (ob.gr = false → ob.cells.length = cs.size) ∧ ∀ (k : Nat) (x : AV) (v : Value), ob.cells[k]? = some x → cs[k]? = some v → AR C x v
  typ : ∀ n ob, hf n = some ob → ∀ t, ob.el = some t → ∃ cs, w.heap[C.mu n]? = some (.cells cs t (0, 0))

end Go.Dom
