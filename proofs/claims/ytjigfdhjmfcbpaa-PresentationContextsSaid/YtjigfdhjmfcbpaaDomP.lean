/-
  CONTRACTS, CALLS, ONE STEP OF A REGION. Own work; generic over the program.
-/
import Derived.Test.YtjigfdhjmfcbpaaDomO
import Derived.Orders
set_option linter.all false
namespace Go.Dom
open Go.RowKit

/-! ## Contracts of pure functions -/

/-- What may be read behind a call: what could be read before it, and all that is new. -/
def extRd (rd : Rd) (w w' : World) : Rd := fun b o => if b < w.heap.size then rd b o else w'.cell? ⟨b, o, none⟩

/-- The call enters 'g'. -/
def Enters (P : Program) (f g : FuncId) : Prop := ∀ (args : Array Value) (w : World), (callFunc f args).run P w = .ok (.enter g args) w

/-- Called with values that stand for 'args' the function returns a value that stands for 'r'; it changes nothing that was there. -/
def EvP (P : Program) (f : FuncId) (args : List PV) (r : PV) : Prop :=
  ∃ g, Enters P f g ∧ ∀ (w : World) (rd : Rd) (vs : List Value), (∀ b o v, rd b o = some v → w.cell? ⟨b, o, none⟩ = some v) → RelL (PR rd) args vs →
    Calls P g vs.toArray w fun e w' => ∃ v, e = .returned v ∧ Below w.heap.size w w' ∧ PR (extRd rd w w') r v

/-! ## The environment of a walk -/

structure Env where
  w0 : World
  rd0 : Rd
  wr : Nat → Prop
  nt : Nat
  C0 : Cx
  df : List Deferred
  lo : ∀ n, C0.al n → n < 1000

/-- The abstract state stands to the frame and the world. -/
def SR (E : Env) (al : Nat → Prop) (tf : Nat → AV) (hf : Nat → Option AObj) (a : Act) (w : World) : Prop :=
  ∃ C : Cx, (∀ n, C.al n ↔ al n) ∧ HR C hf E.wr w ∧ (∀ b, b < E.w0.heap.size → C.rd b = E.rd0 b) ∧ (Wf E.wr E.w0 w ∧ E.C0.Le C ∧ ∀ n ob, hf n = some ob → (E.C0.al n ∧ C.mu n = E.C0.mu n) ∨ E.w0.heap.size ≤ C.mu n) ∧ a.defers = E.df ∧ a.tmps.size = E.nt ∧ ∀ k, AR C (tf k) (a.tmps.getD k undef)

def putF (tf : Nat → AV) (d : Option Nat) (v : AV) : Nat → AV :=
  match d with
  | some d => fun k => if k = d then v else tf k
  | none => tf

/-- The guard of an operation. -/
def gdF (g : Option (Nat × Bool)) (tf : Nat → AV) : Option Bool :=
  match g with
  | none => some true
  | some (t, want) => match tf t with
    | .v (.b x) => some (x == want)
    | .v (.tup []) => some false
    | _ => none

/-- Is the value a function without captured values? -/
def fnOf : AV → Option FuncId
  | .v (.fn (.func f)) => some f
  | _ => none

def pvArgs (l : List AV) : Option (List PV) :=
  mapO (fun x => match x with
    | .agg l => if l.all AV.one then (mapO AV.pv1 l).map .agg else none
    | x => x.pv1) l

/-- Called with values that stand for 'avs', where the own objects 'hs' are among those there are, the function returns what stands for 'v', and the own objects are changed as 'up' says. -/
def EvA (P : Program) (f : FuncId) (nm : Nat) (hs : List (Nat × AObj)) (avs : List AV) (v : AV) (up : List (Nat × Option AObj)) : Prop :=
  ∃ g, Enters P f g ∧ ∀ (C : Cx) (hf : Nat → Option AObj) (wr : Nat → Prop) (w : World) (base : Nat) (vs : List Value), HR C hf wr w → (∀ b, base ≤ b → wr b) → base ≤ w.heap.size → (∀ p ∈ hs, hf p.1 = some p.2) → ¬ C.al nm → RelL (AR C) avs vs →
    Calls P g vs.toArray w fun e w' => ∃ val C', e = .returned val ∧ AR C' v val ∧ HR C' (updF hf up) wr w' ∧ C.Le C' ∧ (∀ n, C'.al n ↔ C.al n ∨ n = nm) ∧ Wf wr w w' ∧ (∀ b, b < base → C'.rd b = C.rd b) ∧ Stay base C C' hf (updF hf up)

/-- A function of the model's that returns its one argument. -/
def EvS (P : Program) (f : FuncId) : Prop := ∀ (v : Value) (w : World), (callFunc f #[v]).run P w = .ok (.value v) w

/-- What a call comes to. -/
inductive ACall (P : Program) (nm : Nat) (hf : Nat → Option AObj) (fv : AV) (avs : List AV) : AO → Prop where
  | pure (f : FuncId) (pvs : List PV) (r : PV) (hfv : fnOf fv = some f) (hargs : pvArgs avs = some pvs) (he : EvP P f pvs r) : ACall P nm hf fv avs ⟨.v r, True, [], []⟩
  | view (f : FuncId) (pvs : List PV) (r : PV) (hfv : fnOf fv = some f) (hargs : mapO (view hf 9) avs = some pvs) (hr : r.flat = true) (he : EvP P f pvs r) : ACall P nm hf fv avs ⟨.v r, True, avs.flatMap (viewN hf 9), []⟩
  | give (f : FuncId) (pvs : List PV) (r : PV) (hfv : fnOf fv = some f) (hargs : mapO (view hf 9) avs = some pvs) (hlo : ∀ n ∈ avs.flatMap (viewN hf 9), 1000 ≤ n) (he : EvP P f pvs r) : ACall P nm hf fv avs ⟨.v r, True, avs.flatMap (viewN hf 9), (avs.flatMap (viewN hf 9)).map fun n => (n, none)⟩
  | eff (f : FuncId) (hs : List (Nat × AObj)) (v : AV) (up : List (Nat × Option AObj)) (hfv : fnOf fv = some f) (hhs : ∀ p ∈ hs, hf p.1 = some p.2) (he : EvA P f nm hs avs v up) : ACall P nm hf fv avs ⟨v, True, hs.map (·.1), up⟩
  | same (f : FuncId) (v : AV) (hfv : fnOf fv = some f) (hav : avs = [v]) (he : EvS P f) : ACall P nm hf fv avs ⟨v, True, [], []⟩

/-- An operation, a call or not. -/
def OpR (P : Program) (nm : Nat) (o : SO) (tf : Nat → AV) (hf : Nat → Option AObj) (ao : AO) : Prop :=
  match o with
  | .call f args => ACall P nm hf (f.ev tf) (args.map (SX.ev tf)) ao
  | o => aop nm o tf hf = some ao ∧ ao.pre

/-- One step of a region: names read, names written. -/
def FStep (P : Program) (nx k : Nat) (so : SOp) (tf : Nat → AV) (hf : Nat → Option AObj) (tf' : Nat → AV) (hf' : Nat → Option AObj) (rs ws : List Nat) : Prop :=
  (gdF so.g tf = some false ∧ tf' = putF tf so.d (.v (.tup [])) ∧ hf' = hf ∧ rs = [] ∧ ws = []) ∨
  (gdF so.g tf = some true ∧ ∃ ao, OpR P (nx + k) so.o tf hf ao ∧ tf' = putF tf so.d ao.v ∧ hf' = updF hf ao.up ∧ rs = ao.rs ∧ ws = ao.up.map (·.1))

section
variable {P : Program} {E : Env} {al : Nat → Prop} {tf : Nat → AV} {hf : Nat → Option AObj} {a : Act} {w : World}

theorem put_ok {C : Cx} {d : Option Nat} {v : AV} {val : Value} (hd : ∀ k, d = some k → k < a.tmps.size) (h : ∀ k, AR C (tf k) (a.tmps.getD k undef)) (hv : AR C v val) : ∀ k, AR C (putF tf d v k) ((a.put d val).tmps.getD k undef) := by
  intro k
  cases d with
  | none => exact h k
  | some d =>
    have hlt := hd d rfl
    simp only [putF, Act.put]
    by_cases e : k = d
    · subst e
      rw [if_pos rfl]
      simpa [Array.getD_eq_getD_getElem?, hlt] using hv
    · rw [if_neg e]
      have := h k
      simpa [Array.getD_eq_getD_getElem?, Array.getElem?_setIfInBounds_ne (Ne.symm e)] using this

theorem put_size (a : Act) (d : Option Nat) (v : Value) : (a.put d v).tmps.size = a.tmps.size := by cases d <;> simp [Act.put]
theorem put_defers (a : Act) (d : Option Nat) (v : Value) : (a.put d v).defers = a.defers := by cases d <;> rfl

theorem rel_mono {C D : Cx} (hle : C.Le D) (h : ∀ k, AR C (tf k) (a.tmps.getD k undef)) : ∀ k, AR D (tf k) (a.tmps.getD k undef) := fun k => (h k).mono hle

/-- The guard in the model. -/
theorem gd_ok {C : Cx} {ops : Array Oper} {o : Oper} {g : Option (Nat × Bool)} (hg : o.guard.map (fun p => (((ops[p.1]?).bind (·.dst)), p.2)) = g.map fun p => (some p.1, p.2)) (hlt : ∀ p, g = some p → p.1 < a.tmps.size) (h : ∀ k, AR C (tf k) (a.tmps.getD k undef)) {b : Bool} (hb : gdF g tf = some b) :
    Region.wanted o (yielded ops a.tmps) = b := by
  cases g with
  | none =>
    simp only [Option.map_none, Option.map_eq_none_iff] at hg
    simp only [gdF, Option.some.injEq] at hb
    simp [Region.wanted, hg, hb]
  | some p =>
    obtain ⟨t, want⟩ := p
    simp only [Option.map_some, Option.map_eq_some_iff, Prod.mk.injEq] at hg
    obtain ⟨⟨j, want'⟩, hgo, hd, rfl⟩ := hg
    have ht := h t
    have hlt' := hlt _ rfl
    simp only [gdF] at hb
    simp only at hd hlt'
    have hget : a.tmps[t]? = some (a.tmps.getD t undef) := by simp [Array.getD_eq_getD_getElem?, hlt']
    split at hb
    · rename_i x hx
      rw [hx] at ht
      simp only [Option.some.injEq] at hb
      simp only [Region.wanted, hgo, yielded, hd, Option.bind_some, hget, inv_b ht]
      rw [← hb]
      cases x <;> cases want' <;> rfl
    · rename_i hx
      rw [hx] at ht
      simp only [Option.some.injEq] at hb
      have hu : a.tmps.getD t undef = .tuple #[] := by
        generalize a.tmps.getD t undef = u at ht
        cases ht with
        | v ht => cases ht with
          | tup l vs hl _ =>
            have : vs = [] := List.eq_nil_of_length_eq_zero (by simpa using hl.symm)
            subst this; rfl
      simp only [Region.wanted, hgo, yielded, hd, Option.bind_some, hget, hu]
      rw [← hb]; rfl
    · cases hb

theorem pvA_ok {C : Cx} {l : List AV} {ys : List PV} {vs : List Value} (h : RelL (AR C) l vs) (hl : pvArgs l = some ys) : RelL (PR C.rd) ys vs := by
  unfold pvArgs at hl
  obtain ⟨m1, m2⟩ := mapO_some hl
  refine ⟨by rw [← m1]; exact h.1, fun k y v hy hv => ?_⟩
  have hk : k < l.length := by have := (List.getElem?_eq_some_iff.1 hy).1; omega
  have hx : l[k]? = some l[k] := by simp [hk]
  have hxy := m2 k _ y hx hy
  have hxv := h.2 k _ v hx hv
  generalize l[k] = x at hxy hxv
  by_cases hag : ∃ m, x = .agg m
  · obtain ⟨m, rfl⟩ := hag
    simp only at hxy
    split at hxy
    · rename_i hall
      simp only [Option.map_eq_some_iff] at hxy
      obtain ⟨zs, hzs, rfl⟩ := hxy
      cases hxv with
      | agg _ us hl' h' =>
        obtain ⟨p1, p2⟩ := pvs_ok ⟨hl', h'⟩ hzs hall
        exact .agg zs us p2 p1.1 p1.2
    · cases hxy
  · have hxy' : x.pv1 = some y := by
      cases x <;> first | exact hxy | exact absurd ⟨_, rfl⟩ hag
    exact pv1_ok hxv hxy'

/-- Behind a call that changed nothing that was there. -/
def Cx.after (C : Cx) (w w' : World) (nm : Nat) : Cx := { C with rd := extRd C.rd w w', al := fun n => C.al n ∨ n = nm }

theorem Cx.le_after {C : Cx} {wr : Nat → Prop} (h : HR C hf wr w) (w' : World) (nm : Nat) : C.Le (C.after w w' nm) := by
  refine ⟨fun b o v hv => ?_, fun _ h => .inl h, fun _ _ d h => ⟨d, h, Nat.le_refl _, fun _ => ⟨rfl, rfl⟩⟩⟩
  have := cell_lt (h.rdw _ _ _ hv)
  simp [Cx.after, extRd, this, hv]

theorem HR.after {C : Cx} {wr : Nat → Prop} (h : HR C hf wr w) {w' : World} (hb : Below w.heap.size w w') (nm : Nat) : HR (C.after w w' nm) hf wr w' := by
  have hle := Cx.le_after h w' nm
  refine ⟨?_, ?_, h.dead, ?_, h.inj, h.wr, ?_, ?_⟩
  · intro b o v hv
    simp only [Cx.after, extRd] at hv
    split at hv
    · rename_i hlt
      rw [World.cell?_of_block (hb.block b hlt)]; exact h.rdw _ _ _ hv
    · exact hv
  · exact fun n ob hn => ⟨.inl (h.live n ob hn).1, (h.live n ob hn).2⟩
  · intro n ob hn k
    have := h.muLt hn
    simp only [Cx.after, extRd, this, if_true]
    exact h.sep n ob hn k
  · intro n ob hn
    obtain ⟨cs, el, h1, h2, h3, h4, h5⟩ := h.obj n ob hn
    exact ⟨cs, el, (hb.block _ (h.muLt hn)).trans h1, h2, h3, h4, fun k x v hx hv => (h5 k x v hx hv).mono hle⟩
  · intro n ob hn t ht
    obtain ⟨cs, h1⟩ := h.typ n ob hn t ht
    exact ⟨cs, (hb.block _ (h.muLt hn)).trans h1⟩

theorem Wf.below {wr : Nat → Prop} {w w' : World} (hb : Below w.heap.size w w') : Wf wr w w' := ⟨hb.os, hb.tape, hb.output, hb.size, fun b hlt _ => hb.block b hlt⟩


/-! ## Views -/

/-- The pure region, and the own objects. -/
def viewRd (C : Cx) (hf : Nat → Option AObj) (w : World) [∀ b, Decidable (∃ n ob, hf n = some ob ∧ C.mu n = b)] : Rd := fun b o => if (∃ n ob, hf n = some ob ∧ C.mu n = b) then w.cell? ⟨b, o, none⟩ else C.rd b o

theorem chunk_len (z n : Nat) (l : List PV) : (chunk z n l).length = n := by
  induction n generalizing l with
  | zero => rfl
  | succ n ih => simp [chunk, ih]

theorem chunk_ok (z : Nat) : ∀ (n : Nat) (l : List PV), l.length = n * z → (∀ c ∈ l, c.one = true) → (chunk z n l).flatMap PV.cells = l ∧ ∀ x ∈ chunk z n l, x.cells.length = z := by
  intro n
  induction n with
  | zero => intro l hl _; simp at hl; subst hl; simp [chunk]
  | succ n ih =>
    intro l hl h1
    have hl' : l.length = n * z + z := by rw [hl, Nat.succ_mul]
    obtain ⟨i1, i2⟩ := ih (l.drop z) (by simp; omega) fun c hc => h1 c (List.mem_of_mem_drop hc)
    have hhead : ∀ x, x = (if z = 1 then (l.headD .fn0) else .agg (l.take z)) → x.cells = l.take z ∧ x.cells.length = z := by
      intro x hx
      by_cases hz : z = 1
      · rw [if_pos hz] at hx
        subst hz
        cases l with
        | nil => simp at hl'
        | cons c l =>
          have hx : x = c := hx
          rw [hx]
          have hc : c.one = true := h1 c (by simp)
          have : c.cells = [c] := by cases c <;> first | rfl | (simp [PV.one] at hc)
          simp [this]
      · rw [if_neg hz] at hx
        subst hx
        refine ⟨rfl, ?_⟩
        show (l.take z).length = z
        simp; omega
    obtain ⟨e1, e2⟩ := hhead _ rfl
    simp only [chunk, List.flatMap_cons]
    rw [i1, e1]
    refine ⟨List.take_append_drop _ _, fun x hx => ?_⟩
    rcases List.mem_cons.1 hx with rfl | hx
    · exact e2
    · exact i2 x hx

theorem view_one {fu : Nat} {x : AV} {y : PV} (hx : view hf fu x = some y) (h1 : x.one = true) : y.one = true := by
  cases fu with
  | zero => simp [view] at hx
  | succ fu =>
    cases x <;> simp only [view, AV.one, Bool.false_eq_true, Option.some.injEq, reduceCtorEq] at hx h1
    case v => subst hx; exact h1
    case fs => subst hx; rfl
    case sn => subst hx; rfl
    case rs n ver o len z =>
      split at hx
      · split at hx
        · simp only [Option.map_eq_some_iff] at hx
          obtain ⟨cs, -, rfl⟩ := hx; rfl
        · cases hx
      · cases hx
    case fn f b c =>
      cases b <;> cases c <;> simp only [view, Option.some.injEq, reduceCtorEq] at hx
      subst hx; rfl

theorem view_ok {C : Cx} {wr : Nat → Prop} (h : HR C hf wr w) [∀ b, Decidable (∃ n ob, hf n = some ob ∧ C.mu n = b)] : ∀ (fu : Nat) (x : AV) (y : PV) (v : Value), AR C x v → view hf fu x = some y → PR (viewRd C hf w) y v := by
  have hle : ∀ b o v, C.rd b o = some v → viewRd C hf w b o = some v := by
    intro b o v hv
    unfold viewRd
    split
    · exact h.rdw _ _ _ hv
    · exact hv
  intro fu
  induction fu with
  | zero => intro x y v _ hx; simp [view] at hx
  | succ fu ih =>
    have ihL : ∀ (l : List AV) (ys : List PV) (vs : List Value), RelL (AR C) l vs → mapO (view hf fu) l = some ys → RelL (PR (viewRd C hf w)) ys vs := by
      intro l ys vs hr hl
      obtain ⟨m1, m2⟩ := mapO_some hl
      refine ⟨by rw [← m1]; exact hr.1, fun k y v hy hv => ?_⟩
      have hk : k < l.length := by have := (List.getElem?_eq_some_iff.1 hy).1; omega
      exact ih l[k] y v (hr.2 k _ v (by simp [hk]) hv) (m2 k _ y (by simp [hk]) hy)
    have ihOne : ∀ (l : List AV) (ys : List PV), mapO (view hf fu) l = some ys → l.all AV.one = true → ∀ y ∈ ys, y.one = true := by
      intro l ys hl h1 y hy
      obtain ⟨m1, m2⟩ := mapO_some hl
      obtain ⟨k, hk, rfl⟩ := List.getElem_of_mem hy
      have hk' : k < l.length := by omega
      rw [List.all_eq_true] at h1
      exact view_one (m2 k l[k] ys[k] (by simp [hk']) (by simp [hk])) (h1 _ (List.getElem_mem hk'))
    intro x y v hxv hx
    cases hxv with
    | v hp => simp only [view, Option.some.injEq] at hx; subst hx; exact hp.mono hle
    | fs l q hp => simp only [view, Option.some.injEq] at hx; subst hx; exact hp.mono hle
    | sn => simp only [view, Option.some.injEq] at hx; subst hx; exact .sl0
    | p => simp [view] at hx
    | pp => simp [view] at hx
    | u => simp [view] at hx
    | agg l vs hl hr =>
      simp only [view] at hx
      split at hx
      · rename_i hall
        simp only [Option.map_eq_some_iff] at hx
        obtain ⟨ys, hys, rfl⟩ := hx
        have := ihL l ys vs ⟨hl, hr⟩ hys
        exact .agg ys vs (ihOne l ys hys hall) this.1 this.2
      · cases hx
    | tup l vs hl hr =>
      simp only [view, Option.map_eq_some_iff] at hx
      obtain ⟨ys, hys, rfl⟩ := hx
      have := ihL l ys vs ⟨hl, hr⟩ hys
      exact .tup ys vs this.1 this.2
    | fn f b c va vc hla hlc ha hc =>
      cases b with
      | cons => simp [view] at hx
      | nil =>
        cases c with
        | cons => simp [view] at hx
        | nil =>
          simp only [view, Option.some.injEq] at hx; subst hx
          have e1 : va = [] := List.eq_nil_of_length_eq_zero (by simpa using hla.symm)
          have e2 : vc = [] := List.eq_nil_of_length_eq_zero (by simpa using hlc.symm)
          subst e1; subst e2
          exact .fn f
    | rs n ver o len z b o' cap hal hcap ho hcur =>
      simp only [view] at hx
      split at hx
      · rename_i ob hn
        split at hx
        · rename_i hcond
          obtain ⟨hver, hlen, hall⟩ := hcond
          simp only [Option.map_eq_some_iff] at hx
          obtain ⟨cs, hcs, rfl⟩ := hx
          obtain ⟨-, hc2⟩ := hcur _ (h.live n ob hn).2
          obtain ⟨rfl, -⟩ := hc2 hver.symm
          obtain ⟨ws, el, g1, g2, g3, g4, g5⟩ := h.obj n ob hn
          have hr : RelL (AR C) ob.cells (ws.toList.take ob.cells.length) := by
            refine ⟨by simp; omega, fun k x v hx hv => g5 k x v hx ?_⟩
            rw [List.getElem?_take] at hv
            split at hv
            · simpa using hv
            · cases hv
          have hr2 := (hr.drop o).take (len * z)
          have hrp := ihL _ cs _ hr2 hcs
          have hone := ihOne _ cs hcs hall
          have hcl : cs.length = len * z := by
            rw [hrp.1]; simp; omega
          obtain ⟨k1, k2⟩ := chunk_ok z len cs hcl hone
          have hchl := chunk_len z len cs
          by_cases hl0 : len = 0
          · subst hl0
            have e : chunk z 0 cs = [] := rfl
            rw [e]
            exact .sl [] 0 [] (C.mu n) o' cap (by simp) (by simp) (by simp) (by simp) (by simp) (by simp)
          · have ho' : o' = o := by rcases ho with ho | ho <;> omega
            subst ho'
            have := PR.sl (rd := viewRd C hf w) (chunk z len cs) z (((ws.toList.take ob.cells.length).drop o').take (len * z)) (C.mu n) o' cap (by rw [hchl]; exact hcap) k2 (by rw [k1]; exact hone) (by rw [k1]; exact hrp.1)
              (by
                intro k v hv
                have hex : ∃ m oc, hf m = some oc ∧ C.mu m = C.mu n := ⟨n, ob, hn, rfl⟩
                simp only [viewRd, hex, if_true]
                rw [cell_of_heap g1]
                rw [List.getElem?_take] at hv
                split at hv
                · rw [List.getElem?_drop, List.getElem?_take] at hv
                  split at hv
                  · simpa using hv
                  · cases hv
                · cases hv)
              (by rw [k1]; exact hrp.2)
            rw [hchl] at this
            exact this
        · cases hx
      · cases hx

theorem PR.flat_any {rd rd' : Rd} {x : PV} {v : Value} (h : PR rd x v) : x.flat = true → PR rd' x v := by
  have hall : ∀ (l : List PV), PV.flat.flatL l = true → ∀ (k : Nat) (y : PV), l[k]? = some y → y.flat = true := by
    intro l
    induction l with
    | nil => intro _ k y hy; simp at hy
    | cons x l ih =>
      intro hl k y hy
      simp only [PV.flat.flatL, Bool.and_eq_true] at hl
      cases k with
      | zero => simp at hy; subst hy; exact hl.1
      | succ k => exact ih hl.2 k y (by simpa using hy)
  induction h with
  | b x => intro _; exact .b x
  | i k n => intro _; exact .i k n
  | s x => intro _; exact .s x
  | agg l vs h1 hl _ ih => intro hf; exact .agg l vs h1 hl fun k x v hx hv => ih k x v hx hv (hall l hf k x hx)
  | tup l vs hl _ ih => intro hf; exact .tup l vs hl fun k x v hx hv => ih k x v hx hv (hall l hf k x hx)
  | sl0 => intro hf; simp [PV.flat] at hf
  | sl => intro hf; simp [PV.flat] at hf
  | sle => intro hf; simp [PV.flat] at hf
  | fn f => intro _; exact .fn f
  | fn0 => intro _; exact .fn0
  | p0 => intro _; exact .p0
  | if0 => intro _; exact .if0
  | ifc t x v _ ih => intro hf; exact .ifc t x v (ih hf)

end

theorem mapO_congr {α β : Type} {g g' : α → Option β} {l : List α} (h : ∀ x ∈ l, g x = g' x) : mapO g l = mapO g' l := by
  induction l with
  | nil => rfl
  | cons x l ih => simp only [mapO, h x (by simp), ih fun y hy => h y (by simp [hy])]

theorem flatMap_congr' {α β : Type} {g g' : α → List β} {l : List α} (h : ∀ x ∈ l, g x = g' x) : l.flatMap g = l.flatMap g' := by
  induction l with
  | nil => rfl
  | cons x l ih => simp only [List.flatMap_cons, h x (by simp), ih fun y hy => h y (by simp [hy])]

theorem view_hf {hf hf' : Nat → Option AObj} : ∀ (f : Nat) (x : AV), (∀ n ∈ viewN hf f x, hf' n = hf n) → view hf' f x = view hf f x ∧ viewN hf' f x = viewN hf f x := by
  intro f
  induction f with
  | zero => intro x _; cases x <;> exact ⟨rfl, rfl⟩
  | succ f ih =>
    intro x h
    cases x
    case agg l =>
      simp only [viewN] at h
      have hl : ∀ x ∈ l, view hf' f x = view hf f x ∧ viewN hf' f x = viewN hf f x := fun x hx => ih x fun n hn => h n (List.mem_flatMap.2 ⟨x, hx, hn⟩)
      simp only [view, viewN]
      rw [mapO_congr fun x hx => (hl x hx).1, flatMap_congr' fun x hx => (hl x hx).2]
      exact ⟨rfl, rfl⟩
    case tup l =>
      simp only [viewN] at h
      have hl : ∀ x ∈ l, view hf' f x = view hf f x ∧ viewN hf' f x = viewN hf f x := fun x hx => ih x fun n hn => h n (List.mem_flatMap.2 ⟨x, hx, hn⟩)
      simp only [view, viewN]
      rw [mapO_congr fun x hx => (hl x hx).1, flatMap_congr' fun x hx => (hl x hx).2]
      exact ⟨rfl, rfl⟩
    case rs n ver o len z =>
      simp only [viewN] at h
      have h0 : hf' n = hf n := h n (by simp)
      simp only [view, viewN, h0]
      cases hn : hf n with
      | none => exact ⟨rfl, rfl⟩
      | some ob =>
        simp only [hn] at h
        have hl : ∀ x ∈ (ob.cells.drop o).take (len * z), view hf' f x = view hf f x ∧ viewN hf' f x = viewN hf f x := fun x hx => ih x fun n hn => h n (List.mem_cons_of_mem _ (List.mem_flatMap.2 ⟨x, hx, hn⟩))
        simp only
        rw [mapO_congr fun x hx => (hl x hx).1, flatMap_congr' fun x hx => (hl x hx).2]
        exact ⟨rfl, rfl⟩
    case fn g b c => cases b <;> cases c <;> exact ⟨rfl, rfl⟩
    all_goals exact ⟨rfl, rfl⟩


/-- The context with some names alone. -/
def Cx.only (C : Cx) (ns : List Nat) : Cx := { C with cur := fun n => if n ∈ ns then C.cur n else none }
def onlyF (hf : Nat → Option AObj) (ns : List Nat) : Nat → Option AObj := fun n => if n ∈ ns then hf n else none

theorem Cx.le_only (C : Cx) (ns : List Nat) : C.Le (C.only ns) := by
  refine ⟨fun _ _ _ h => h, fun _ h => h, fun n _ d h => ?_⟩
  simp only [Cx.only] at h
  split at h
  · exact ⟨d, h, Nat.le_refl _, fun _ => ⟨rfl, rfl⟩⟩
  · cases h

theorem HR.only {C : Cx} {hf : Nat → Option AObj} {wr : Nat → Prop} {w : World} (h : HR C hf wr w) (ns : List Nat) : HR (C.only ns) (onlyF hf ns) wr w := by
  have key : ∀ n ob, onlyF hf ns n = some ob → n ∈ ns ∧ hf n = some ob := by
    intro n ob hn
    simp only [onlyF] at hn
    split at hn
    · rename_i hm; exact ⟨hm, hn⟩
    · cases hn
  refine ⟨h.rdw, ?_, ?_, ?_, ?_, ?_, ?_, ?_⟩
  · intro n ob hn
    obtain ⟨hm, hn⟩ := key n ob hn
    obtain ⟨h1, h2⟩ := h.live n ob hn
    exact ⟨h1, by simp only [Cx.only, hm, if_true]; exact h2⟩
  · intro n hn
    simp only [Cx.only]
    split
    · rename_i hm
      simp only [onlyF, hm, if_true] at hn
      exact h.dead n hn
    · rfl
  · intro n ob hn k; exact h.sep n ob (key n ob hn).2 k
  · intro n m ob oc hn hm he; exact h.inj n m ob oc (key n ob hn).2 (key m oc hm).2 he
  · intro n ob hn; exact h.wr n ob (key n ob hn).2
  · intro n ob hn
    obtain ⟨cs, el, h1, h2, h3, h4, h5⟩ := h.obj n ob (key n ob hn).2
    exact ⟨cs, el, h1, h2, h3, h4, fun k x v hx hv => (h5 k x v hx hv).mono (C.le_only ns)⟩
  · intro n ob hn t ht; exact h.typ n ob (key n ob hn).2 t ht

theorem updF_give (ns : List Nat) : ∀ (hf : Nat → Option AObj) (n : Nat), updF hf (ns.map fun n => (n, none)) n = if n ∈ ns then none else hf n := by
  induction ns with
  | nil => intro hf n; simp
  | cons m ns ih =>
    intro hf n
    simp only [List.map_cons, updF, ih, List.mem_cons]
    by_cases h1 : n ∈ ns
    · simp [h1]
    · by_cases h2 : n = m <;> simp [h1, h2]

/-- The context behind a call that was given objects. -/
def Cx.gave (C : Cx) (rd : Rd) (w w' : World) (ns : List Nat) (nm : Nat) : Cx := { C with rd := extRd rd w w', al := fun n => C.al n ∨ n = nm, cur := fun n => if n ∈ ns then none else C.cur n }

theorem HR.gave {C : Cx} {hf : Nat → Option AObj} {wr : Nat → Prop} {w w' : World} (h : HR C hf wr w) (hb : Below w.heap.size w w') (ns : List Nat) (nm : Nat) [∀ b, Decidable (∃ n ob, onlyF hf ns n = some ob ∧ (C.only ns).mu n = b)] :
    C.Le (C.gave (viewRd (C.only ns) (onlyF hf ns) w) w w' ns nm) ∧ HR (C.gave (viewRd (C.only ns) (onlyF hf ns) w) w w' ns nm) (updF hf (ns.map fun n => (n, none))) wr w' := by
  have key : ∀ n ob, updF hf (ns.map fun n => (n, none)) n = some ob → n ∉ ns ∧ hf n = some ob := by
    intro n ob hn
    rw [updF_give] at hn
    split at hn
    · cases hn
    · rename_i hm; exact ⟨hm, hn⟩
  have hle : C.Le (C.gave (viewRd (C.only ns) (onlyF hf ns) w) w w' ns nm) := by
    refine ⟨fun b o v hv => ?_, fun _ h => .inl h, fun n _ d hd => ?_⟩
    · have hlt := cell_lt (h.rdw _ _ _ hv)
      simp only [Cx.gave, extRd, hlt, if_true, viewRd]
      split
      · exact h.rdw _ _ _ hv
      · exact hv
    · simp only [Cx.gave] at hd
      split at hd
      · cases hd
      · exact ⟨d, hd, Nat.le_refl _, fun _ => ⟨rfl, rfl⟩⟩
  refine ⟨hle, ?_, ?_, ?_, ?_, ?_, ?_, ?_, ?_⟩
  · intro b o v hv
    simp only [Cx.gave, extRd] at hv
    split at hv
    · rename_i hlt
      rw [World.cell?_of_block (hb.block b hlt)]
      simp only [viewRd] at hv
      split at hv
      · exact hv
      · exact h.rdw _ _ _ hv
    · exact hv
  · intro n ob hn
    obtain ⟨hm, hn⟩ := key n ob hn
    obtain ⟨h1, h2⟩ := h.live n ob hn
    exact ⟨.inl h1, by simp only [Cx.gave, hm, if_false]; exact h2⟩
  · intro n hn
    simp only [Cx.gave]
    split
    · rfl
    · rename_i hm
      rw [updF_give, if_neg hm] at hn
      exact h.dead n hn
  · intro n ob hn k
    obtain ⟨hm, hn⟩ := key n ob hn
    have hlt := h.muLt hn
    show extRd (viewRd (C.only ns) (onlyF hf ns) w) w w' (C.mu n) k = none
    simp only [extRd, hlt, if_true, viewRd]
    split
    · rename_i hex
      obtain ⟨m, oc, hmm, hmu⟩ := hex
      exfalso
      simp only [onlyF] at hmm
      split at hmm
      · rename_i hmem
        have : m = n := h.inj m n oc ob hmm hn hmu
        subst this
        exact hm hmem
      · cases hmm
    · exact h.sep n ob hn k
  · intro n m ob oc hn hm he; exact h.inj n m ob oc (key n ob hn).2 (key m oc hm).2 he
  · intro n ob hn; exact h.wr n ob (key n ob hn).2
  · intro n ob hn
    have hn := (key n ob hn).2
    obtain ⟨cs, el, h1, h2, h3, h4, h5⟩ := h.obj n ob hn
    exact ⟨cs, el, (hb.block _ (h.muLt hn)).trans h1, h2, h3, h4, fun k x v hx hv => (h5 k x v hx hv).mono hle⟩
  · intro n ob hn t ht
    have hn := (key n ob hn).2
    obtain ⟨cs, h1⟩ := h.typ n ob hn t ht
    exact ⟨cs, (hb.block _ (h.muLt hn)).trans h1⟩

end Go.Dom
