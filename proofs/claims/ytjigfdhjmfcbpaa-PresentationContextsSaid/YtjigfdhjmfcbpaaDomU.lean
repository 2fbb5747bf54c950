/-
  THE LOGIC: abstract states, the weakest precondition of code, and that it is right. Own work; generic over the program.
-/
import Derived.Test.YtjigfdhjmfcbpaaDomT
set_option linter.all false
namespace Go.Dom
open Go.RowKit

/-! ## Abstract states -/

def tget : List (Nat × AV) → Nat → AV
  | [], _ => .u
  | (j, v) :: r, k => if k = j then v else tget r k

def tdel : List (Nat × AV) → Nat → List (Nat × AV)
  | [], _ => []
  | (j, v) :: r, k => if j = k then tdel r k else (j, v) :: tdel r k

def tput (t : List (Nat × AV)) (d : Option Nat) (v : AV) : List (Nat × AV) :=
  match d with
  | some d => (d, v) :: tdel t d
  | none => t

def hget : List (Nat × AObj) → Nat → Option AObj
  | [], _ => none
  | (j, v) :: r, k => if k = j then some v else hget r k

def hdel : List (Nat × AObj) → Nat → List (Nat × AObj)
  | [], _ => []
  | (j, v) :: r, k => if j = k then hdel r k else (j, v) :: hdel r k

def hput (h : List (Nat × AObj)) (n : Nat) (o : Option AObj) : List (Nat × AObj) :=
  match o with
  | some o => (n, o) :: hdel h n
  | none => hdel h n

def hputs (h : List (Nat × AObj)) : List (Nat × Option AObj) → List (Nat × AObj)
  | [] => h
  | (n, o) :: r => hputs (hput h n o) r

theorem tget_tdel (t : List (Nat × AV)) (d k : Nat) : tget (tdel t d) k = if k = d then .u else tget t k := by
  induction t with
  | nil => simp [tdel, tget]
  | cons p t ih =>
    obtain ⟨j, v⟩ := p
    simp only [tdel, tget]
    by_cases h1 : j = d
    · subst h1
      rw [if_pos rfl, ih]
      by_cases h2 : k = j <;> simp [h2]
    · rw [if_neg h1, tget, ih]
      by_cases h2 : k = j
      · subst h2; simp [h1]
      · simp [h2]

theorem tget_tput (t : List (Nat × AV)) (d : Option Nat) (v : AV) : tget (tput t d v) = putF (tget t) d v := by
  cases d with
  | none => rfl
  | some d =>
    funext k
    simp only [tput, tget, putF, tget_tdel]
    by_cases h : k = d <;> simp [h]

theorem hget_hdel (h : List (Nat × AObj)) (d k : Nat) : hget (hdel h d) k = if k = d then none else hget h k := by
  induction h with
  | nil => simp [hdel, hget]
  | cons p h ih =>
    obtain ⟨j, v⟩ := p
    simp only [hdel, hget]
    by_cases h1 : j = d
    · subst h1
      rw [if_pos rfl, ih]
      by_cases h2 : k = j <;> simp [h2]
    · rw [if_neg h1, hget, ih]
      by_cases h2 : k = j
      · subst h2; simp [h1]
      · simp [h2]

theorem hget_hput (h : List (Nat × AObj)) (n : Nat) (o : Option AObj) : hget (hput h n o) = fun k => if k = n then o else hget h k := by
  funext k
  cases o with
  | none => simp only [hput, hget_hdel]
  | some o =>
    simp only [hput, hget, hget_hdel]
    by_cases h : k = n <;> simp [h]

theorem hget_hputs (u : List (Nat × Option AObj)) : ∀ (h : List (Nat × AObj)), hget (hputs h u) = updF (hget h) u := by
  induction u with
  | nil => intro h; rfl
  | cons p u ih =>
    obtain ⟨n, o⟩ := p
    intro h
    simp only [hputs, updF, ih, hget_hput]

structure AS where
  t : List (Nat × AV)
  h : List (Nat × AObj)
  nx : Nat

def AS.upd (s : AS) (d : Option Nat) (v : AV) (up : List (Nat × Option AObj)) : AS := ⟨tput s.t d v, hputs s.h up, s.nx⟩

/-! ## Regions -/

/-- What an operation comes to, and on. -/
def optW (x : Option AO) (K : AO → Prop) : Prop :=
  match x with
  | some ao => ao.pre ∧ K ao
  | none => False
theorem optW_some (v : AV) (p : Prop) (rs : List Nat) (up : List (Nat × Option AObj)) (K : AO → Prop) : optW (some ⟨v, p, rs, up⟩) K = (p ∧ K ⟨v, p, rs, up⟩) := rfl
theorem optW_none (K : AO → Prop) : optW none K = False := rfl

/-- A call, and on. -/
def CallW (P : Program) (nm : Nat) (h : List (Nat × AObj)) (fv : AV) (avs : List AV) (K : AO → Prop) : Prop := ∃ ao, ACall P nm (hget h) fv avs ao ∧ K ao

/-- One operation that is wanted. -/
def awOp (P : Program) (nm : Nat) (o : SO) (s : AS) (K : AO → Prop) : Prop :=
  match o with
  | .call f args => CallW P nm s.h (f.ev (tget s.t)) (args.map (SX.ev (tget s.t))) K
  | o => optW (aop nm o (tget s.t) (hget s.h)) K

def AS.set (s : AS) (t : Nat) (v : AV) : AS := ⟨tput s.t (some t) v, s.h, s.nx⟩

/-- Two ways by a bool. -/
def bcase (x : Bool) (a b : Prop) : Prop := (x = true → a) ∧ (x = false → b)
theorem bcase_true (a b : Prop) : bcase true a b = a := by simp [bcase]
theorem bcase_false (a b : Prop) : bcase false a b = b := by simp [bcase]
theorem bcase_mk {x : Bool} {a b : Prop} (h1 : x = true → a) (h2 : x = false → b) : bcase x a b := ⟨h1, h2⟩

/-- The value of a guard, and on; behind it its slot is known. -/
def gdW (v : AV) (t : Nat) (want : Bool) (s : AS) (yes no : AS → Prop) : Prop :=
  match v with
  | .v (.b x) => bcase x ((match want with | true => yes | false => no) (s.set t (.v (.b true)))) ((match want with | true => no | false => yes) (s.set t (.v (.b false))))
  | .v (.tup []) => no s
  | _ => False
theorem gdW_yes (t : Nat) (x : Bool) (s : AS) (yes no : AS → Prop) : gdW (.v (.b x)) t true s yes no = bcase x (yes (s.set t (.v (.b true)))) (no (s.set t (.v (.b false)))) := rfl
theorem gdW_no (t : Nat) (x : Bool) (s : AS) (yes no : AS → Prop) : gdW (.v (.b x)) t false s yes no = bcase x (no (s.set t (.v (.b true)))) (yes (s.set t (.v (.b false)))) := rfl
theorem gdW_undef (t : Nat) (want : Bool) (s : AS) (yes no : AS → Prop) : gdW (.v (.tup [])) t want s yes no = no s := rfl

/-- The guard. -/
def awGd (g : Option (Nat × Bool)) (s : AS) (yes no : AS → Prop) : Prop :=
  match g with
  | none => yes s
  | some (t, want) => gdW (tget s.t t) t want s yes no

/-- A region in the order of the text. -/
def awOps (P : Program) (nx : Nat) : List SOp → Nat → AS → (AS → Prop) → Prop
  | [], _, s, K => K s
  | o :: r, k, s, K => awGd o.g s (fun s => awOp P (nx + k) o.o s fun ao => awOps P nx r (k + 1) (s.upd o.d ao.v ao.up) K) (fun s => awOps P nx r (k + 1) (s.upd o.d (.v (.tup [])) []) K)


/-- The same, with what is touched. -/
def awTr (P : Program) (nx : Nat) : List SOp → Nat → AS → List (Nat × List Nat × List Nat) → (AS → List (Nat × List Nat × List Nat) → Prop) → Prop
  | [], _, s, tr, K => K s tr
  | o :: r, k, s, tr, K => awGd o.g s (fun s => awOp P (nx + k) o.o s fun ao => awTr P nx r (k + 1) (s.upd o.d ao.v ao.up) ((k, ao.rs, ao.up.map (·.1)) :: tr) K) (fun s => awTr P nx r (k + 1) (s.upd o.d (.v (.tup [])) []) ((k, [], []) :: tr) K)


/-- Touches that are not ordered do not meet ('tr' in the reverse order of the text). -/
def chk (bf : List Nat) : List (Nat × List Nat × List Nat) → Bool
  | [] => true
  | (j, r, w) :: tr => tr.all (fun (i, r', w') => (w.isEmpty && w'.isEmpty) || (bf.getD j 0).testBit i || apartN r' w' r w) && chk bf tr

/-- Slots that are not ordered do not meet. -/
def stat (bf : List Nat) (sops : List SOp) : Bool :=
  (List.range sops.length).all fun j => (List.range j).all fun i => (bf.getD j 0).testBit i || match sops[i]?, sops[j]? with
    | some x, some y => apartT x y
    | _, _ => false

/-! ## Code -/

inductive AX where
  | normal
  | exit (id : Nat)
  | ret

/-- All names in it are below N. -/
def AV.bd (N : Nat) : AV → Bool
  | .p n _ _ => decide (n < N)
  | .rs n _ _ _ _ => decide (n < N)
  | .agg l => bdL N l
  | .tup l => bdL N l
  | .fn _ a c => bdL N a && bdL N c
  | _ => true
where bdL (N : Nat) : List AV → Bool
  | [] => true
  | x :: r => x.bd N && bdL N r

/-- 's' says less than 's''. -/
structure AS.Le (s s' : AS) : Prop where
  t : ∀ p ∈ s.t, tget s'.t p.1 = p.2
  h : ∀ p ∈ s.h, hget s'.h p.1 = some p.2
  nx : s.nx ≤ s'.nx
  bt : ∀ p ∈ s.t, p.2.bd s.nx = true
  bh : ∀ p ∈ s.h, p.1 < s.nx ∧ ∀ c ∈ p.2.cells, c.bd s.nx = true

/-- A condition, and on. -/
def condW (v : AV) (a b : Prop) : Prop :=
  match v with
  | .v (.b c) => bcase c a b
  | _ => False
theorem condW_b (c : Bool) (a b : Prop) : condW (.v (.b c)) a b = bcase c a b := rfl

/-- A loop. -/
def LoopW (B : (AX → AS → Prop) → AS → Prop) (Q : AX → AS → Prop) (N : Nat) (s : AS) : Prop :=
  ∀ X : AS → Prop, (∀ s1, B (fun e s' => match e with
    | .normal => X s'
    | e => Q e s') s1 → X s1) → (∀ s1 s2 : AS, N ≤ s1.nx → s1.Le s2 → X s1 → X s2) → X s

def aw (P : Program) : SC → (AX → AS → Prop) → AS → Prop
  | .skip, Q, s => Q .normal s
  | .reg none ops, Q, s => awOps P s.nx ops 0 s fun s' => Q .normal { s' with nx := s.nx + ops.length }
  | .reg (some bf) ops, Q, s => awTr P s.nx ops 0 s [] fun s' tr => chk bf tr = true ∧ Q .normal { s' with nx := s.nx + ops.length }
  | .seq a b, Q, s => aw P a (fun e s' => match e with
    | .normal => aw P b Q s'
    | e => Q e s') s
  | .cond x a b, Q, s => condW (x.ev (tget s.t)) (aw P a Q s) (aw P b Q s)
  | .blk id a, Q, s => aw P a (fun e s' => match e with
    | .exit j => if j = id then Q .normal s' else Q (.exit j) s'
    | e => Q e s') s
  | .loop a, Q, s => LoopW (aw P a) Q s.nx s
  | .exit id, Q, s => Q (.exit id) s
  | .ret, Q, s => Q .ret s
  | .stop, _, _ => False


/-! ## The logic goes along -/

theorem optW_mono {x : Option AO} {K K' : AO → Prop} (h : ∀ ao, K ao → K' ao) (hx : optW x K) : optW x K' := by
  unfold optW at hx ⊢
  split
  · exact ⟨hx.1, h _ hx.2⟩
  · exact hx

theorem awOp_mono {P : Program} {nm : Nat} {o : SO} {s : AS} {K K' : AO → Prop} (h : ∀ ao, K ao → K' ao) (hx : awOp P nm o s K) : awOp P nm o s K' := by
  unfold awOp at hx ⊢
  split
  · obtain ⟨ao, h1, h2⟩ := hx
    exact ⟨ao, h1, h _ h2⟩
  · rename_i hne
    cases o <;> first | exact absurd rfl (hne _ _) | exact optW_mono h hx

theorem awGd_mono {g : Option (Nat × Bool)} {s : AS} {y y' n n' : AS → Prop} (hy : ∀ s, y s → y' s) (hn : ∀ s, n s → n' s) (h : awGd g s y n) : awGd g s y' n' := by
  unfold awGd at h ⊢
  split
  · exact hy _ h
  · rename_i t want
    unfold gdW at h ⊢
    simp only at h
    split
    · rename_i x hx
      rw [hx] at h
      refine ⟨fun e => ?_, fun e => ?_⟩
      · have := h.1 e
        cases want
        · exact hn _ this
        · exact hy _ this
      · have := h.2 e
        cases want
        · exact hy _ this
        · exact hn _ this
    · rename_i hx
      rw [hx] at h; exact hn _ h
    · rename_i h1 h2
      split at h
      · rename_i hx; exact absurd hx (h1 _)
      · rename_i hx; exact absurd hx h2
      · exact h

theorem awOps_mono {P : Program} {nx : Nat} {ops : List SOp} : ∀ {k : Nat} {s : AS} {K K' : AS → Prop}, (∀ s, K s → K' s) → awOps P nx ops k s K → awOps P nx ops k s K' := by
  induction ops with
  | nil => intro k s K K' h hx; exact h _ hx
  | cons o r ih =>
    intro k s K K' h hx
    simp only [awOps] at hx ⊢
    exact awGd_mono (fun s hs => awOp_mono (fun ao ha => ih h ha) hs) (fun s hs => ih h hs) hx

theorem awTr_mono {P : Program} {nx : Nat} {ops : List SOp} : ∀ {k : Nat} {s : AS} {tr : List (Nat × List Nat × List Nat)} {K K' : AS → List (Nat × List Nat × List Nat) → Prop}, (∀ s t, K s t → K' s t) → awTr P nx ops k s tr K → awTr P nx ops k s tr K' := by
  induction ops with
  | nil => intro k s tr K K' h hx; exact h _ _ hx
  | cons o r ih =>
    intro k s tr K K' h hx
    simp only [awTr] at hx ⊢
    exact awGd_mono (fun s hs => awOp_mono (fun ao ha => ih h ha) hs) (fun s hs => ih h hs) hx

theorem aw_mono {P : Program} {sc : SC} : ∀ {Q Q' : AX → AS → Prop} {s : AS}, (∀ e s, Q e s → Q' e s) → aw P sc Q s → aw P sc Q' s := by
  induction sc with
  | skip => intro Q Q' s h hx; exact h _ _ hx
  | reg bf ops =>
    intro Q Q' s h hx
    cases bf with
    | none => exact awOps_mono (fun s hs => h _ _ hs) hx
    | some bf => exact awTr_mono (fun s t hs => ⟨hs.1, h _ _ hs.2⟩) hx
  | seq a b iha ihb =>
    intro Q Q' s h hx
    simp only [aw] at hx ⊢
    refine iha (fun e s hs => ?_) hx
    cases e with
    | normal => exact ihb h hs
    | exit j => exact h _ _ hs
    | ret => exact h _ _ hs
  | cond x a b iha ihb =>
    intro Q Q' s h hx
    simp only [aw] at hx ⊢
    unfold condW at hx ⊢
    split
    · rename_i hb
      rw [hb] at hx
      exact ⟨fun e => iha h (hx.1 e), fun e => ihb h (hx.2 e)⟩
    · rename_i hne
      split at hx
      · rename_i hb; exact absurd hb (hne _)
      · exact hx
  | blk id a iha =>
    intro Q Q' s h hx
    simp only [aw] at hx ⊢
    refine iha (fun e s hs => ?_) hx
    cases e with
    | normal => exact h _ _ hs
    | exit j =>
      simp only at hs ⊢
      split
      · rename_i e; rw [if_pos e] at hs; exact h _ _ hs
      · rename_i e; rw [if_neg e] at hs; exact h _ _ hs
    | ret => exact h _ _ hs
  | loop a iha =>
    intro Q Q' s h hx
    simp only [aw] at hx ⊢
    intro X h1 h2
    refine hx X (fun s1 hB => h1 s1 (iha (fun e s hs => ?_) hB)) h2
    cases e with
    | normal => exact hs
    | exit j => exact h _ _ hs
    | ret => exact h _ _ hs
  | exit id => intro Q Q' s h hx; exact h _ _ hx
  | ret => intro Q Q' s h hx; exact h _ _ hx
  | stop => intro Q Q' s h hx; exact hx

/-- One round of a loop. -/
theorem loop_unroll {P : Program} {a : SC} {Q : AX → AS → Prop} {N : Nat} {s : AS} (h : aw P a (fun e s' => match e with
    | .normal => LoopW (aw P a) Q N s'
    | e => Q e s') s) : LoopW (aw P a) Q N s := by
  intro X h1 h2
  refine h1 s (aw_mono (fun e s' hs => ?_) h)
  cases e with
  | normal => exact hs X h1 h2
  | exit j => exact hs
  | ret => exact hs

/-- A loop may go on with less. -/
theorem loop_weak {B : (AX → AS → Prop) → AS → Prop} {Q : AX → AS → Prop} {N : Nat} {s s' : AS} (hN : N ≤ s'.nx) (hle : s'.Le s) (h : LoopW B Q N s') : LoopW B Q N s :=
  fun X h1 h2 => h2 s' s hN hle (h X h1 h2)

/-- A loop by a number that goes down. -/
theorem loop_down {P : Program} {a : SC} {Q : AX → AS → Prop} {N : Nat} {s : AS} {α : Type} (m : α → Nat) (st : α → AS) (ok : α → Prop) (a0 : α) (hN : ∀ x, N ≤ (st x).nx) (h0 : ok a0) (hle : (st a0).Le s)
    (hr : ∀ x, ok x → aw P a (fun e s' => match e with
      | .normal => ∃ y, ok y ∧ m y < m x ∧ (st y).Le s'
      | e => Q e s') (st x)) : LoopW (aw P a) Q N s := by
  refine loop_weak (hN a0) hle ?_
  have key : ∀ (n : Nat) (x : α), m x = n → ok x → LoopW (aw P a) Q N (st x) := by
    intro n
    induction n using Nat.strongRecOn with
    | _ n ih =>
      intro x hx hok
      refine loop_unroll (aw_mono (fun e s' hs => ?_) (hr x hok))
      cases e with
      | normal =>
        obtain ⟨y, h1, h2, h3⟩ := hs
        exact loop_weak (hN y) h3 (ih (m y) (hx ▸ h2) y rfl h1)
      | exit j => exact hs
      | ret => exact hs
  exact key _ a0 rfl h0

/-! ## The compiler of code -/

def compG (ops : Array Oper) (nt : Nat) : Option (Nat × Bool) → Option (Option (Nat × Bool))
  | none => some none
  | some (j, w) => match (ops[j]?).bind (·.dst) with
    | some t => if t < nt then some (some (t, w)) else none
    | none => none

def dOk (nt : Nat) : Option Nat → Bool
  | some d => decide (d < nt)
  | none => true

def compO (P : Program) (nt : Nat) (ops : Array Oper) (o : Oper) : Option SOp :=
  match compOp P o, compG ops nt o.guard with
  | some so, some g => if dOk nt o.dst then some ⟨o.dst, so, g⟩ else none
  | _, _ => none

def compR (P : Program) (nt : Nat) (ops : Array Oper) (draw : Bool) : Option SC :=
  match mapO (compO P nt ops) ops.toList with
  | some sops => if draw then (if okBf ops (Region.before ops).toList && stat (Region.before ops).toList sops then some (.reg (some (Region.before ops).toList) sops) else none) else some (.reg none sops)
  | none => none

def comp (P : Program) (nt : Nat) : Code → Option SC
  | .skip => some .skip
  | .region _ ops draw => compR P nt ops draw
  | .seq a b => match comp P nt a, comp P nt b with
    | some a, some b => some (.seq a b)
    | _, _ => none
  | .cond c a b => match sx c, comp P nt a, comp P nt b with
    | some c, some a, some b => some (.cond c a b)
    | _, _, _ => none
  | .block id a => match comp P nt a with
    | some a => some (.blk id a)
    | none => none
  | .loop a => match comp P nt a with
    | some a => some (.loop a)
    | none => none
  | .exit id => some (.exit id)
  | .ret => some .ret
  | .refuse _ => some .stop
  | _ => none

end Go.Dom
