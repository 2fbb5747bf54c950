/-
  THE LOGIC AS A MACHINE: what is still to do is data, so that the simplifier goes along without looking into continuations. Own work; generic over the program.
-/
import Derived.Test.YtjigfdhjmfcbpaaDomZ5
import Derived.IntWalk
set_option linter.all false
namespace Go.Dom
open Go.RowKit

/-- What is still to do. -/
inductive Fr where
  | seq (b : SC)
  | blk (id : Nat)
  | lp (R : AS → Prop)

/-- The rest, as a postcondition. -/
def KW (P : Program) (Q : AX → AS → Prop) : List Fr → AX → AS → Prop
  | [], e, s => Q e s
  | .seq b :: K, .normal, s => aw P b (KW P Q K) s
  | .seq _ :: K, .exit j, s => KW P Q K (.exit j) s
  | .seq _ :: K, .ret, s => KW P Q K .ret s
  | .blk _ :: K, .normal, s => KW P Q K .normal s
  | .blk id :: K, .exit j, s => if j = id then KW P Q K .normal s else KW P Q K (.exit j) s
  | .blk _ :: K, .ret, s => KW P Q K .ret s
  | .lp R :: _, .normal, s => R s
  | .lp _ :: K, .exit j, s => KW P Q K (.exit j) s
  | .lp _ :: K, .ret, s => KW P Q K .ret s

section
variable (P : Program) (Q : AX → AS → Prop)

/-- Code, then the rest. -/
def CW (sc : SC) (K : List Fr) (s : AS) : Prop := aw P sc (KW P Q K) s

def chkO (bf : Option (List Nat)) (tr : List (Nat × List Nat × List Nat)) : Prop :=
  match bf with
  | none => True
  | some b => chk b tr = true

def trU (bf : Option (List Nat)) (k : Nat) (rs : List Nat) (up : List (Nat × Option AObj)) (tr : List (Nat × List Nat × List Nat)) : List (Nat × List Nat × List Nat) :=
  match bf with
  | none => []
  | some _ => (k, rs, up.map (·.1)) :: tr

/-- A region, then the rest. -/
def RW (nx : Nat) (bf : Option (List Nat)) (n : Nat) (ops : List SOp) (k : Nat) (s : AS) (tr : List (Nat × List Nat × List Nat)) (K : List Fr) : Prop :=
  match bf with
  | none => awOps P nx ops k s fun s' => KW P Q K .normal { s' with nx := n }
  | some b => awTr P nx ops k s tr fun s' tr => chk b tr = true ∧ KW P Q K .normal { s' with nx := n }

/-- What an operation came to, then the rest. -/
def OW (nx : Nat) (bf : Option (List Nat)) (n : Nat) (x : Option AO) (d : Option Nat) (ops : List SOp) (k : Nat) (s : AS) (tr : List (Nat × List Nat × List Nat)) (K : List Fr) : Prop :=
  optW x fun ao => RW P Q nx bf n ops (k + 1) (s.upd d ao.v ao.up) (trU bf k ao.rs ao.up tr) K

/-- A call, then the rest. -/
def CR (nx : Nat) (bf : Option (List Nat)) (n : Nat) (nm : Nat) (fv : AV) (avs : List AV) (d : Option Nat) (ops : List SOp) (k : Nat) (s : AS) (tr : List (Nat × List Nat × List Nat)) (K : List Fr) : Prop :=
  CallW P nm s.h fv avs fun ao => RW P Q nx bf n ops (k + 1) (s.upd d ao.v ao.up) (trU bf k ao.rs ao.up tr) K

/-- A guard, then the rest. -/
def GR (nx : Nat) (bf : Option (List Nat)) (n : Nat) (v : AV) (t : Nat) (want : Bool) (d : Option Nat) (o : SO) (ops : List SOp) (k : Nat) (s : AS) (tr : List (Nat × List Nat × List Nat)) (K : List Fr) : Prop :=
  gdW v t want s (fun s => RW P Q nx bf n (⟨d, o, none⟩ :: ops) k s tr K) (fun s => RW P Q nx bf n ops (k + 1) (s.upd d (.v (.tup [])) []) (trU bf k [] [] tr) K)

/-- A condition, then the rest. -/
def CC (c : Bool) (a b : SC) (K : List Fr) (s : AS) : Prop := bcase c (CW P Q a K s) (CW P Q b K s)
def CV (v : AV) (a b : SC) (K : List Fr) (s : AS) : Prop := condW v (CW P Q a K s) (CW P Q b K s)
/-- A guard whose bool is known, then the rest. -/
def GB (nx : Nat) (bf : Option (List Nat)) (n : Nat) (x : Bool) (t : Nat) (want : Bool) (d : Option Nat) (o : SO) (ops : List SOp) (k : Nat) (s : AS) (tr : List (Nat × List Nat × List Nat)) (K : List Fr) : Prop :=
  GR P Q nx bf n (.v (.b x)) t want d o ops k s tr K

def LoopR (a : SC) (K : List Fr) (N : Nat) (s : AS) : Prop := LoopW (aw P a) (KW P Q K) N s

variable {P Q}

theorem CW.start {sc : SC} {s : AS} (h : CW P Q sc [] s) : aw P sc Q s := by
  have : KW P Q [] = Q := by funext e s; rfl
  unfold CW at h; rw [this] at h; exact h

theorem EvA.mk' {f : FuncId} {fn : Func} {sc : SC} {rs : List SRes} (hm : P.follows .mixedOrders = true) (hent : Enters P f f) (hfn : P.funcs[f]? = some fn) (hb : fn.body.isSome = true) (hc : comp P fn.ntmps (fn.body.getD .skip) = some sc) (hr : compRes P fn.results.toList = some rs)
    {obs : List AObj} {args : List AV} {fs : List (Option (Option AObj))} {j : Option Nat} {nw : Option AObj} {v : AV} (hlen : args.length ≤ fn.ntmps) (h : CW P (RetA rs obs fs j nw v) sc [] ⟨args.mapIdx (fun i x => (i, x)), obs.mapIdx (fun i x => (i, x)), 1000⟩)
    {ns : List Nat} {nm : Nat} {obsA : List AObj} {avs : List AV} {v' : AV} {up : List (Nat × Option AObj)} (hns : ns.length ≤ 1000) (hnd : ns.Nodup) (hln : ns.length = obsA.length) (hob : mapO (AObj.ren (ixOf ns)) obsA = some obs) (hav : mapO (AV.ren (ixOf ns)) avs = some args)
    (hv : v.ren (bkOf ns nm) = some v') (hup : upsOf ns nm fs nw = some up) : EvA P f nm (ns.zip obsA) avs v' up := by
  obtain ⟨code, hcode⟩ := Option.isSome_iff_exists.1 hb
  rw [hcode] at hc
  exact EvA.of_aw hm hent hfn hcode hc hr hlen (CW.start h) hns hnd hln hob hav hv hup

theorem CW_skip (K : List Fr) (s : AS) : CW P Q .skip K s = KW P Q K .normal s := rfl
theorem CW_seq (a b : SC) (K : List Fr) (s : AS) : CW P Q (.seq a b) K s = CW P Q a (.seq b :: K) s := by
  simp only [CW, aw]
  congr 1
  funext e s'
  cases e <;> rfl
theorem CW_blk (id : Nat) (a : SC) (K : List Fr) (s : AS) : CW P Q (.blk id a) K s = CW P Q a (.blk id :: K) s := by
  simp only [CW, aw]
  congr 1
  funext e s'
  cases e <;> rfl
theorem CW_cond (x : SX) (a b : SC) (K : List Fr) (s : AS) : CW P Q (.cond x a b) K s = CV P Q (x.ev (tget s.t)) a b K s := rfl
theorem CV_b (c : Bool) (a b : SC) (K : List Fr) (s : AS) : CV P Q (.v (.b c)) a b K s = CC P Q c a b K s := rfl
theorem CC_T (a b : SC) (K : List Fr) (s : AS) : CC P Q true a b K s = CW P Q a K s := by simp only [CC, bcase_true]
theorem CC_F (a b : SC) (K : List Fr) (s : AS) : CC P Q false a b K s = CW P Q b K s := by simp only [CC, bcase_false]
theorem CC_b (c : Bool) (a b : SC) (K : List Fr) (s : AS) : CC P Q c a b K s = bcase c (CW P Q a K s) (CW P Q b K s) := rfl
theorem CC.mk {c : Bool} {a b : SC} {K : List Fr} {s : AS} (h1 : c = true → CW P Q a K s) (h2 : c = false → CW P Q b K s) : CC P Q c a b K s := ⟨h1, h2⟩
theorem CW_loop (a : SC) (K : List Fr) (s : AS) : CW P Q (.loop a) K s = LoopR P Q a K s.nx s := rfl
theorem CW_exit (id : Nat) (K : List Fr) (s : AS) : CW P Q (.exit id) K s = KW P Q K (.exit id) s := rfl
theorem CW_ret (K : List Fr) (s : AS) : CW P Q .ret K s = KW P Q K .ret s := rfl
theorem CW_stop (K : List Fr) (s : AS) : CW P Q .stop K s = False := rfl
theorem CW_reg (bf : Option (List Nat)) (ops : List SOp) (K : List Fr) (s : AS) : CW P Q (.reg bf ops) K s = RW P Q s.nx bf (s.nx + ops.length) ops 0 s [] K := by
  cases bf <;> rfl

theorem KW_nil (e : AX) (s : AS) : KW P Q [] e s = Q e s := rfl
theorem KW_seqN (b : SC) (K : List Fr) (s : AS) : KW P Q (.seq b :: K) .normal s = CW P Q b K s := rfl
theorem KW_seqE (b : SC) (K : List Fr) (j : Nat) (s : AS) : KW P Q (.seq b :: K) (.exit j) s = KW P Q K (.exit j) s := rfl
theorem KW_seqR (b : SC) (K : List Fr) (s : AS) : KW P Q (.seq b :: K) .ret s = KW P Q K .ret s := rfl
theorem KW_blkN (i : Nat) (K : List Fr) (s : AS) : KW P Q (.blk i :: K) .normal s = KW P Q K .normal s := rfl
theorem KW_blkE (i : Nat) (K : List Fr) (j : Nat) (s : AS) : KW P Q (.blk i :: K) (.exit j) s = if j = i then KW P Q K .normal s else KW P Q K (.exit j) s := rfl
theorem KW_blkR (i : Nat) (K : List Fr) (s : AS) : KW P Q (.blk i :: K) .ret s = KW P Q K .ret s := rfl
theorem KW_lpN (R : AS → Prop) (K : List Fr) (s : AS) : KW P Q (.lp R :: K) .normal s = R s := rfl
theorem KW_lpE (R : AS → Prop) (K : List Fr) (j : Nat) (s : AS) : KW P Q (.lp R :: K) (.exit j) s = KW P Q K (.exit j) s := rfl
theorem KW_lpR (R : AS → Prop) (K : List Fr) (s : AS) : KW P Q (.lp R :: K) .ret s = KW P Q K .ret s := rfl

section
variable (nx : Nat) (bf : Option (List Nat)) (n : Nat) (d : Option Nat) (ops : List SOp) (k : Nat) (s : AS) (tr : List (Nat × List Nat × List Nat)) (K : List Fr)

theorem RW_nil : RW P Q nx bf n [] k s tr K = (chkO bf tr ∧ KW P Q K .normal { s with nx := n }) := by
  cases bf
  · simp only [RW, awOps, chkO, true_and]
  · rfl
/-- An operation, then the rest. -/
def XW (P : Program) (Q : AX → AS → Prop) (nx : Nat) (bf : Option (List Nat)) (n : Nat) (o : SO) (d : Option Nat) (ops : List SOp) (k : Nat) (s : AS) (tr : List (Nat × List Nat × List Nat)) (K : List Fr) : Prop :=
  match o with
  | .call f args => CR P Q nx bf n (nx + k) (f.ev (tget s.t)) (args.map (SX.ev (tget s.t))) d ops k s tr K
  | o => OW P Q nx bf n (aop (nx + k) o (tget s.t) (hget s.h)) d ops k s tr K

theorem RW_op (o : SO) : RW P Q nx bf n (⟨d, o, none⟩ :: ops) k s tr K = XW P Q nx bf n o d ops k s tr K := by
  cases o <;> cases bf <;> rfl

theorem RW_gd (o : SO) (t : Nat) (want : Bool) : RW P Q nx bf n (⟨d, o, some (t, want)⟩ :: ops) k s tr K = GR P Q nx bf n (tget s.t t) t want d o ops k s tr K := by
  cases bf <;> rfl

theorem OW_some (v : AV) (p : Prop) (rs : List Nat) (up : List (Nat × Option AObj)) : OW P Q nx bf n (some ⟨v, p, rs, up⟩) d ops k s tr K = (p ∧ RW P Q nx bf n ops (k + 1) (s.upd d v up) (trU bf k rs up tr) K) := rfl
theorem OW_none : OW P Q nx bf n none d ops k s tr K = False := rfl

theorem GR_b (x : Bool) (t : Nat) (want : Bool) (o : SO) : GR P Q nx bf n (.v (.b x)) t want d o ops k s tr K = GB P Q nx bf n x t want d o ops k s tr K := rfl
theorem GB_TT (t : Nat) (o : SO) : GB P Q nx bf n true t true d o ops k s tr K = RW P Q nx bf n (⟨d, o, none⟩ :: ops) k (s.set t (.v (.b true))) tr K := by simp only [GB, GR, gdW, bcase_true]
theorem GB_FT (t : Nat) (o : SO) : GB P Q nx bf n false t true d o ops k s tr K = RW P Q nx bf n ops (k + 1) ((s.set t (.v (.b false))).upd d (.v (.tup [])) []) (trU bf k [] [] tr) K := by simp only [GB, GR, gdW, bcase_false]
theorem GB_TF (t : Nat) (o : SO) : GB P Q nx bf n true t false d o ops k s tr K = RW P Q nx bf n ops (k + 1) ((s.set t (.v (.b true))).upd d (.v (.tup [])) []) (trU bf k [] [] tr) K := by simp only [GB, GR, gdW, bcase_true]
theorem GB_FF (t : Nat) (o : SO) : GB P Q nx bf n false t false d o ops k s tr K = RW P Q nx bf n (⟨d, o, none⟩ :: ops) k (s.set t (.v (.b false))) tr K := by simp only [GB, GR, gdW, bcase_false]
/-- A guard that is not known: two ways. -/
theorem GB.mk {nx : Nat} {bf : Option (List Nat)} {n : Nat} {d : Option Nat} {ops : List SOp} {k : Nat} {s : AS} {tr : List (Nat × List Nat × List Nat)} {K : List Fr} {x : Bool} {t : Nat} {want : Bool} {o : SO} (h1 : x = true → GB P Q nx bf n true t want d o ops k s tr K) (h2 : x = false → GB P Q nx bf n false t want d o ops k s tr K) : GB P Q nx bf n x t want d o ops k s tr K := by
  cases x
  · exact h2 rfl
  · exact h1 rfl
theorem GR_undef (t : Nat) (want : Bool) (o : SO) : GR P Q nx bf n (.v (.tup [])) t want d o ops k s tr K = RW P Q nx bf n ops (k + 1) (s.upd d (.v (.tup [])) []) (trU bf k [] [] tr) K := rfl

theorem chkO_none : chkO none tr = True := rfl
theorem chkO_some (b : List Nat) : chkO (some b) tr = (chk b tr = true) := rfl
theorem trU_none (rs : List Nat) (up : List (Nat × Option AObj)) : trU none k rs up tr = [] := rfl
theorem trU_some (b : List Nat) (rs : List Nat) (up : List (Nat × Option AObj)) : trU (some b) k rs up tr = (k, rs, up.map (·.1)) :: tr := rfl

/-- A pure call. -/
theorem CR_pure {nx : Nat} {bf : Option (List Nat)} {n : Nat} {d : Option Nat} {ops : List SOp} {k : Nat} {s : AS} {tr : List (Nat × List Nat × List Nat)} {K : List Fr} {nm : Nat} {f : FuncId} {avs : List AV} {pvs : List PV} {r : PV} (he : EvP P f pvs r) (ha : pvArgs avs = some pvs) (hK : RW P Q nx bf n ops (k + 1) (s.upd d (.v r) []) (trU bf k [] [] tr) K) :
    CR P Q nx bf n nm (.v (.fn (.func f))) avs d ops k s tr K := ⟨_, .pure f pvs r rfl ha he, hK⟩
/-- A pure call that looks into own objects. -/
theorem CR_view {nx : Nat} {bf : Option (List Nat)} {n : Nat} {d : Option Nat} {ops : List SOp} {k : Nat} {s : AS} {tr : List (Nat × List Nat × List Nat)} {K : List Fr} {nm : Nat} {f : FuncId} {avs : List AV} {pvs : List PV} {r : PV} (he : EvP P f pvs r) (ha : mapO (view (hget s.h) 9) avs = some pvs) (hr : r.flat = true) (hK : RW P Q nx bf n ops (k + 1) (s.upd d (.v r) []) (trU bf k (avs.flatMap (viewN (hget s.h) 9)) [] tr) K) :
    CR P Q nx bf n nm (.v (.fn (.func f))) avs d ops k s tr K := ⟨_, .view f pvs r rfl ha hr he, hK⟩
/-- A pure call that is given own objects. -/
theorem CR_give {nx : Nat} {bf : Option (List Nat)} {n : Nat} {d : Option Nat} {ops : List SOp} {k : Nat} {s : AS} {tr : List (Nat × List Nat × List Nat)} {K : List Fr} {nm : Nat} {f : FuncId} {avs : List AV} {pvs : List PV} {r : PV} (ns : List Nat) (he : EvP P f pvs r) (hlo : ns.all (fun n => decide (1000 ≤ n)) = true) (hv : avs.flatMap (viewN (hget s.h) 9) = ns) (ha : mapO (view (hget s.h) 9) avs = some pvs)
    (hK : RW P Q nx bf n ops (k + 1) (s.upd d (.v r) (ns.map fun n => (n, none))) (trU bf k ns (ns.map fun n => (n, none)) tr) K) :
    CR P Q nx bf n nm (.v (.fn (.func f))) avs d ops k s tr K := by
  subst hv
  exact ⟨_, .give f pvs r rfl ha (fun n hn => of_decide_eq_true (List.all_eq_true.1 hlo n hn)) he, hK⟩
/-- A call with effects. -/
theorem CR_eff {nx : Nat} {bf : Option (List Nat)} {n : Nat} {d : Option Nat} {ops : List SOp} {k : Nat} {s : AS} {tr : List (Nat × List Nat × List Nat)} {K : List Fr} {nm : Nat} {f : FuncId} {avs : List AV} {hs : List (Nat × AObj)} {v : AV} {up : List (Nat × Option AObj)} (he : EvA P f nm hs avs v up) (hh : ∀ p ∈ hs, hget s.h p.1 = some p.2) (hK : RW P Q nx bf n ops (k + 1) (s.upd d v up) (trU bf k (hs.map (·.1)) up tr) K) :
    CR P Q nx bf n nm (.v (.fn (.func f))) avs d ops k s tr K := ⟨_, .eff f hs v up rfl hh he, hK⟩
/-- A call of a function of the model's that returns its argument. -/
theorem CR_same {nx : Nat} {bf : Option (List Nat)} {n : Nat} {d : Option Nat} {ops : List SOp} {k : Nat} {s : AS} {tr : List (Nat × List Nat × List Nat)} {K : List Fr} {nm : Nat} {f : FuncId} {v : AV} (he : EvS P f) (hK : RW P Q nx bf n ops (k + 1) (s.upd d v []) (trU bf k [] [] tr) K) :
    CR P Q nx bf n nm (.v (.fn (.func f))) [v] d ops k s tr K := ⟨_, .same f v rfl rfl he, hK⟩
end

theorem loop_unroll' {a : SC} {K : List Fr} {N : Nat} {s : AS} (h : CW P Q a (.lp (LoopR P Q a K N) :: K) s) : LoopR P Q a K N s := by
  refine loop_unroll (aw_mono (fun e s' hs => ?_) h)
  cases e <;> exact hs

theorem loop_run {a : SC} {K : List Fr} {N : Nat} {s : AS} {α : Type} (m : α → Nat) (st : α → AS) (ok : α → Prop) (a0 : α) (hN : ∀ x, N ≤ (st x).nx) (h0 : ok a0) (hle : (st a0).Le s)
    (hr : ∀ x, ok x → ∀ R : AS → Prop, (∀ y, ok y → m y < m x → ∀ s', (st y).Le s' → R s') → CW P Q a (.lp R :: K) (st x)) : LoopR P Q a K N s := by
  refine loop_down m st ok a0 hN h0 hle fun x hx => ?_
  refine aw_mono (fun e s' hs => ?_) (hr x hx (fun s' => ∃ y, ok y ∧ m y < m x ∧ (st y).Le s') fun y h1 h2 s' h3 => ⟨y, h1, h2, h3⟩)
  cases e <;> exact hs

/-- 'Le' off lists. -/
def LeT (t : List (Nat × AV)) (n : Nat) : List (Nat × AV) → Prop
  | [] => True
  | (k, v) :: r => tget t k = v ∧ v.bd n = true ∧ LeT t n r
def LeH (h : List (Nat × AObj)) (n : Nat) : List (Nat × AObj) → Prop
  | [] => True
  | (k, v) :: r => hget h k = some v ∧ k < n ∧ (∀ c ∈ v.cells, c.bd n = true) ∧ LeH h n r
theorem AS.Le.of {t t' : List (Nat × AV)} {h h' : List (Nat × AObj)} {n n' : Nat} (hn : n ≤ n') (ht : LeT t' n t) (hh : LeH h' n h) : (AS.mk t h n).Le ⟨t', h', n'⟩ := by
  have h1 : ∀ (t : List (Nat × AV)), LeT t' n t → ∀ p ∈ t, tget t' p.1 = p.2 ∧ p.2.bd n = true := by
    intro t
    induction t with
    | nil => intro _ p hp; cases hp
    | cons q t ih =>
      obtain ⟨k, v⟩ := q
      intro hq p hp
      rcases List.mem_cons.1 hp with rfl | hp
      · exact ⟨hq.1, hq.2.1⟩
      · exact ih hq.2.2 p hp
  have h2 : ∀ (h : List (Nat × AObj)), LeH h' n h → ∀ p ∈ h, hget h' p.1 = some p.2 ∧ p.1 < n ∧ ∀ c ∈ p.2.cells, c.bd n = true := by
    intro h
    induction h with
    | nil => intro _ p hp; cases hp
    | cons q h ih =>
      obtain ⟨k, v⟩ := q
      intro hq p hp
      rcases List.mem_cons.1 hp with rfl | hp
      · exact ⟨hq.1, hq.2.1, hq.2.2.1⟩
      · exact ih hq.2.2.2 p hp
  exact ⟨fun p hp => (h1 t ht p hp).1, fun p hp => (h2 h hh p hp).1, hn, fun p hp => (h1 t ht p hp).2, fun p hp => (h2 h hh p hp).2⟩

end

theorem allM_nil {α : Type} (p : α → Prop) : (∀ x, x ∈ ([] : List α) → p x) = True := by simp
theorem allM_cons {α : Type} (a : α) (l : List α) (p : α → Prop) : (∀ x, x ∈ a :: l → p x) = (p a ∧ ∀ x, x ∈ l → p x) := by simp
theorem byte_i (k : IntKind) (n : Int) : PV.byte (.i k n) = UInt8.ofNat n.toNat := rfl
theorem isByte_i (n : Int) : PV.isByte (.i .u8 n) = True := rfl
theorem abyte_v (x : PV) : AV.byte (.v x) = x.byte := rfl
theorem aisByte_v (x : PV) : AV.isByte (.v x) = x.isByte := rfl
theorem ofNat_byte (c : UInt8) : UInt8.ofNat c.toNat = c := by simp
/-- The cells of bytes. -/
def bcells (l : Bytes) : List AV := l.map fun c => .v (u8 c)
theorem bfold (l : Bytes) : List.map (fun c : UInt8 => AV.v (PV.i IntKind.u8 (c.toNat : Int))) l = bcells l := rfl
theorem bcells_len (l : Bytes) : (bcells l).length = l.length := by simp [bcells]
theorem bcells_take (l : Bytes) : List.take l.length (bcells l) = bcells l := List.take_of_length_le (by simp [bcells])
theorem bcells_app (l m : Bytes) : bcells l ++ bcells m = bcells (l ++ m) := by simp [bcells]
theorem bcells_one (l : Bytes) : (∀ y, y ∈ bcells l → y.one = true) = True := by
  simp only [eq_iff_iff, iff_true]; intro y hy
  obtain ⟨c, -, rfl⟩ := List.mem_map.1 hy; rfl
theorem bcells_bd (l : Bytes) (n : Nat) : (∀ y, y ∈ bcells l → y.bd n = true) = True := by
  simp only [eq_iff_iff, iff_true]; intro y hy
  obtain ⟨c, -, rfl⟩ := List.mem_map.1 hy; rfl
theorem bcells_byte (l : Bytes) : (bcells l).map AV.byte = l := by
  induction l with
  | nil => rfl
  | cons c l ih => simp_all [bcells, AV.byte, PV.byte, u8]
theorem bcells_u8 (l : Bytes) : (∀ y, y ∈ bcells l → y = .v (u8 y.byte)) = True := by
  simp only [eq_iff_iff, iff_true]; intro y hy
  obtain ⟨c, -, rfl⟩ := List.mem_map.1 hy; simp [AV.byte, PV.byte, u8]
theorem renL_bcells (f : Nat → Option Nat) (l : Bytes) : AV.ren.renL f (bcells l) = some (bcells l) := by
  induction l with
  | nil => rfl
  | cons c l ih =>
    have : AV.ren.renL f (AV.v (u8 c) :: bcells l) = some (AV.v (u8 c) :: bcells l) := by simp [AV.ren.renL, AV.ren, ih]
    exact this
theorem mapO_outC_bcells (k : Nat) (j : Option Nat) (s : AS) (l : Bytes) : mapO (outC k j s) (bcells l) = some (bcells l) := by
  induction l with
  | nil => rfl
  | cons c l ih =>
    have : mapO (outC k j s) (AV.v (u8 c) :: bcells l) = some (AV.v (u8 c) :: bcells l) := by simp [mapO, outC, viewC, view, ih]
    exact this
theorem cast0 : ((0 : Nat) : Int) = 0 := rfl
theorem cast1 : ((1 : Nat) : Int) = 1 := rfl
theorem take_len_map {α β : Type} (l : List α) (f : α → β) : List.take l.length (l.map f) = l.map f := by rw [← List.length_map (f := f), List.take_length]

/-- The cells of elements. -/
def cellsOf (l : List PV) : List AV := (l.flatMap PV.cells).map .v
theorem bd_cellsOf (l : List PV) (n : Nat) : (∀ c, c ∈ cellsOf l → c.bd n = true) = True := by
  simp only [eq_iff_iff, iff_true]
  intro c hc
  simp only [cellsOf, List.mem_map] at hc
  obtain ⟨y, -, rfl⟩ := hc; rfl
theorem mapO_view_v (hf : Nat → Option AObj) (f : Nat) (l : List PV) : mapO (view hf (f + 1)) (l.map .v) = some l := by
  induction l with
  | nil => rfl
  | cons x l ih => simp [mapO, view, ih]
theorem mapO_view_cells (hf : Nat → Option AObj) (f : Nat) (l : List PV) : mapO (view hf (f + 1)) (cellsOf l) = some (l.flatMap PV.cells) := mapO_view_v hf f _

theorem flatMap_viewN_cells (hf : Nat → Option AObj) (f : Nat) (l : List PV) : (cellsOf l).flatMap (viewN hf (f + 1)) = [] := by
  simp only [cellsOf]
  induction l.flatMap PV.cells with
  | nil => rfl
  | cons x l ih => simp [viewN, ih]

/-! ## Cells, by constructors -/
theorem pvc_agg (l : List PV) : PV.cells (.agg l) = l := rfl
theorem pvc_b (x : Bool) : PV.cells (.b x) = [.b x] := rfl
theorem avc_vb (x : Bool) : AV.cells (.v (.b x)) = [.v (.b x)] := rfl
theorem pvo_b (x : Bool) : PV.one (.b x) = true := rfl
theorem avk_vb (x : Bool) : AV.okc (.v (.b x)) = true := rfl
theorem pvc_i (k : IntKind) (n : Int) : PV.cells (.i k n) = [.i k n] := rfl
theorem avc_vi (k : IntKind) (n : Int) : AV.cells (.v (.i k n)) = [.v (.i k n)] := rfl
theorem pvo_i (k : IntKind) (n : Int) : PV.one (.i k n) = true := rfl
theorem avk_vi (k : IntKind) (n : Int) : AV.okc (.v (.i k n)) = true := rfl
theorem pvc_s (x : Bytes) : PV.cells (.s x) = [.s x] := rfl
theorem avc_vs (x : Bytes) : AV.cells (.v (.s x)) = [.v (.s x)] := rfl
theorem pvo_s (x : Bytes) : PV.one (.s x) = true := rfl
theorem avk_vs (x : Bytes) : AV.okc (.v (.s x)) = true := rfl
theorem pvc_tup (l : List PV) : PV.cells (.tup l) = [.tup l] := rfl
theorem avc_vtup (l : List PV) : AV.cells (.v (.tup l)) = [.v (.tup l)] := rfl
theorem pvo_tup (l : List PV) : PV.one (.tup l) = false := rfl
theorem avk_vtup (l : List PV) : AV.okc (.v (.tup l)) = false := rfl
theorem pvc_sl (l : List PV) : PV.cells (.sl l) = [.sl l] := rfl
theorem avc_vsl (l : List PV) : AV.cells (.v (.sl l)) = [.v (.sl l)] := rfl
theorem pvo_sl (l : List PV) : PV.one (.sl l) = true := rfl
theorem avk_vsl (l : List PV) : AV.okc (.v (.sl l)) = true := rfl
theorem pvc_fn (f : Fn) : PV.cells (.fn f) = [.fn f] := rfl
theorem avc_vfn (f : Fn) : AV.cells (.v (.fn f)) = [.v (.fn f)] := rfl
theorem pvo_fn (f : Fn) : PV.one (.fn f) = true := rfl
theorem avk_vfn (f : Fn) : AV.okc (.v (.fn f)) = true := rfl
theorem pvc_fn0 : PV.cells (.fn0) = [.fn0] := rfl
theorem avc_vfn0 : AV.cells (.v (.fn0)) = [.v (.fn0)] := rfl
theorem pvo_fn0 : PV.one (.fn0) = true := rfl
theorem avk_vfn0 : AV.okc (.v (.fn0)) = true := rfl
theorem pvc_p0 : PV.cells (.p0) = [.p0] := rfl
theorem avc_vp0 : AV.cells (.v (.p0)) = [.v (.p0)] := rfl
theorem pvo_p0 : PV.one (.p0) = true := rfl
theorem avk_vp0 : AV.okc (.v (.p0)) = true := rfl
theorem pvc_if0 : PV.cells (.if0) = [.if0] := rfl
theorem avc_vif0 : AV.cells (.v (.if0)) = [.v (.if0)] := rfl
theorem pvo_if0 : PV.one (.if0) = true := rfl
theorem avk_vif0 : AV.okc (.v (.if0)) = true := rfl
theorem pvc_ifc (t : TypeId) (v : PV) : PV.cells (.ifc t v) = [.ifc t v] := rfl
theorem avc_vifc (t : TypeId) (v : PV) : AV.cells (.v (.ifc t v)) = [.v (.ifc t v)] := rfl
theorem pvo_ifc (t : TypeId) (v : PV) : PV.one (.ifc t v) = true := rfl
theorem avk_vifc (t : TypeId) (v : PV) : AV.okc (.v (.ifc t v)) = true := rfl
theorem pvo_agg (l : List PV) : PV.one (.agg l) = false := rfl
theorem avc_vagg (l : List PV) : AV.cells (.v (.agg l)) = l.map .v := rfl
theorem avk_vagg (l : List PV) : AV.okc (.v (.agg l)) = true := rfl
theorem avc_p (n v o : Nat) : AV.cells (.p n v o) = [.p n v o] := rfl
theorem avk_p (n v o : Nat) : AV.okc (.p n v o) = true := rfl
theorem avo_p (n v o : Nat) : AV.one (.p n v o) = true := rfl
theorem avc_pp (x : PV) (o : Nat) : AV.cells (.pp x o) = [.pp x o] := rfl
theorem avk_pp (x : PV) (o : Nat) : AV.okc (.pp x o) = true := rfl
theorem avo_pp (x : PV) (o : Nat) : AV.one (.pp x o) = true := rfl
theorem avc_rs (n v o l z : Nat) : AV.cells (.rs n v o l z) = [.rs n v o l z] := rfl
theorem avk_rs (n v o l z : Nat) : AV.okc (.rs n v o l z) = true := rfl
theorem avo_rs (n v o l z : Nat) : AV.one (.rs n v o l z) = true := rfl
theorem avc_fs (l : List PV) : AV.cells (.fs l) = [.fs l] := rfl
theorem avk_fs (l : List PV) : AV.okc (.fs l) = true := rfl
theorem avo_fs (l : List PV) : AV.one (.fs l) = true := rfl
theorem avc_sn : AV.cells (.sn) = [.sn] := rfl
theorem avk_sn : AV.okc (.sn) = true := rfl
theorem avo_sn : AV.one (.sn) = true := rfl
theorem avc_fn (f : Fn) (a c : List AV) : AV.cells (.fn f a c) = [.fn f a c] := rfl
theorem avk_fn (f : Fn) (a c : List AV) : AV.okc (.fn f a c) = true := rfl
theorem avo_fn (f : Fn) (a c : List AV) : AV.one (.fn f a c) = true := rfl
theorem avc_u : AV.cells (.u) = [.u] := rfl
theorem avk_u : AV.okc (.u) = false := rfl
theorem avo_u : AV.one (.u) = false := rfl
theorem avc_tup (l : List AV) : AV.cells (.tup l) = [.tup l] := rfl
theorem avk_tup (l : List AV) : AV.okc (.tup l) = false := rfl
theorem avo_tup (l : List AV) : AV.one (.tup l) = false := rfl
theorem avc_agg (l : List AV) : AV.cells (.agg l) = l := rfl
theorem avk_agg (l : List AV) : AV.okc (.agg l) = l.all AV.one := rfl
theorem avo_agg (l : List AV) : AV.one (.agg l) = false := rfl
theorem avo_v (x : PV) : AV.one (.v x) = x.one := rfl
theorem avi_agg (l : List AV) : AV.isAgg (.agg l) = True := rfl
theorem avi_v (l : List PV) : AV.isAgg (.v (.agg l)) = True := rfl

attribute [irreducible] KW CW RW OW CR GR GB CC CV LoopR

end Go.Dom
