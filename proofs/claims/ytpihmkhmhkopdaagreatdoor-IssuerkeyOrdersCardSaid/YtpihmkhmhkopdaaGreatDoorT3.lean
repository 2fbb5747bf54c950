/-
  THE THEORY OF THIS CLAIM: a logic for its functions, generic over the program; part 3. Own work.
-/
import Derived.Test.YtpihmkhmhkopdaaGreatDoorT2
import Derived.Laws.Build
import Derived.OrdersIn
import Derived.RangeFuncOwn
set_option linter.all false
/-
  THE ABSTRACT OPERATIONS ARE RIGHT: all of them. Own work; generic over the program.
-/
set_option linter.all false
namespace Go.Dom
open Go.RowKit

section
variable {P : Program} {C : Cx} {hf : Nat → Option AObj} {wr : Nat → Prop} {base nm : Nat} {w : World} {tf : Nat → AV}

theorem ok_cpy (h : HR C hf wr w) {t u ty e : TypeId} (ht : P.underlying t = some (.slice e)) {z : Nat} (hz : sizeT P e = some z)
    {vy : AV} {y : Value} (hy : AR C vy y) {ys : List AV} {k : Nat} {p : Prop} {r : List Nat} (hs : srcOf hf z vy = some (ys, k, p, r)) (hp : p) (h1 : ∀ y ∈ ys, y.one = true)
    {n ver o len : Nat} {x : Value} (hx : AR C (.rs n ver o len z) x) {ob : AObj} (hn : hf n = some ob) (hver : ob.ver = ver) (hlen' : o + len * z ≤ ob.cells.length) :
    OpOk P C hf wr base nm (vS (Builtin.copy_ #[t, u] ty #[x, y])) w (.v (.i .i64 (min k len : Nat))) [(n, some ⟨ob.ver, ob.cells.take o ++ ys.take (min k len * z) ++ ob.cells.drop (o + min k len * z), ob.gr, ob.el⟩)] := by
  obtain ⟨news, hlen, hfc, hry, hyl⟩ := src_ok (P := P) h hy hs hp
  have hnews := news_one hry h1
  have hcur := (h.live n ob hn).2
  obtain ⟨cs, el, g1, g2, g3, g4, g5⟩ := h.obj n ob hn
  subst hver
  cases hx with
  | rs _ _ _ _ _ b o' cap _ hcap ho hx =>
    obtain ⟨-, hx2⟩ := hx _ hcur
    obtain ⟨rfl, hsz⟩ := hx2 rfl
    have hm1 : min k len ≤ k := Nat.min_le_left _ _
    have hm2 : min k len ≤ len := Nat.min_le_right _ _
    generalize hmm : min k len = m at *
    have hfm := hfc w m rfl hm1
    have hmz : m * z ≤ news.length := by rw [← hry.1, hyl]; exact Nat.mul_le_mul_right _ hm1
    have hml : (news.take (m * z)).length = m * z := by simp; omega
    have hfit : o + m * z ≤ ob.cells.length := by have := Nat.mul_le_mul_right z hm2; omega
    let cs' : Array Value := (cs.toList.take o ++ news.take (m * z) ++ cs.toList.drop (o + (news.take (m * z)).length)).toArray
    have hsz' : cs'.size = cs.size := by simp [cs']; omega
    obtain ⟨k1, k2⟩ := setRow_heap (cs' := cs') g1
    have hst : (storeCells ⟨C.mu n, o', none⟩ (news.take (m * z))).run P w = .ok () (w.setRow (C.mu n) cs') := by
      rcases ho with ho | ho
      · have hm0 : m = 0 := by omega
        have e : cs' = cs := by apply Array.ext'; simp [cs', hm0]
        rw [e, setRow_self w _ cs el (0, 0) g1]
        subst hm0
        simp [storeCells]
      · subst ho
        have := run_storeCells_at P (C.mu n) o' el (news.take (m * z)) 0 cs w g1 (by rw [hml]; omega) (fun v hv => hnews v (List.mem_of_mem_take hv))
        simp only [Nat.add_zero] at this
        exact this
    have hmin : Nat.min k len = m := hmm
    have hrun : (Builtin.copy_ #[t, u] ty #[.slice (some ⟨C.mu n, o', none⟩) len cap, y]).run P w = .ok (.int .i64 m) (w.setRow (C.mu n) cs') := by
      simp [Builtin.copy_, run_underlying ht, hlen, hmin, sizeT_run hz, hfm, hst, goInt]
    refine ⟨.int .i64 m, w.setRow (C.mu n) cs', C.bump nm n ob.ver, .inl (by simp only [vS, Sem.run_bind, hrun, Result.andThen, Sem.run_pure]), .v (.i _ _), ?_, Cx.le_bump nm hcur (Nat.le_refl _), fun _ => Iff.rfl, Wf.setRow _ (h.wr n ob hn), fun _ _ => rfl, .one (.inr (.inl ⟨_, hn, rfl⟩)) fun _ _ => rfl⟩
    rw [updF_one]
    have hyt : (ys.take (m * z)).length = m * z := by rw [List.length_take, hyl]; exact Nat.min_eq_left (Nat.mul_le_mul_right _ hm1)
    refine h.write nm hn (Nat.le_refl _) _ ob.gr cs' el ob.el (.inr rfl) ⟨_, g1⟩ k1 (by rw [hsz', g2]) ?_ ?_ (fun b _ hb => k2 b hb) ?_
    · rw [hsz']; simp only [List.length_append, List.length_take, List.length_drop, hyl] ; have := Nat.mul_le_mul_right z hm1; omega
    · intro hg; have := g4 hg; rw [hsz']; simp only [List.length_append, List.length_take, List.length_drop, hyl] ; have := Nat.mul_le_mul_right z hm1; omega
    · intro j x v hx hv
      have hv' : (cs.toList.take o ++ news.take (m * z) ++ cs.toList.drop (o + (news.take (m * z)).length))[j]? = some v := by simpa [cs'] using hv
      have hsp := splice_rel (C := C) (cells := ob.cells) (cs := cs.toList) (fun k x v hx hv => g5 k x v hx (by simpa using hv)) (hry.take (m * z)) (o := o) (by omega) (by simpa using g3) (by rw [hyt]; simp; omega)
      exact hsp j x v (by rw [hyt]; exact hx) hv'

theorem cvC_one {v : Value} {x : AV} (h : cvC v = some x) : x.one = true := by
  unfold cvC at h
  split at h <;> first | (cases h; done) | (simp only [Option.some.injEq] at h; subst h; rfl)
theorem zeroC_one {t : TypeId} {z : List AV} (h : zeroC P t = some z) : ∀ y ∈ z, y.one = true := by
  unfold zeroC at h
  simp only [Option.bind_eq_bind, Option.bind_eq_some_iff] at h
  obtain ⟨i, hi, v, hv, h⟩ := h
  split at h
  · obtain ⟨h1, h2⟩ := mapO_some h
    intro y hy
    obtain ⟨k, hk, rfl⟩ := List.getElem_of_mem hy
    exact cvC_one (h2 k _ _ (List.getElem?_eq_getElem (by omega)) (List.getElem?_eq_getElem hk))
  · cases h
theorem zeroCells_rel {z : List AV} {v : Value} (h : RelL (AR C) z v.cells.toList) (n : Nat) : RelL (AR C) (List.replicate n z).flatten (Builtin.zeroCells v.cells n).toList := by
  have hl : z.length = v.cells.size := by simpa using h.1
  refine ⟨by simp [Builtin.zeroCells, hl], fun k x u hx hu => ?_⟩
  have hk : k < n * z.length := by have := (List.getElem?_eq_some_iff.1 hx).1; simpa using this
  have hpos : 0 < z.length := by rcases Nat.eq_zero_or_pos z.length with e | e
                                 · rw [e] at hk; omega
                                 · exact e
  rw [flat_rep z _ _ hk] at hx
  have hm : k % z.length < v.cells.size := by rw [hl] at hpos ⊢; exact Nat.mod_lt _ hpos
  refine h.2 (k % z.length) x u hx ?_
  rw [hl] at hk
  simp only [Builtin.zeroCells, Array.toList_map, Array.toList_range, List.getElem?_map, List.getElem?_range hk, Option.map_some, Option.some.injEq] at hu
  rw [← hu, ← hl]
  simp [hm]
theorem ok_clr (h : HR C hf wr w) {t ty e : TypeId} (ht : P.underlying t = some (.slice e)) {z : List AV} (hz : zeroC P e = some z)
    {n ver o len : Nat} {x : Value} (hx : AR C (.rs n ver o len z.length) x) {ob : AObj} (hn : hf n = some ob) (hver : ob.ver = ver) (hlen' : o + len * z.length ≤ ob.cells.length) :
    OpOk P C hf wr base nm (vS (Builtin.clear_ #[t] ty #[x])) w (.v (.tup [])) [(n, some ⟨ob.ver, ob.cells.take o ++ (List.replicate len z).flatten ++ ob.cells.drop (o + len * z.length), ob.gr, ob.el⟩)] := by
  obtain ⟨zv, hzv, hrz, hzs⟩ := zeroC_run (C := C) hz
  have hry := zeroCells_rel hrz len
  have hyl : ((List.replicate len z).flatten).length = len * z.length := by simp
  have hone : ∀ y ∈ (List.replicate len z).flatten, y.one = true := by
    intro y hy
    obtain ⟨l, hl, hy⟩ := List.mem_flatten.1 hy
    rw [(List.mem_replicate.1 hl).2] at hy
    exact zeroC_one hz y hy
  have hnews := news_one hry hone
  have hcur := (h.live n ob hn).2
  obtain ⟨cs, el, g1, g2, g3, g4, g5⟩ := h.obj n ob hn
  subst hver
  cases hx with
  | rs _ _ _ _ _ b o' cap _ hcap ho hx =>
    obtain ⟨-, hx2⟩ := hx _ hcur
    obtain ⟨rfl, hsz⟩ := hx2 rfl
    generalize hN : (Builtin.zeroCells zv.cells len).toList = news at hry hnews
    have hnl : news.length = len * z.length := by rw [← hry.1, hyl]
    let cs' : Array Value := (cs.toList.take o ++ news ++ cs.toList.drop (o + news.length)).toArray
    have hsz' : cs'.size = cs.size := by simp [cs']; omega
    obtain ⟨k1, k2⟩ := setRow_heap (cs' := cs') g1
    have hrun : (Builtin.clear_ #[t] ty #[.slice (some ⟨C.mu n, o', none⟩) len cap]).run P w = .ok (.tuple #[]) (w.setRow (C.mu n) cs') := by
      rcases Nat.eq_zero_or_pos len with e | e
      · subst e
        have hn0 : news = [] := List.eq_nil_of_length_eq_zero (by simpa using hnl)
        have e : cs' = cs := by apply Array.ext'; simp [cs', hn0]
        rw [e, setRow_self w _ cs el (0, 0) g1]
        simp [Builtin.clear_, run_underlying ht]
      · have ho' : o' = o := by rcases ho with h | h
                                · omega
                                · exact h
        subst ho'
        have := run_storeCells_at P (C.mu n) o' el news 0 cs w g1 (by rw [hnl]; omega) hnews
        simp only [Nat.add_zero] at this
        obtain ⟨m, rfl⟩ : ∃ m, len = m + 1 := ⟨len - 1, by omega⟩
        simp only [Builtin.clear_, Sem.run_bind, run_underlying ht, Result.andThen, hzv, hN]
        simp [run_underlying ht, hzv, hN, this, cs']
    refine ⟨.tuple #[], w.setRow (C.mu n) cs', C.bump nm n ob.ver, .inl (by simp only [vS, Sem.run_bind, hrun, Result.andThen, Sem.run_pure]), .v (.tup [] [] rfl fun k x v hx => by simp at hx), ?_, Cx.le_bump nm hcur (Nat.le_refl _), fun _ => Iff.rfl, Wf.setRow _ (h.wr n ob hn), fun _ _ => rfl, .one (.inr (.inl ⟨_, hn, rfl⟩)) fun _ _ => rfl⟩
    rw [updF_one]
    refine h.write nm hn (Nat.le_refl _) _ ob.gr cs' el ob.el (.inr rfl) ⟨_, g1⟩ k1 (by rw [hsz', g2]) ?_ ?_ (fun b _ hb => k2 b hb) ?_
    · rw [hsz']; simp only [List.length_append, List.length_take, List.length_drop, hyl]; omega
    · intro hg; have := g4 hg; rw [hsz']; simp only [List.length_append, List.length_take, List.length_drop, hyl]; omega
    · intro j x v hx hv
      have hv' : (cs.toList.take o ++ news ++ cs.toList.drop (o + news.length))[j]? = some v := by simpa [cs'] using hv
      have hsp := splice_rel (C := C) (cells := ob.cells) (cs := cs.toList) (fun k x v hx hv => g5 k x v hx (by simpa using hv)) hry (o := o) (by omega) (by simpa using g3) (by rw [hyl]; simp; omega)
      exact hsp j x v (by rw [hyl]; exact hx) hv'

theorem ok_nck (h : HR C hf wr w) {vx : AV} {x : Value} (hx : AR C vx x) {ao : AO}
    (ha : aNck vx = some ao) {s : Sem Next} (hs1 : ∀ q, x = .pointer (some q) → s = pure (.value x)) (hs2 : ∀ f a c, x = .func (.func f) a c → s = pure (.value x)) : OpOk P C hf wr base nm s w ao.v ao.up := by
  unfold aNck at ha
  replace hx := hx.nz
  generalize vx.nz = vx at hx ha
  split at ha <;> simp only [retO, Option.some.injEq, reduceCtorEq] at ha <;> subst ha
  · skip
    exact .val0 h (by cases hx with | p _ _ _ b => rw [hs1 _ rfl]; rfl) hx
  · skip
    exact .val0 h (by cases hx with | pp => rw [hs1 _ rfl]; rfl) hx
  · skip
    exact .val0 h (by cases hx with | v hx => cases hx with | fn => rw [hs2 _ _ _ rfl]; rfl) hx
  · skip
    exact .val0 h (by cases hx with | fn => rw [hs2 _ _ _ rfl]; rfl) hx

theorem sxO_ok [Tabs P] {a : Act} {o : Option Operand} {x : Option SX} (h : sxO P o = some x) (ht : TM P C tf a) : OR C (x.map (SX.ev tf)) (o.map a.eval) := by
  cases o with
  | none => simp [sxO] at h; subst h; exact .none
  | some o =>
    simp only [sxO, Option.map_eq_some_iff] at h
    obtain ⟨y, hy, rfl⟩ := h
    exact .some (sx_ok hy ht)


theorem aop_ok [Tabs P] {o : Oper} {so : SO} {a : Act} (hc : compOp P o = some so) {ao : AO} (ha : aop nm so tf hf = some ao) (hp : ao.pre) (h : HR C hf wr w) (ht : TM P C tf a)
    (hnm : ¬ C.al nm) (hwr : ∀ b, base ≤ b → wr b) (hbase : base ≤ w.heap.size) : OpOk P C hf wr base nm (execOp a.eval o) w ao.v ao.up := by
  unfold compOp at hc
  split at hc
  case h_1 x ho =>
    simp only [Option.bind_eq_bind, Option.bind_eq_some_iff, Option.some.injEq] at hc
    obtain ⟨x', hx, rfl⟩ := hc
    simp only [aop, retO, Option.some.injEq] at ha; subst ha
    rw [show execOp a.eval o = pure (.value (a.eval x)) from by simp only [execOp, ho]]
    exact .val0 h rfl (sx_ok hx ht)
  case h_2 x ho =>
    simp only [Option.bind_eq_bind, Option.bind_eq_some_iff, Option.some.injEq] at hc
    obtain ⟨x', hx, rfl⟩ := hc
    simp only [aop, retO, Option.some.injEq] at ha; subst ha
    rw [show execOp a.eval o = pure (.value (a.eval x)) from by simp only [execOp, ho]]
    exact .val0 h rfl (sx_ok hx ht)
  case h_3 c x y ho =>
    simp only [Option.bind_eq_bind, Option.bind_eq_some_iff, Option.some.injEq] at hc
    obtain ⟨c', hc', x', hx, y', hy, rfl⟩ := hc
    simp only [aop] at ha
    have hcv := sx_ok hc' ht
    split at ha <;> simp only [retO, Option.some.injEq, reduceCtorEq] at ha <;> subst ha
    · rename_i hb
      rw [hb] at hcv
      exact .val0 h (val := a.eval x) (by simp [execOp, ho, inv_b hcv, asBool]) (sx_ok hx ht)
    · rename_i hb
      rw [hb] at hcv
      exact .val0 h (val := a.eval y) (by simp [execOp, ho, inv_b hcv, asBool]) (sx_ok hy ht)
  case h_4 t ho =>
    simp only [Option.bind_eq_bind, Option.bind_eq_some_iff, Option.some.injEq] at hc
    obtain ⟨z, hz, rfl⟩ := hc
    simp only [aop, Option.some.injEq] at ha; subst ha
    rw [show execOp a.eval o = vS (Instr.alloc t true (.tuple #[])) from by simp only [execOp, ho]; rfl]
    exact ok_alloc h hnm hwr hbase hz
  case h_5 t x ho =>
    simp only [Option.bind_eq_bind, Option.bind_eq_some_iff, Option.some.injEq] at hc
    obtain ⟨x', hx, rfl⟩ := hc
    simp only [aop, Option.some.injEq] at ha; subst ha
    rw [show execOp a.eval o = vS (Instr.box t (a.eval x)) from by simp only [execOp, ho]; rfl]
    exact ok_box h hnm hwr hbase t (sx_ok hx ht) hp
  case h_6 t ps ho =>
    rw [show execOp a.eval o = vS (Instr.build t (ps.map fun (i, x) => (i, a.eval x))) from by simp only [execOp, ho]; rfl]
    split at hc
    · rename_i fs hfs
      simp only [Option.bind_eq_bind, Option.bind_eq_some_iff, Option.some.injEq] at hc
      split at hc
      · rename_i hall
        simp only [Option.bind_eq_some_iff, Option.some.injEq] at hc
        obtain ⟨z, hz, qs, hqs, rfl⟩ := hc
        simp only [aop] at ha
        split at ha
        · rename_i cs p hfill
          simp only [Option.some.injEq] at ha; subst ha
          exact ok_build_struct h hfs hall hz hqs ht hfill hp
        · cases ha
      · cases hc
    · rename_i cnt e hfs
      simp only [Option.bind_eq_bind, Option.bind_eq_some_iff, Option.some.injEq] at hc
      obtain ⟨sz, hsz, z, hz, qs, hqs, rfl⟩ := hc
      simp only [aop] at ha
      split at ha
      · rename_i cs p hfill
        simp only [Option.some.injEq] at ha; subst ha
        exact ok_build_array h hfs hsz hz hqs ht hfill hp
      · cases ha
    · cases hc
  case h_7 t n ps ho =>
    rw [show execOp a.eval o = vS (Instr.buildSlice t n (ps.map fun (i, x) => (i, a.eval x))) from by simp only [execOp, ho]; rfl]
    split at hc
    · rename_i e he
      simp only [Option.bind_eq_bind, Option.bind_eq_some_iff, Option.some.injEq] at hc
      obtain ⟨z, hz, ze, hze, xs, hxs, hc⟩ := hc
      split at hc
      · rename_i hcond
        obtain ⟨hrange, hsz, hpos⟩ := hcond
        simp only [Option.some.injEq] at hc; subst hc
        have hrel := sxL_ok hxs ht
        have hps : (ps.map fun (i, x) => (i, a.eval x)).toList.map (·.1) = List.range n := by
          rw [← hrange]; simp
        have hrel' : RelL (AR C) (xs.map (SX.ev tf)) ((ps.map fun (i, x) => (i, a.eval x)).toList.map (·.2)) := by
          have e : (ps.map fun (i, x) => (i, a.eval x)).toList.map (·.2) = (ps.toList.map (·.2)).map a.eval := by simp
          rw [e]; exact hrel
        have hlen : xs.length = n := by
          have h1 := hrel'.1
          have h2 := congrArg List.length hps
          simp only [List.length_map, List.length_range] at h1 h2
          omega
        simp only [aop] at ha
        split at ha
        · rename_i ys hys
          simp only [Option.some.injEq] at ha; subst ha
          exact ok_bsl_pure h hbase he hz hze hsz hps hrel' hys hp
        · simp only [Option.some.injEq] at ha; subst ha
          rw [← hlen] at hsz hps ⊢
          exact ok_bsl_obj h hnm hwr hbase he hz hze hsz hps hrel' hp
      · cases hc
    · cases hc
  case h_8 t x ho =>
    simp only [Option.bind_eq_bind, Option.bind_eq_some_iff, Option.some.injEq] at hc
    obtain ⟨ag, hag, z, hz, hc⟩ := hc
    split at hc
    · rename_i h1
      simp only [Option.bind_eq_some_iff, Option.some.injEq] at hc
      obtain ⟨x', hx, rfl⟩ := hc
      rw [show execOp a.eval o = vS (Instr.loadAt t (a.eval x)) from by simp only [execOp, ho]; rfl]
      exact ok_ld h hag hz (by simpa using h1) (sx_ok hx ht) ha hp
    · cases hc
  case h_9 t x y ho =>
    simp only [Option.bind_eq_bind, Option.bind_eq_some_iff, Option.some.injEq] at hc
    obtain ⟨z, hz, x', hx, y', hy, rfl⟩ := hc
    rw [show execOp a.eval o = (do Instr.storeAt t (a.eval x) (a.eval y); pure .skip) from by simp only [execOp, ho]]
    simp only [aop] at ha
    have hxv := sx_ok hx ht
    split at ha
    · rename_i n ver q hb
      rw [hb] at hxv
      split at ha
      · rename_i ob hn
        simp only [Option.some.injEq] at ha; subst ha
        obtain ⟨p1, p2, p3, p4⟩ := hp
        exact ok_st h hz hxv hn p1 p2 (sx_ok hy ht) p3 p4
      · cases ha
    · cases ha
  case h_10 op t x y t2 ho =>
    rw [show execOp a.eval o = vS (do eqGuard op t x y (a.eval x) (a.eval y); binOp op t (a.eval x) (a.eval y)) from by simp only [execOp, ho]; rfl]
    split at hc
    · simp only [Option.bind_eq_bind, Option.bind_eq_some_iff, Option.some.injEq] at hc
      obtain ⟨x', hx, y', hy, rfl⟩ := hc
      exact ok_bin h x y (sx_ok hx ht) (sx_ok hy ht) ha hp
    · simp only [Option.bind_eq_bind, Option.bind_eq_some_iff, Option.some.injEq] at hc
      obtain ⟨x', hx, y', hy, rfl⟩ := hc
      exact ok_bin h x y (sx_ok hx ht) (sx_ok hy ht) ha hp
    · rename_i hb
      split at hc
      all_goals first | (cases hc; done) | skip
      all_goals
        simp only [Option.bind_eq_bind, Option.bind_eq_some_iff, Option.some.injEq] at hc
        obtain ⟨x', hx, y', hy, rfl⟩ := hc
        simp only [aop] at ha
        have hxv := sx_ok hx ht
        have hyv := sx_ok hy ht
        split at ha
        · rename_i p q e1 e2
          rw [e1] at hxv; rw [e2] at hyv
          simp only [retO, Option.some.injEq] at ha; subst ha
          first
            | exact ok_beq (ng := false) h x y hb hxv hyv
            | exact ok_beq (ng := true) h x y hb hxv hyv
        · cases ha
    · rename_i te hte
      split at hc
      · rename_i hinfo
        obtain ⟨j, hj⟩ := Option.isSome_iff_exists.1 hinfo
        split at hc
        all_goals first | (cases hc; done) | skip
        all_goals
          simp only [Option.bind_eq_bind, Option.bind_eq_some_iff, Option.some.injEq] at hc
          obtain ⟨x', hx, y', hy, rfl⟩ := hc
          simp only [aop] at ha
          first
            | exact ok_peq (ng := false) h x y hte hj (sx_ok hx ht) (sx_ok hy ht) ha hp
            | exact ok_peq (ng := true) h x y hte hj (sx_ok hx ht) (sx_ok hy ht) ha hp
      · cases hc
    · rename_i te hte
      split at hc
      · simp only [Option.bind_eq_bind, Option.bind_eq_some_iff, Option.some.injEq] at hc
        obtain ⟨x', hx, rfl⟩ := hc
        exact ok_snl (ng := false) h x _ hte (sx_ok hx ht) ha
      · simp only [Option.bind_eq_bind, Option.bind_eq_some_iff, Option.some.injEq] at hc
        obtain ⟨x', hx, rfl⟩ := hc
        exact ok_snl (ng := true) h x _ hte (sx_ok hx ht) ha
      · cases hc
    · cases hc
  case h_11 op t x ho =>
    simp only [Option.bind_eq_bind, Option.bind_eq_some_iff, Option.some.injEq] at hc
    obtain ⟨x', hx, rfl⟩ := hc
    rw [show execOp a.eval o = vS (Op.unary op (a.eval x)) from by simp only [execOp, ho]; rfl]
    exact ok_un h (sx_ok hx ht) ha
  case h_12 s d x ho =>
    rw [show execOp a.eval o = vS (convert s d (a.eval x)) from by simp only [execOp, ho]; rfl]
    split at hc
    · rename_i ks k hs hd
      simp only [Option.bind_eq_bind, Option.bind_eq_some_iff, Option.some.injEq] at hc
      obtain ⟨x', hx, rfl⟩ := hc
      simp only [aop] at ha
      have hxv := sx_ok hx ht
      split at ha
      · rename_i k' n e1
        rw [e1] at hxv
        simp only [retO, Option.some.injEq] at ha; subst ha
        exact ok_cvi h hs hd hxv
      · cases ha
    · rename_i hs hd
      simp only [Option.bind_eq_bind, Option.bind_eq_some_iff, Option.some.injEq] at hc
      obtain ⟨x', hx, rfl⟩ := hc
      simp only [aop] at ha
      have hxv := sx_ok hx ht
      split at ha
      · rename_i l e1
        rw [e1] at hxv
        simp only [retO, Option.some.injEq] at ha; subst ha
        exact ok_cvs h hs hd hxv
      · cases ha
    · rename_i e hs hd
      split at hc
      · rename_i he
        simp only [Option.bind_eq_bind, Option.bind_eq_some_iff, Option.some.injEq] at hc
        obtain ⟨z, hz, hc⟩ := hc
        split at hc
        · simp only [Option.bind_eq_some_iff, Option.some.injEq] at hc
          obtain ⟨x', hx, rfl⟩ := hc
          simp only [aop] at ha
          have hxv := sx_ok hx ht
          split at ha
          · rename_i l e1
            rw [e1] at hxv
            simp only [retP, Option.some.injEq] at ha; subst ha
            generalize a.eval x = xx at *
            cases hxv with
            | v hxv =>
              have hxv' := hxv
              cases hxv with
              | sl0 => exact ok_b2s_pure h hs he hd hxv' hp
              | sl => exact ok_b2s_pure h hs he hd hxv' hp
              | sle => exact ok_b2s_pure h hs he hd hxv' hp
          · rename_i l e1
            rw [e1] at hxv
            simp only [retP, Option.some.injEq] at ha; subst ha
            generalize a.eval x = xx at *
            cases hxv with
            | fs _ _ hxv => exact ok_b2s_pure h hs he hd hxv hp
          · rename_i e1
            rw [e1] at hxv
            simp only [retO, Option.some.injEq] at ha; subst ha
            generalize a.eval x = xx at *
            cases hxv
            exact ok_b2s_pure (l := []) h hs he hd .sl0 (by simp)
          · rename_i n ver q len z' e1
            rw [e1] at hxv
            split at ha
            · rename_i ob hn
              simp only [Option.some.injEq] at ha; subst ha
              obtain ⟨p1, p2, p3, p4⟩ := hp
              exact ok_b2s_rs h hs he hd hxv hn p1 p3 p4
            · cases ha
          · cases ha
        · cases hc
      · cases hc
    · split at hc
      · simp only [Option.bind_eq_bind, Option.bind_eq_some_iff, Option.some.injEq] at hc
        obtain ⟨x', hx, rfl⟩ := hc
        simp [aop] at ha
      · cases hc
    · rename_i t0 hs hd
      simp only [Option.bind_eq_bind, Option.bind_eq_some_iff] at hc
      obtain ⟨z, hz, hc⟩ := hc
      split at hc
      · cases hc
      · rename_i hz0
        simp only [Option.bind_eq_some_iff, Option.some.injEq] at hc
        obtain ⟨x', hx, rfl⟩ := hc
        simp only [aop] at ha
        simp only [sizeT, Option.map_eq_some_iff] at hz
        obtain ⟨i, hi, rfl⟩ := hz
        exact ok_cvp h (sx_ok hx ht) (fun b o T n hsh ho _ => Lib.run_to_unsafe w ⟨b, o, none⟩ hs hd hi hz0 hsh ho) ha hp
    · rename_i u0 hs hd
      simp only [Option.bind_eq_bind, Option.bind_eq_some_iff] at hc
      obtain ⟨z, hz, hc⟩ := hc
      split at hc
      · cases hc
      · rename_i hz0
        simp only [Option.bind_eq_some_iff, Option.some.injEq] at hc
        obtain ⟨x', hx, rfl⟩ := hc
        simp only [aop] at ha
        simp only [sizeT, Option.map_eq_some_iff] at hz
        obtain ⟨i, hi, rfl⟩ := hz
        exact ok_cvp h (sx_ok hx ht) (fun b o T n hsh ho hl => Lib.run_from_unsafe w ⟨b, o, none⟩ hs hd hi hsh hl) ha hp
    · cases hc
  case h_13 t l c ho =>
    rw [show execOp a.eval o = vS (Instr.makeSlice t (a.eval l) (a.eval c)) from by simp only [execOp, ho]; rfl]
    split at hc
    · rename_i e he
      simp only [Option.bind_eq_bind, Option.bind_eq_some_iff, Option.some.injEq] at hc
      obtain ⟨i, hi, z, hz, hc⟩ := hc
      split at hc
      · rename_i hpos
        simp only [Option.bind_eq_some_iff, Option.some.injEq] at hc
        obtain ⟨l', hl, c', hc', rfl⟩ := hc
        simp only [aop] at ha
        have hlv := sx_ok hl ht
        have hcv := sx_ok hc' ht
        split at ha
        · rename_i ll cc e1 e2
          rw [e1] at hlv; rw [e2] at hcv
          simp only [Option.some.injEq] at ha; subst ha
          obtain ⟨p1, p2, p3, p4⟩ := hp
          exact ok_mks h hnm hwr hbase he hi hz hpos.1 hlv hcv p1 p2 p3 p4
        · cases ha
      · cases hc
    · cases hc
  case h_14 t x lo hi mx ho =>
    rw [show execOp a.eval o = vS (Instr.sliceAt t (a.eval x) (lo.map a.eval) (hi.map a.eval) (mx.map a.eval)) from by simp only [execOp, ho]; rfl]
    split at hc
    · rename_i hu
      split at hc
      · simp only [Option.bind_eq_bind, Option.bind_eq_some_iff, Option.some.injEq] at hc
        obtain ⟨x', hx, lo', hlo, hi', hhi, rfl⟩ := hc
        simp only [aop] at ha
        have hxv := sx_ok hx ht
        split at ha
        · rename_i b e1
          rw [e1] at hxv
          split at ha
          · rename_i l hh p e2
            simp only [retP, Option.some.injEq] at ha; subst ha
            exact ok_slS h hu hxv (sxO_ok hlo ht) (sxO_ok hhi ht) e2 hp
          · cases ha
        · cases ha
      · cases hc
    · rename_i e hu
      simp only [Option.bind_eq_bind, Option.bind_eq_some_iff, Option.some.injEq] at hc
      obtain ⟨z, hz, x', hx, lo', hlo, hi', hhi, mx', hmx, rfl⟩ := hc
      simp only [aop] at ha
      have hxv := sx_ok hx ht
      split at ha
      · rename_i l e1
        rw [e1] at hxv
        have hmx0 : mx = none := by cases mx with | none => rfl | some m => simp [sxO] at hmx
        subst hmx0
        split at ha
        · rename_i lo2 hh p e2
          simp only [retP, Option.some.injEq] at ha; subst ha
          generalize a.eval x = xx at *
          cases hxv with
          | v hxv =>
            have hxv' := hxv
            cases hxv with
            | sl0 => exact ok_slL h hu hz hxv' (sxO_ok hlo ht) (sxO_ok hhi ht) e2 hp.1 hp.2
            | sl => exact ok_slL h hu hz hxv' (sxO_ok hlo ht) (sxO_ok hhi ht) e2 hp.1 hp.2
            | sle => exact ok_slL h hu hz hxv' (sxO_ok hlo ht) (sxO_ok hhi ht) e2 hp.1 hp.2
        · cases ha
      · rename_i l e1
        rw [e1] at hxv
        have hmx0 : mx = none := by cases mx with | none => rfl | some m => simp [sxO] at hmx
        subst hmx0
        split at ha
        · rename_i lo2 hh p e2
          simp only [retP, Option.some.injEq] at ha; subst ha
          generalize a.eval x = xx at *
          cases hxv with
          | fs _ _ hxv => exact ok_slL h hu hz hxv (sxO_ok hlo ht) (sxO_ok hhi ht) e2 hp.1 hp.2
        · cases ha
      · rename_i n ver q len z' e1
        rw [e1] at hxv
        have hmx0 : mx = none := by cases mx with | none => rfl | some m => simp [sxO] at hmx
        subst hmx0
        split at ha
        · rename_i lo2 hh p e2
          simp only [retP, Option.some.injEq] at ha; subst ha
          obtain ⟨p1, rfl⟩ := hp
          exact ok_slR h hu hz hxv (sxO_ok hlo ht) (sxO_ok hhi ht) e2 p1
        · cases ha
      · rename_i l m e1
        rw [e1] at hxv
        split at ha
        · rename_i lo2 hh p kh hi2 km mx2 e2 e3 e4
          simp only [retP, Option.some.injEq] at ha; subst ha
          obtain ⟨p1, p2, p3⟩ := hp
          have hhv := sxO_ok (a := a) (C := C) (tf := tf) hhi ht
          have hmv := sxO_ok (a := a) (C := C) (tf := tf) hmx ht
          rw [e3] at hhv e2
          simp only [Option.map_some, e4] at hmv
          generalize hhe : hi.map a.eval = hv at *
          generalize hme : mx.map a.eval = mv at *
          cases hhv with | some hhv => ?_
          cases hmv with | some hmv => ?_
          have i1 := inv_i hhv; subst i1
          have i2 := inv_i hmv; subst i2
          generalize a.eval x = xx at *
          cases hxv with
          | v hxv =>
            have hxv' := hxv
            cases hxv with
            | sl0 => exact ok_slF h hu hz hxv' (sxO_ok hlo ht) e2 p1 p2 p3
            | sl => exact ok_slF h hu hz hxv' (sxO_ok hlo ht) e2 p1 p2 p3
            | sle => exact ok_slF h hu hz hxv' (sxO_ok hlo ht) e2 p1 p2 p3
        · cases ha
      · cases ha
    · rename_i n e hu
      simp only [Option.bind_eq_bind, Option.bind_eq_some_iff, Option.some.injEq] at hc
      obtain ⟨z, hz, x', hx, lo', hlo, hi', hhi, mx', hmx, rfl⟩ := hc
      simp only [aop] at ha
      have hxv := sx_ok hx ht
      split at ha
      · rename_i m ver q e1
        rw [e1] at hxv
        have hmx0 : mx = none := by cases mx with | none => rfl | some m => simp [sxO] at hmx
        subst hmx0
        split at ha
        · rename_i ob l2 hh p hn e2
          simp only [Option.some.injEq] at ha; subst ha
          obtain ⟨p1, p2, p3⟩ := hp
          exact ok_slA h hu hz hxv hn p2 p3 (sxO_ok hlo ht) (sxO_ok hhi ht) e2 p1
        · cases ha
      · cases ha
    · cases hc
  case h_15 s x f ho =>
    rw [show execOp a.eval o = vS (Instr.fieldAt s (a.eval x) f) from by simp only [execOp, ho]; rfl]
    split at hc
    · rename_i fs hs
      simp only [Option.bind_eq_bind, Option.bind_eq_some_iff, Option.some.injEq] at hc
      obtain ⟨fl, hfl, z, hz, hc⟩ := hc
      split at hc
      · cases hc
      · rename_i h0
        simp only [Option.bind_eq_some_iff, Option.some.injEq] at hc
        obtain ⟨x', hx, rfl⟩ := hc
        exact ok_fad h hs hfl hz h0 (sx_ok hx ht) ha
    · cases hc
  case h_16 s x f ho =>
    rw [show execOp a.eval o = vS (Instr.field s (a.eval x) f) from by simp only [execOp, ho]; rfl]
    split at hc
    · rename_i fs hs
      simp only [Option.bind_eq_bind, Option.bind_eq_some_iff, Option.some.injEq] at hc
      obtain ⟨fl, hfl, z, hz, ag, hag, hc⟩ := hc
      split at hc
      · rename_i h1
        simp only [Option.bind_eq_some_iff, Option.some.injEq] at hc
        obtain ⟨x', hx, rfl⟩ := hc
        simp only [aop, retP, Option.some.injEq] at ha; subst ha
        exact ok_fld h hs hfl hag hz (by simpa using h1) (sx_ok hx ht) hp.1 hp.2
      · cases hc
    · cases hc
  case h_17 t x i ho =>
    rw [show execOp a.eval o = vS (Instr.indexAt t (a.eval x) (a.eval i)) from by simp only [execOp, ho]; rfl]
    split at hc
    · rename_i e hu
      simp only [Option.bind_eq_bind, Option.bind_eq_some_iff, Option.some.injEq] at hc
      obtain ⟨z, hz, x', hx, i', hi, rfl⟩ := hc
      exact ok_ixs h hu hz (sx_ok hx ht) (sx_ok hi ht) ha hp
    · rename_i n e hu
      simp only [Option.bind_eq_bind, Option.bind_eq_some_iff, Option.some.injEq] at hc
      obtain ⟨z, hz, x', hx, i', hi, rfl⟩ := hc
      exact ok_ixa h hu hz (sx_ok hx ht) (sx_ok hi ht) ha hp
    · cases hc
  case h_18 t x i ho =>
    rw [show execOp a.eval o = vS (Instr.index t (a.eval x) (a.eval i)) from by simp only [execOp, ho]; rfl]
    split at hc
    · rename_i hu
      simp only [Option.bind_eq_bind, Option.bind_eq_some_iff, Option.some.injEq] at hc
      obtain ⟨x', hx, i', hi, rfl⟩ := hc
      simp only [aop] at ha
      have hxv := sx_ok hx ht
      have hiv := sx_ok hi ht
      split at ha
      · rename_i l k n e1 e2
        rw [e1] at hxv; rw [e2] at hiv
        simp only [retP, Option.some.injEq] at ha; subst ha
        exact ok_ixS h hu hxv hiv hp.1 hp.2
      · cases ha
    · rename_i n e hu
      simp only [Option.bind_eq_bind, Option.bind_eq_some_iff, Option.some.injEq] at hc
      obtain ⟨z, hz, ag, hag, hc⟩ := hc
      split at hc
      · rename_i h1
        simp only [Option.bind_eq_some_iff, Option.some.injEq] at hc
        obtain ⟨x', hx, i', hi, rfl⟩ := hc
        simp only [aop] at ha
        have hxv := sx_ok hx ht
        have hiv := sx_ok hi ht
        split at ha
        · rename_i k j e2
          rw [e2] at hiv
          simp only [retP, Option.some.injEq] at ha; subst ha
          obtain ⟨p1, p2, p3, p4⟩ := hp
          exact ok_ixV h hu hag hz (by simpa using h1) hxv p1 hiv p2 p3 p4
        · cases ha
      · cases hc
    · cases hc
  case h_19 x k ho =>
    simp only [Option.bind_eq_bind, Option.bind_eq_some_iff, Option.some.injEq] at hc
    obtain ⟨x', hx, rfl⟩ := hc
    rw [show execOp a.eval o = vS (Instr.extract (a.eval x) k) from by simp only [execOp, ho]; rfl]
    exact ok_ext h (sx_ok hx ht) ha hp
  case h_20 c ho =>
    unfold compCall at hc
    split at hc
    · simp only [Option.bind_eq_bind, Option.bind_eq_some_iff, Option.some.injEq] at hc
      obtain ⟨f', hf', as, has, rfl⟩ := hc
      simp [aop] at ha
    · rename_i b hb
      obtain ⟨K, run⟩ : ∃ K, execOp a.eval o = builtin b c.argTypes o.type K (c.args.map a.eval) := ⟨c.args.map fun | .const _ => true | _ => false, by simp only [execOp, ho, resolve, hb]; rfl⟩
      split at hc
      · -- len
        rename_i x t hargs htys
        have ea : c.args = #[x] := by apply Array.ext'; simpa using hargs
        have et : c.argTypes = #[t] := by apply Array.ext'; simpa using htys
        rw [run, ea, et, show (#[x] : Array Operand).map a.eval = #[a.eval x] from by simp]
        rw [show (builtin .len #[t] o.type K #[a.eval x]) = vS (Builtin.len_ #[t] o.type #[a.eval x]) from rfl]
        split at hc
        · rename_i hu
          simp only [Option.bind_eq_bind, Option.bind_eq_some_iff, Option.some.injEq] at hc
          obtain ⟨x', hx, rfl⟩ := hc
          simp only [aop] at ha
          have hxv := sx_ok hx ht
          split at ha
          · rename_i l e1
            rw [e1] at hxv
            simp only [retO, Option.some.injEq] at ha; subst ha
            exact ok_lenS h hu hxv
          · cases ha
        · rename_i e hu
          simp only [Option.bind_eq_bind, Option.bind_eq_some_iff, Option.some.injEq] at hc
          obtain ⟨x', hx, rfl⟩ := hc
          simp only [aop] at ha
          have hxv := sx_ok hx ht
          split at ha
          · rename_i n e1
            simp only [retO, Option.some.injEq] at ha; subst ha
            exact ok_len h hu hxv e1
          · cases ha
        · rename_i n e hu
          simp only [Option.some.injEq] at hc; subst hc
          simp only [aop, retO, Option.some.injEq] at ha; subst ha
          exact .val h (val := .int .i64 n) (by simp [Builtin.len_, run_underlying hu, goInt]) (.v (.i _ _))
        · cases hc
      · -- append
        rename_i x y t u hargs htys
        have ea : c.args = #[x, y] := by apply Array.ext'; simpa using hargs
        have et : c.argTypes = #[t, u] := by apply Array.ext'; simpa using htys
        rw [run, ea, et, show (#[x, y] : Array Operand).map a.eval = #[a.eval x, a.eval y] from by simp]
        rw [show (builtin .append #[t, u] o.type K #[a.eval x, a.eval y]) = vS (Builtin.append_ #[t, u] o.type #[a.eval x, a.eval y]) from rfl]
        have key : ∀ (e : TypeId) (i : TypeInfo) (z : Value) (x' y' : SX), P.underlying t = some (.slice e) → P.info? e = some i → i.zero = some z → z.cells.size = i.size → 0 < i.size → (P.underlying u = some .string ∨ ∃ e', P.underlying u = some (.slice e')) → sx P x = some x' → sx P y = some y' →
            aop nm (.app e i.size i.bytes x' y') tf hf = some ao → OpOk P C hf wr base nm (vS (Builtin.append_ #[t, u] o.type #[a.eval x, a.eval y])) w ao.v ao.up := by
          intro e i z x' y' hte hi hz hzs hpos hu hx hy ha
          have hxv := sx_ok hx ht
          have hyv := sx_ok hy ht
          simp only [aop] at ha
          split at ha
          · rename_i ys k p r hsrc
            split at ha
            · rename_i e1
              rw [e1] at hxv
              generalize a.eval x = xx at *
              cases hxv
              by_cases hk : k = 0
              · rw [if_pos hk, Option.some.injEq] at ha; subst ha
                obtain ⟨news, hlen, hfc, hry, hyl⟩ := src_ok (P := P) h hyv hsrc hp
                have hf0 := hfc w 0 rfl (by omega)
                refine .val h (val := .slice none 0 0) ?_ .sn
                subst hk
                rcases hu with hu | ⟨e', hu⟩ <;> simp [Builtin.append_, run_underlying hte, run_underlying hu, sizeOf, typeInfo, hi, hlen, hf0]
              · rw [if_neg hk, Option.some.injEq] at ha; subst ha
                obtain ⟨p1, p2, p3, p4⟩ := hp
                have := ok_app_new (ty := o.type) h hnm hwr hbase hte hi hz hzs hu hyv hsrc p1 (q := none) (len := 0) (cells := []) (olds := []) (fun w' _ => by simp [Builtin.firstCells]) .nil (by simp) hk (by simpa using p3) (by simpa using p4)
                simpa using this
            · rename_i l e1
              rw [e1] at hxv
              generalize a.eval x = xx at *
              cases hxv with
              | fs _ q hxv =>
                by_cases hk : k = 0
                · rw [if_pos hk, Option.some.injEq] at ha; subst ha
                  obtain ⟨news, hlen, hfc, hry, hyl⟩ := src_ok (P := P) h hyv hsrc hp
                  have hf0 := hfc w 0 rfl (by omega)
                  refine .val h (val := .slice q l.length l.length) ?_ (.fs l q hxv)
                  subst hk
                  cases q <;> rcases hu with hu | ⟨e', hu⟩ <;> simp [Builtin.append_, run_underlying hte, run_underlying hu, sizeOf, typeInfo, hi, hlen, hf0, storeCells]
                · rw [if_neg hk, Option.some.injEq] at ha; subst ha
                  obtain ⟨p1, p2, p3, p4, p5⟩ := hp
                  obtain ⟨olds, ho1, ho2, ho3, ho4⟩ := src_ok (P := P) (z := i.size) h (.v hxv) (ys := (l.flatMap PV.cells).map .v) (k := l.length) (r := []) rfl p3
                  exact ok_app_new (ty := o.type) h hnm hwr hbase hte hi hz hzs hu hyv hsrc p1 (q := q) (len := l.length) (fun w' hw => by
                    have := ho2 w' l.length hw (Nat.le_refl _)
                    rw [List.take_of_length_le (by rw [← ho3.1, ho4]; exact Nat.le_refl _)] at this
                    exact this) ho3 ho4 hk p4 p5
            · rename_i n ver q len z' e1
              rw [e1] at hxv
              split at ha
              · rename_i ob hn
                rw [Option.some.injEq] at ha; subst ha
                obtain ⟨p1, p2, p3, rfl, rfl, p6, p7, p8⟩ := hp
                exact ok_app_rs (ty := o.type) h hwr hbase hte hi hz hzs hpos hu hyv hsrc p1 p2 hxv hn p3 p6 p7 p8
              · cases ha
            · cases ha
          · cases ha
        split at hc
        · rename_i e e' hte hue
          simp only [Option.bind_eq_bind, Option.bind_eq_some_iff, Option.some.injEq] at hc
          obtain ⟨i, hi, z, hz, hc⟩ := hc
          split at hc
          · rename_i hcond
            simp only [Option.bind_eq_some_iff, Option.some.injEq] at hc
            obtain ⟨x', hx, y', hy, rfl⟩ := hc
            exact key e i z x' y' hte hi hz hcond.1 hcond.2.1 (.inr ⟨_, hue⟩) hx hy ha
          · cases hc
        · rename_i e hte hue
          simp only [Option.bind_eq_bind, Option.bind_eq_some_iff, Option.some.injEq] at hc
          obtain ⟨i, hi, z, hz, hc⟩ := hc
          split at hc
          · rename_i hcond
            simp only [Option.bind_eq_some_iff, Option.some.injEq] at hc
            obtain ⟨x', hx, y', hy, rfl⟩ := hc
            exact key e i z x' y' hte hi hz hcond.1 (by omega) (.inl hue) hx hy ha
          · cases hc
        · cases hc
      · -- copy
        rename_i x y t u hargs htys
        have ea : c.args = #[x, y] := by apply Array.ext'; simpa using hargs
        have et : c.argTypes = #[t, u] := by apply Array.ext'; simpa using htys
        rw [run, ea, et, show (#[x, y] : Array Operand).map a.eval = #[a.eval x, a.eval y] from by simp]
        rw [show (builtin .copy #[t, u] o.type K #[a.eval x, a.eval y]) = vS (Builtin.copy_ #[t, u] o.type #[a.eval x, a.eval y]) from rfl]
        have key : ∀ (e : TypeId) (z : Nat) (x' y' : SX), P.underlying t = some (.slice e) → sizeT P e = some z → sx P x = some x' → sx P y = some y' →
            aop nm (.cpy z x' y') tf hf = some ao → OpOk P C hf wr base nm (vS (Builtin.copy_ #[t, u] o.type #[a.eval x, a.eval y])) w ao.v ao.up := by
          intro e z x' y' hte hz hx hy ha
          have hxv := sx_ok hx ht
          have hyv := sx_ok hy ht
          simp only [aop] at ha
          split at ha
          · rename_i ys k p r n ver q len z' hsrc e1
            rw [e1] at hxv
            split at ha
            · rename_i ob hn
              rw [Option.some.injEq] at ha; subst ha
              obtain ⟨p1, p2, p3, rfl, p5⟩ := hp
              exact ok_cpy (ty := o.type) h hte hz hyv hsrc p1 p2 hxv hn p3 p5
            · cases ha
          · cases ha
        split at hc
        · rename_i e e' hte hue
          simp only [Option.bind_eq_bind, Option.bind_eq_some_iff, Option.some.injEq] at hc
          obtain ⟨z, hz, x', hx, y', hy, rfl⟩ := hc
          exact key e z x' y' hte hz hx hy ha
        · rename_i e hte hue
          simp only [Option.bind_eq_bind, Option.bind_eq_some_iff, Option.some.injEq] at hc
          obtain ⟨z, hz, hc⟩ := hc
          split at hc
          · rename_i hcond
            simp only [Option.bind_eq_some_iff, Option.some.injEq] at hc
            obtain ⟨x', hx, y', hy, rfl⟩ := hc
            subst hcond
            exact key e 1 x' y' hte hz hx hy ha
          · cases hc
        · cases hc
      · -- clear
        rename_i x t hargs htys
        have ea : c.args = #[x] := by apply Array.ext'; simpa using hargs
        have et : c.argTypes = #[t] := by apply Array.ext'; simpa using htys
        rw [run, ea, et, show (#[x] : Array Operand).map a.eval = #[a.eval x] from by simp]
        rw [show (builtin .clear #[t] o.type K #[a.eval x]) = vS (Builtin.clear_ #[t] o.type #[a.eval x]) from rfl]
        split at hc
        · rename_i e hte
          simp only [Option.bind_eq_bind, Option.bind_eq_some_iff, Option.some.injEq] at hc
          obtain ⟨z, hz, x', hx, rfl⟩ := hc
          have hxv := sx_ok hx ht
          simp only [aop] at ha
          split at ha
          · rename_i n ver q len z' e1
            rw [e1] at hxv
            split at ha
            · rename_i ob hn
              rw [Option.some.injEq] at ha; subst ha
              obtain ⟨p1, rfl, p3⟩ := hp
              exact ok_clr (ty := o.type) h hte hz hxv hn p1 p3
            · cases ha
          · cases ha
        · cases hc
      · -- max
        rename_i x y hargs
        have ea : c.args = #[x, y] := by apply Array.ext'; simpa using hargs
        rw [run, ea, show (#[x, y] : Array Operand).map a.eval = #[a.eval x, a.eval y] from by simp]
        rw [show (builtin .max c.argTypes o.type K #[a.eval x, a.eval y]) = vS (if true then Builtin.max_ c.argTypes o.type #[a.eval x, a.eval y] else Builtin.min_ c.argTypes o.type #[a.eval x, a.eval y]) from rfl]
        simp only [Option.bind_eq_bind, Option.bind_eq_some_iff, Option.some.injEq] at hc
        obtain ⟨x', hx, y', hy, rfl⟩ := hc
        have hxv := sx_ok hx ht
        have hyv := sx_ok hy ht
        simp only [aop] at ha
        split at ha
        · rename_i k m k' n e1 e2
          rw [e1] at hxv; rw [e2] at hyv
          simp only [retP, Option.some.injEq] at ha; subst ha
          exact ok_mm h hxv hyv
        · cases ha
      · -- min
        rename_i x y hargs
        have ea : c.args = #[x, y] := by apply Array.ext'; simpa using hargs
        rw [run, ea, show (#[x, y] : Array Operand).map a.eval = #[a.eval x, a.eval y] from by simp]
        rw [show (builtin .min c.argTypes o.type K #[a.eval x, a.eval y]) = vS (if false then Builtin.max_ c.argTypes o.type #[a.eval x, a.eval y] else Builtin.min_ c.argTypes o.type #[a.eval x, a.eval y]) from rfl]
        simp only [Option.bind_eq_bind, Option.bind_eq_some_iff, Option.some.injEq] at hc
        obtain ⟨x', hx, y', hy, rfl⟩ := hc
        have hxv := sx_ok hx ht
        have hyv := sx_ok hy ht
        simp only [aop] at ha
        split at ha
        · rename_i k m k' n e1 e2
          rw [e1] at hxv; rw [e2] at hyv
          simp only [retP, Option.some.injEq] at ha; subst ha
          exact ok_mm h hxv hyv
        · cases ha
      · -- unsafe.SliceData
        rename_i x hargs
        have ea : c.args = #[x] := by apply Array.ext'; simpa using hargs
        rw [run, ea, show (#[x] : Array Operand).map a.eval = #[a.eval x] from by simp]
        rw [show (builtin .unsafeSliceData c.argTypes o.type K #[a.eval x]) = vS (Builtin.unsafeSliceData_ c.argTypes o.type #[a.eval x]) from rfl]
        simp only [Option.bind_eq_bind, Option.bind_eq_some_iff, Option.some.injEq] at hc
        obtain ⟨x', hx, rfl⟩ := hc
        simp only [aop] at ha
        exact ok_sld h (sx_ok hx ht) ha hp
      · -- unsafe.String
        rename_i x y pt it hargs htys
        have ea : c.args = #[x, y] := by apply Array.ext'; simpa using hargs
        have et : c.argTypes = #[pt, it] := by apply Array.ext'; simpa using htys
        rw [run, ea, et, show (#[x, y] : Array Operand).map a.eval = #[a.eval x, a.eval y] from by simp]
        rw [show (builtin .unsafeString #[pt, it] o.type K #[a.eval x, a.eval y]) = vS (Builtin.unsafeString_ #[pt, it] o.type #[a.eval x, a.eval y]) from rfl]
        split at hc
        · rename_i e hu
          split at hc
          · rename_i hce
            simp only [Option.bind_eq_bind, Option.bind_eq_some_iff, Option.some.injEq] at hc
            obtain ⟨x', hx, y', hy, rfl⟩ := hc
            simp only [aop] at ha
            exact ok_ust h hu hce (sx_ok hx ht) (sx_ok hy ht) ha hp
          · cases hc
        · cases hc
      · cases hc
    · cases hc
  case h_21 f x y ho =>
    simp only [Option.bind_eq_bind, Option.bind_eq_some_iff, Option.some.injEq] at hc
    obtain ⟨x', hx, y', hy, rfl⟩ := hc
    simp only [aop, retO, Option.some.injEq] at ha; subst ha
    rw [show execOp a.eval o = vS (Instr.makeFunc f (x.map a.eval) (y.map a.eval)) from by simp only [execOp, ho]; rfl]
    have hxr := sxL_ok hx ht
    have hyr := sxL_ok hy ht
    refine .val h (val := .func f (x.map a.eval) (y.map a.eval)) rfl ?_
    have e1 : x.map a.eval = (x.toList.map a.eval).toArray := Array.ext' (by simp)
    have e2 : y.map a.eval = (y.toList.map a.eval).toArray := Array.ext' (by simp)
    split
    · have n1 : x.toList.map a.eval = [] := hxr.nil_inv
      have n2 : y.toList.map a.eval = [] := hyr.nil_inv
      rw [e1, e2, n1, n2]
      exact .v (.fn f)
    · rw [e1, e2]
      exact .fn f _ _ _ _ hxr.1 hyr.1 hxr.2 hyr.2
  case h_22 x ho =>
    simp only [Option.bind_eq_bind, Option.bind_eq_some_iff, Option.some.injEq] at hc
    obtain ⟨x', hx, rfl⟩ := hc
    refine ok_nck h (sx_ok hx ht) ha ?_ ?_
    · intro q hq; simp only [execOp, ho, hq]
    · intro f b c hq; simp only [execOp, ho, hq]
  case h_23 t x ho =>
    rw [show execOp a.eval o = vS (Instr.makeInterface t (a.eval x)) from by simp only [execOp, ho]; rfl]
    have key : ∀ x', sx P x = some x' → P.concrete t = true → aop nm (.mki t x') tf hf = some ao → OpOk P C hf wr base nm (vS (Instr.makeInterface t (a.eval x))) w ao.v ao.up := by
      intro x' hx hco ha
      simp only [aop] at ha
      have hxv := sx_ok hx ht
      split at ha
      · rename_i y e1
        rw [e1] at hxv
        simp only [retO, Option.some.injEq] at ha; subst ha
        cases hxv with
        | v hxv => exact .val h (run_makeInterface w t (a.eval x) hco) (.v (.ifc t y _ hxv))
      · cases ha
    split at hc
    · rename_i hu
      simp only [Option.bind_eq_bind, Option.bind_eq_some_iff, Option.some.injEq] at hc
      obtain ⟨x', hx, rfl⟩ := hc
      exact key x' hx (by simp [Program.concrete, hu]) ha
    · rename_i hu
      simp only [Option.bind_eq_bind, Option.bind_eq_some_iff, Option.some.injEq] at hc
      obtain ⟨x', hx, rfl⟩ := hc
      exact key x' hx (by simp [Program.concrete, hu]) ha
    · cases hc
  case h_24 => simp only [Option.some.injEq] at hc; subst hc; simp [aop] at ha
  case h_25 => cases hc

end
end Go.Dom

/-
  CONTRACTS, CALLS, ONE STEP OF A REGION. Own work; generic over the program.
-/
set_option linter.all false
namespace Go.Dom
open Go.RowKit

/-! ## Contracts of pure functions -/

/-- What may be read behind a call: what could be read before it, and all that is new. -/
def extRd (rd : Rd) (w w' : World) : Rd := fun b o => if b < w.heap.size then rd b o else w'.cell? ⟨b, o, none⟩

/-- The call enters 'g'. -/
def Enters (P : Program) (f g : FuncId) : Prop := ∀ (args : Array Value) (w : World), (callFunc f args).run P w = .ok (.enter g args) w

/-- Called with values that stand for 'args' the function returns a value that stands for 'r'; it changes nothing that was there. -/
def EvP (P : Program) [Tabs P] (f : FuncId) (args : List PV) (r : PV) : Prop :=
  ∃ g, Enters P f g ∧ ∀ (w : World) (rd : Rd) (vs : List Value), (∀ b o v, TR P b o = some v → rd b o = some v) → (∀ b o v, rd b o = some v → w.cell? ⟨b, o, none⟩ = some v) → RelL (PR rd) args vs →
    Calls P g vs.toArray w fun e w' => ∃ v, e = .returned v ∧ Below w.heap.size w w' ∧ PR (extRd rd w w') r v

/-! ## The environment of a walk -/

structure Env (P : Program) [Tabs P] where
  w0 : World
  rd0 : Rd
  wr : Nat → Prop
  nt : Nat
  C0 : Cx
  df : List Deferred
  lo : ∀ n, C0.al n → n < 1000
  gl : ∀ b o v, TR P b o = some v → C0.rd b o = some v
  fr : Nat
  pin : List (Nat × Obj)
  ro : Option Nat
  Ce : Cx
  frl : w0.heap.size ≤ fr
  mkw : ∀ p ∈ pin, ¬ wr p.1
  ln : List Nat
  lnf : ∀ b ∈ ln, b < fr ∧ ¬ wr b
theorem Env.oldFr {P : Program} [Tabs P] (E : Env P) {b : Nat} (h : b < E.w0.heap.size ∨ b ∈ E.ln) : b < E.fr := h.elim (fun h => Nat.lt_of_lt_of_le h E.frl) fun h => (E.lnf b h).1

/-- The world has gone on from where the call began; what is pinned lies as it lay. -/
structure EWf {P : Program} [Tabs P] (E : Env P) (w : World) : Prop where
  wf : Wf E.wr E.w0 w
  fr : E.fr ≤ w.heap.size
  pn : ∀ p ∈ E.pin, w.heap[p.1]? = some p.2
theorem EWf.trans {P : Program} [Tabs P] {E : Env P} {w w' : World} (h : EWf E w) (k : Wf E.wr w w') : EWf E w' :=
  ⟨h.wf.trans k, Nat.le_trans h.fr k.size, fun p hp => (k.blk p.1 (Array.getElem?_eq_some_iff.1 (h.pn p hp)).1 (E.mkw p hp)).trans (h.pn p hp)⟩
theorem EWf.size {P : Program} [Tabs P] {E : Env P} {w : World} (h : EWf E w) : E.w0.heap.size ≤ w.heap.size := h.wf.size
/-- The context has gone on from where the call, and from where the round, began. -/
structure ELe {P : Program} [Tabs P] (E : Env P) (C : Cx) : Prop where
  c0 : E.C0.Le C
  ce : E.Ce.Le C
theorem ELe.trans {P : Program} [Tabs P] {E : Env P} {C D : Cx} (h : ELe E C) (k : C.Le D) : ELe E D := ⟨h.c0.trans k, h.ce.trans k⟩
theorem ELe.rd {P : Program} [Tabs P] {E : Env P} {C : Cx} (h : ELe E C) (b o : Nat) (v : Value) (hv : E.C0.rd b o = some v) : C.rd b o = some v := h.c0.rd b o v hv

/-- The abstract state stands to the frame and the world. -/
def SR {P : Program} [Tabs P] (E : Env P) (al : Nat → Prop) (tf : Nat → AV) (hf : Nat → Option AObj) (a : Act) (w : World) : Prop :=
  ∃ C : Cx, (∀ n, C.al n ↔ al n) ∧ HR C hf E.wr w ∧ (∀ b, b < E.w0.heap.size ∨ b ∈ E.ln → C.rd b = E.rd0 b) ∧ (EWf E w ∧ ELe E C ∧ ∀ n ob, hf n = some ob → (E.C0.al n ∧ C.mu n = E.C0.mu n) ∨ E.w0.heap.size ≤ C.mu n) ∧ a.defers = E.df ∧ a.tmps.size = E.nt ∧ ∀ k, AR C (tf k) (a.tmps.getD k undef)

def putF (tf : Nat → AV) (d : Option Nat) (v : AV) : Nat → AV :=
  match d with
  | some d => fun k => if k = d then v else tf k
  | none => tf

/-- The guard of an operation. -/
def gdF (g : Option (Nat × Bool)) (tf : Nat → AV) : Option Bool :=
  match g with
  | none => some true
  | some (t, want) => match tf t with
    | .v (.b x) => some (x == want)
    | .v (.tup []) => some false
    | _ => none

/-- The function that is called, and all that it is given: bound values, arguments, captured values. -/
def fnAp (fv : AV) (avs : List AV) : Option (FuncId × List AV) :=
  match fv.nz with
  | .v (.fn (.func f)) => some (f, avs)
  | .fn (.func f) a c => some (f, a ++ (avs ++ c))
  | _ => none

def pvArgs (l : List AV) : Option (List PV) :=
  mapO (fun x => match x with
    | .agg l => if l.all AV.one then (mapO AV.pv1 l).map .agg else none
    | x => x.pv1) l

/-- Called with values that stand for 'avs', where the own objects 'hs' are among those there are, the function returns what stands for 'v', and the own objects are changed as 'up' says. -/
def EvA (P : Program) [Tabs P] (f : FuncId) (nm : Nat) (hs : List (Nat × AObj)) (avs : List AV) (v : AV) (up : List (Nat × Option AObj)) : Prop :=
  ∃ g, Enters P f g ∧ ∀ (C : Cx) (hf : Nat → Option AObj) (wr : Nat → Prop) (w : World) (base : Nat) (vs : List Value), (∀ b o v, TR P b o = some v → C.rd b o = some v) → HR C hf wr w → (∀ b, base ≤ b → wr b) → base ≤ w.heap.size → (∀ p ∈ hs, hf p.1 = some p.2) → ¬ C.al nm → RelL (AR C) avs vs →
    Calls P g vs.toArray w fun e w' => ∃ val C', e = .returned val ∧ AR C' v val ∧ HR C' (updF hf up) wr w' ∧ C.Le C' ∧ (∀ n, C'.al n ↔ C.al n ∨ n = nm) ∧ Wf wr w w' ∧ (∀ b, b < base → C'.rd b = C.rd b) ∧ Stay base C C' hf (updF hf up)

/-- A function of the model's that returns its one argument. -/
def EvS (P : Program) (f : FuncId) : Prop := ∀ (v : Value) (w : World), (callFunc f #[v]).run P w = .ok (.value v) w

/-- A function of the model's that gives a value and leaves the world. -/
def EvX (P : Program) (f : FuncId) (args : List PV) (r : PV) : Prop := ∀ (rd : Rd) (vs : List Value) (w : World), RelL (PR rd) args vs → ∃ v, (callFunc f vs.toArray).run P w = .ok (.value v) w ∧ PR rd r v

/-- What a call comes to. -/
inductive ACall (P : Program) [Tabs P] (nm : Nat) (hf : Nat → Option AObj) (fv : AV) (as : List AV) : AO → Prop where
  | pure (f : FuncId) (avs : List AV) (pvs : List PV) (r : PV) (hfv : fnAp fv as = some (f, avs)) (hargs : pvArgs avs = some pvs) (he : EvP P f pvs r) : ACall P nm hf fv as ⟨.v r, True, [], []⟩
  | view (f : FuncId) (avs : List AV) (pvs : List PV) (r : PV) (hfv : fnAp fv as = some (f, avs)) (hargs : mapO (view hf 9) avs = some pvs) (hr : r.flat = true) (he : EvP P f pvs r) : ACall P nm hf fv as ⟨.v r, True, avs.flatMap (viewN hf 9), []⟩
  | give (f : FuncId) (avs : List AV) (pvs : List PV) (r : PV) (hfv : fnAp fv as = some (f, avs)) (hargs : mapO (view hf 9) avs = some pvs) (hlo : ∀ n ∈ avs.flatMap (viewN hf 9), 1000 ≤ n) (he : EvP P f pvs r) : ACall P nm hf fv as ⟨.v r, True, avs.flatMap (viewN hf 9), (avs.flatMap (viewN hf 9)).map fun n => (n, none)⟩
  | eff (f : FuncId) (avs : List AV) (hs : List (Nat × AObj)) (v : AV) (up : List (Nat × Option AObj)) (hfv : fnAp fv as = some (f, avs)) (hhs : ∀ p ∈ hs, hf p.1 = some p.2) (he : EvA P f nm hs avs v up) : ACall P nm hf fv as ⟨v, True, hs.map (·.1), up⟩
  | same (f : FuncId) (v : AV) (hfv : fnAp fv as = some (f, [v])) (he : EvS P f) : ACall P nm hf fv as ⟨v, True, [], []⟩
  | ext (f : FuncId) (avs : List AV) (pvs : List PV) (r : PV) (hfv : fnAp fv as = some (f, avs)) (hargs : pvArgs avs = some pvs) (he : EvX P f pvs r) : ACall P nm hf fv as ⟨.v r, True, [], []⟩

/-- An operation, a call or not. -/
def OpR (P : Program) [Tabs P] (nm : Nat) (o : SO) (tf : Nat → AV) (hf : Nat → Option AObj) (ao : AO) : Prop :=
  match o with
  | .call f args => ACall P nm hf (f.ev tf) (args.map (SX.ev tf)) ao
  | o => aop nm o tf hf = some ao ∧ ao.pre

/-- One step of a region: names read, names written. -/
def FStep (P : Program) [Tabs P] (nx k : Nat) (so : SOp) (tf : Nat → AV) (hf : Nat → Option AObj) (tf' : Nat → AV) (hf' : Nat → Option AObj) (rs ws : List Nat) : Prop :=
  (gdF so.g tf = some false ∧ tf' = putF tf so.d (.v (.tup [])) ∧ hf' = hf ∧ rs = [] ∧ ws = []) ∨
  (gdF so.g tf = some true ∧ ∃ ao, OpR P (nx + k) so.o tf hf ao ∧ tf' = putF tf so.d ao.v ∧ hf' = updF hf ao.up ∧ rs = ao.rs ∧ ws = ao.up.map (·.1))

section
variable {P : Program} [Tabs P] {E : Env P} {al : Nat → Prop} {tf : Nat → AV} {hf : Nat → Option AObj} {a : Act} {w : World}

theorem put_ok {C : Cx} {d : Option Nat} {v : AV} {val : Value} (hd : ∀ k, d = some k → k < a.tmps.size) (h : ∀ k, AR C (tf k) (a.tmps.getD k undef)) (hv : AR C v val) : ∀ k, AR C (putF tf d v k) ((a.put d val).tmps.getD k undef) := by
  intro k
  cases d with
  | none => exact h k
  | some d =>
    have hlt := hd d rfl
    simp only [putF, Act.put]
    by_cases e : k = d
    · subst e
      rw [if_pos rfl]
      simpa [Array.getD_eq_getD_getElem?, hlt] using hv
    · rw [if_neg e]
      have := h k
      simpa [Array.getD_eq_getD_getElem?, Array.getElem?_setIfInBounds_ne (Ne.symm e)] using this

theorem put_size (a : Act) (d : Option Nat) (v : Value) : (a.put d v).tmps.size = a.tmps.size := by cases d <;> simp [Act.put]
theorem put_defers (a : Act) (d : Option Nat) (v : Value) : (a.put d v).defers = a.defers := by cases d <;> rfl

theorem rel_mono {C D : Cx} (hle : C.Le D) (h : ∀ k, AR C (tf k) (a.tmps.getD k undef)) : ∀ k, AR D (tf k) (a.tmps.getD k undef) := fun k => (h k).mono hle

/-- The guard in the model. -/
theorem gd_ok {C : Cx} {ops : Array Oper} {o : Oper} {g : Option (Nat × Bool)} (hg : o.guard.map (fun p => (((ops[p.1]?).bind (·.dst)), p.2)) = g.map fun p => (some p.1, p.2)) (hlt : ∀ p, g = some p → p.1 < a.tmps.size) (h : ∀ k, AR C (tf k) (a.tmps.getD k undef)) {b : Bool} (hb : gdF g tf = some b) :
    Region.wanted o (yielded ops a.tmps) = b := by
  cases g with
  | none =>
    simp only [Option.map_none, Option.map_eq_none_iff] at hg
    simp only [gdF, Option.some.injEq] at hb
    simp [Region.wanted, hg, hb]
  | some p =>
    obtain ⟨t, want⟩ := p
    simp only [Option.map_some, Option.map_eq_some_iff, Prod.mk.injEq] at hg
    obtain ⟨⟨j, want'⟩, hgo, hd, rfl⟩ := hg
    have ht := h t
    have hlt' := hlt _ rfl
    simp only [gdF] at hb
    simp only at hd hlt'
    have hget : a.tmps[t]? = some (a.tmps.getD t undef) := by simp [Array.getD_eq_getD_getElem?, hlt']
    split at hb
    · rename_i x hx
      rw [hx] at ht
      simp only [Option.some.injEq] at hb
      simp only [Region.wanted, hgo, yielded, hd, Option.bind_some, hget, inv_b ht]
      rw [← hb]
      cases x <;> cases want' <;> rfl
    · rename_i hx
      rw [hx] at ht
      simp only [Option.some.injEq] at hb
      have hu : a.tmps.getD t undef = .tuple #[] := by
        generalize a.tmps.getD t undef = u at ht
        cases ht with
        | v ht => cases ht with
          | tup l vs hl _ =>
            have : vs = [] := List.eq_nil_of_length_eq_zero (by simpa using hl.symm)
            subst this; rfl
      simp only [Region.wanted, hgo, yielded, hd, Option.bind_some, hget, hu]
      rw [← hb]; rfl
    · cases hb

theorem pvA_ok {C : Cx} {l : List AV} {ys : List PV} {vs : List Value} (h : RelL (AR C) l vs) (hl : pvArgs l = some ys) : RelL (PR C.rd) ys vs := by
  unfold pvArgs at hl
  obtain ⟨m1, m2⟩ := mapO_some hl
  refine ⟨by rw [← m1]; exact h.1, fun k y v hy hv => ?_⟩
  have hk : k < l.length := by have := (List.getElem?_eq_some_iff.1 hy).1; omega
  have hx : l[k]? = some l[k] := by simp [hk]
  have hxy := m2 k _ y hx hy
  have hxv := h.2 k _ v hx hv
  generalize l[k] = x at hxy hxv
  by_cases hag : ∃ m, x = .agg m
  · obtain ⟨m, rfl⟩ := hag
    simp only at hxy
    split at hxy
    · rename_i hall
      simp only [Option.map_eq_some_iff] at hxy
      obtain ⟨zs, hzs, rfl⟩ := hxy
      cases hxv with
      | agg _ us hl' h' =>
        obtain ⟨p1, p2⟩ := pvs_ok ⟨hl', h'⟩ hzs hall
        exact .agg zs us p2 p1.1 p1.2
    · cases hxy
  · have hxy' : x.pv1 = some y := by
      cases x <;> first | exact hxy | exact absurd ⟨_, rfl⟩ hag
    exact pv1_ok hxv hxy'

/-- Behind a call that changed nothing that was there. -/
def Cx.after (C : Cx) (w w' : World) (nm : Nat) : Cx := { C with rd := extRd C.rd w w', al := fun n => C.al n ∨ n = nm }

theorem Cx.le_after {C : Cx} {wr : Nat → Prop} (h : HR C hf wr w) (w' : World) (nm : Nat) : C.Le (C.after w w' nm) := by
  refine ⟨fun b o v hv => ?_, fun _ h => .inl h, fun _ _ d h => ⟨d, h, Nat.le_refl _, fun _ => ⟨rfl, rfl⟩⟩⟩
  have := cell_lt (h.rdw _ _ _ hv)
  simp [Cx.after, extRd, this, hv]

theorem HR.after {C : Cx} {wr : Nat → Prop} (h : HR C hf wr w) {w' : World} (hb : Below w.heap.size w w') (nm : Nat) : HR (C.after w w' nm) hf wr w' := by
  have hle := Cx.le_after h w' nm
  refine ⟨?_, ?_, h.dead, ?_, h.inj, h.wr, ?_, ?_⟩
  · intro b o v hv
    simp only [Cx.after, extRd] at hv
    split at hv
    · rename_i hlt
      rw [World.cell?_of_block (hb.block b hlt)]; exact h.rdw _ _ _ hv
    · exact hv
  · exact fun n ob hn => ⟨.inl (h.live n ob hn).1, (h.live n ob hn).2⟩
  · intro n ob hn k
    have := h.muLt hn
    simp only [Cx.after, extRd, this, if_true]
    exact h.sep n ob hn k
  · intro n ob hn
    obtain ⟨cs, el, h1, h2, h3, h4, h5⟩ := h.obj n ob hn
    exact ⟨cs, el, (hb.block _ (h.muLt hn)).trans h1, h2, h3, h4, fun k x v hx hv => (h5 k x v hx hv).mono hle⟩
  · intro n ob hn t ht
    obtain ⟨cs, h1⟩ := h.typ n ob hn t ht
    exact ⟨cs, (hb.block _ (h.muLt hn)).trans h1⟩

theorem Wf.below {wr : Nat → Prop} {w w' : World} (hb : Below w.heap.size w w') : Wf wr w w' := ⟨hb.os, hb.tape, hb.output, hb.size, fun b hlt _ => hb.block b hlt⟩


/-! ## Views -/

/-- The pure region, and the own objects. -/
def viewRd (C : Cx) (hf : Nat → Option AObj) (w : World) [∀ b, Decidable (∃ n ob, hf n = some ob ∧ C.mu n = b)] : Rd := fun b o => if (∃ n ob, hf n = some ob ∧ C.mu n = b) then w.cell? ⟨b, o, none⟩ else C.rd b o

theorem chunk_len (z n : Nat) (l : List PV) : (chunk z n l).length = n := by
  induction n generalizing l with
  | zero => rfl
  | succ n ih => simp [chunk, ih]

theorem chunk_ok (z : Nat) : ∀ (n : Nat) (l : List PV), l.length = n * z → (∀ c ∈ l, c.one = true) → (chunk z n l).flatMap PV.cells = l ∧ ∀ x ∈ chunk z n l, x.cells.length = z := by
  intro n
  induction n with
  | zero => intro l hl _; simp at hl; subst hl; simp [chunk]
  | succ n ih =>
    intro l hl h1
    have hl' : l.length = n * z + z := by rw [hl, Nat.succ_mul]
    obtain ⟨i1, i2⟩ := ih (l.drop z) (by simp; omega) fun c hc => h1 c (List.mem_of_mem_drop hc)
    have hhead : ∀ x, x = (if z = 1 then (l.headD .fn0) else .agg (l.take z)) → x.cells = l.take z ∧ x.cells.length = z := by
      intro x hx
      by_cases hz : z = 1
      · rw [if_pos hz] at hx
        subst hz
        cases l with
        | nil => simp at hl'
        | cons c l =>
          have hx : x = c := hx
          rw [hx]
          have hc : c.one = true := h1 c (by simp)
          have : c.cells = [c] := by cases c <;> first | rfl | (simp [PV.one] at hc)
          simp [this]
      · rw [if_neg hz] at hx
        subst hx
        refine ⟨rfl, ?_⟩
        show (l.take z).length = z
        simp; omega
    obtain ⟨e1, e2⟩ := hhead _ rfl
    simp only [chunk, List.flatMap_cons]
    rw [i1, e1]
    refine ⟨List.take_append_drop _ _, fun x hx => ?_⟩
    rcases List.mem_cons.1 hx with rfl | hx
    · exact e2
    · exact i2 x hx

theorem view_one {fu : Nat} {x : AV} {y : PV} (hx : view hf fu x = some y) (h1 : x.one = true) : y.one = true := by
  cases fu with
  | zero => simp [view] at hx
  | succ fu =>
    cases x <;> simp only [view, AV.one, Bool.false_eq_true, Option.some.injEq, reduceCtorEq] at hx h1
    case v => subst hx; exact h1
    case fs => subst hx; rfl
    case sn => subst hx; rfl
    case pp => subst hx; rfl
    case p n ver o =>
      split at hx
      · split at hx
        · simp only [Option.map_eq_some_iff] at hx
          obtain ⟨cs, -, rfl⟩ := hx; rfl
        · cases hx
      · cases hx
    case rs n ver o len z =>
      split at hx
      · split at hx
        · simp only [Option.map_eq_some_iff] at hx
          obtain ⟨cs, -, rfl⟩ := hx; rfl
        · cases hx
      · cases hx
    case fn f b c => exact mkFc_one hx

theorem view_ok {C : Cx} {wr : Nat → Prop} (h : HR C hf wr w) [∀ b, Decidable (∃ n ob, hf n = some ob ∧ C.mu n = b)] : ∀ (fu : Nat) (x : AV) (y : PV) (v : Value), AR C x v → view hf fu x = some y → PR (viewRd C hf w) y v := by
  have hle : ∀ b o v, C.rd b o = some v → viewRd C hf w b o = some v := by
    intro b o v hv
    unfold viewRd
    split
    · exact h.rdw _ _ _ hv
    · exact hv
  intro fu
  induction fu with
  | zero => intro x y v _ hx; simp [view] at hx
  | succ fu ih =>
    have ihL : ∀ (l : List AV) (ys : List PV) (vs : List Value), RelL (AR C) l vs → mapO (view hf fu) l = some ys → RelL (PR (viewRd C hf w)) ys vs := by
      intro l ys vs hr hl
      obtain ⟨m1, m2⟩ := mapO_some hl
      refine ⟨by rw [← m1]; exact hr.1, fun k y v hy hv => ?_⟩
      have hk : k < l.length := by have := (List.getElem?_eq_some_iff.1 hy).1; omega
      exact ih l[k] y v (hr.2 k _ v (by simp [hk]) hv) (m2 k _ y (by simp [hk]) hy)
    have ihOne : ∀ (l : List AV) (ys : List PV), mapO (view hf fu) l = some ys → l.all AV.one = true → ∀ y ∈ ys, y.one = true := by
      intro l ys hl h1 y hy
      obtain ⟨m1, m2⟩ := mapO_some hl
      obtain ⟨k, hk, rfl⟩ := List.getElem_of_mem hy
      have hk' : k < l.length := by omega
      rw [List.all_eq_true] at h1
      exact view_one (m2 k l[k] ys[k] (by simp [hk']) (by simp [hk])) (h1 _ (List.getElem_mem hk'))
    intro x y v hxv hx
    cases hxv with
    | v hp => simp only [view, Option.some.injEq] at hx; subst hx; exact hp.mono hle
    | fs l q hp => simp only [view, Option.some.injEq] at hx; subst hx; exact hp.mono hle
    | sn => simp only [view, Option.some.injEq] at hx; subst hx; exact .sl0
    | p n ver o b hal hcur =>
      simp only [view] at hx
      split at hx
      · rename_i ob hn
        split at hx
        · rename_i hcond
          obtain ⟨hver, hall⟩ := hcond
          simp only [Option.map_eq_some_iff] at hx
          obtain ⟨cs, hcs, rfl⟩ := hx
          obtain ⟨-, hc2⟩ := hcur _ (h.live n ob hn).2
          obtain rfl := hc2 hver.symm
          obtain ⟨ws, el, g1, g2, g3, g4, g5⟩ := h.obj n ob hn
          have hr : RelL (AR C) ob.cells (ws.toList.take ob.cells.length) := by
            refine ⟨by simp; omega, fun k x v hx hv => g5 k x v hx ?_⟩
            rw [List.getElem?_take] at hv
            split at hv
            · simpa using hv
            · cases hv
          have hrp := ihL _ cs _ hr hcs
          have hone := ihOne _ cs hcs hall
          have := PR.pt (rd := viewRd C hf w) (.agg cs) o (ws.toList.take ob.cells.length) (C.mu n) 0 hone hrp.1 (by
            intro k v hv
            have hex : ∃ m oc, hf m = some oc ∧ C.mu m = C.mu n := ⟨n, ob, hn, rfl⟩
            simp only [viewRd, hex, if_true]
            rw [cell_of_heap g1, Nat.zero_add]
            rw [List.getElem?_take] at hv
            split at hv
            · simpa using hv
            · cases hv) hrp.2
          rw [Nat.zero_add] at this
          exact this
        · cases hx
      · cases hx
    | pp x o vs bk of h1 hl hr hp => simp only [view, Option.some.injEq] at hx; subst hx; exact .pt x o vs bk of h1 hl (fun k v hv => hle _ _ _ (hr k v hv)) fun k y v hy hv => (hp k y v hy hv).mono hle
    | ub => simp [view] at hx
    | u => simp [view] at hx
    | agg l vs hl hr =>
      simp only [view] at hx
      split at hx
      · rename_i hall
        simp only [Option.map_eq_some_iff] at hx
        obtain ⟨ys, hys, rfl⟩ := hx
        have := ihL l ys vs ⟨hl, hr⟩ hys
        exact .agg ys vs (ihOne l ys hys hall) this.1 this.2
      · cases hx
    | tup l vs hl hr =>
      simp only [view, Option.map_eq_some_iff] at hx
      obtain ⟨ys, hys, rfl⟩ := hx
      have := ihL l ys vs ⟨hl, hr⟩ hys
      exact .tup ys vs this.1 this.2
    | fn f b c va vc hla hlc ha hc =>
      simp only [view] at hx
      exact mkFc_ok hx (fun a' h' => ihL _ _ _ ⟨hla, ha⟩ h') (fun c' h' => ihL _ _ _ ⟨hlc, hc⟩ h')
    | rs n ver o len z b o' cap hal hcap ho hcur =>
      simp only [view] at hx
      split at hx
      · rename_i ob hn
        split at hx
        · rename_i hcond
          obtain ⟨hver, hlen, hall⟩ := hcond
          simp only [Option.map_eq_some_iff] at hx
          obtain ⟨cs, hcs, rfl⟩ := hx
          obtain ⟨-, hc2⟩ := hcur _ (h.live n ob hn).2
          obtain ⟨rfl, -⟩ := hc2 hver.symm
          obtain ⟨ws, el, g1, g2, g3, g4, g5⟩ := h.obj n ob hn
          have hr : RelL (AR C) ob.cells (ws.toList.take ob.cells.length) := by
            refine ⟨by simp; omega, fun k x v hx hv => g5 k x v hx ?_⟩
            rw [List.getElem?_take] at hv
            split at hv
            · simpa using hv
            · cases hv
          have hr2 := (hr.drop o).take (len * z)
          have hrp := ihL _ cs _ hr2 hcs
          have hone := ihOne _ cs hcs hall
          have hcl : cs.length = len * z := by
            rw [hrp.1]; simp; omega
          obtain ⟨k1, k2⟩ := chunk_ok z len cs hcl hone
          have hchl := chunk_len z len cs
          by_cases hl0 : len = 0
          · subst hl0
            have e : chunk z 0 cs = [] := rfl
            rw [e]
            exact .sl [] 0 [] (C.mu n) o' cap (by simp) (by simp) (by simp) (by simp) (by simp) (by simp)
          · have ho' : o' = o := by rcases ho with ho | ho <;> omega
            subst ho'
            have := PR.sl (rd := viewRd C hf w) (chunk z len cs) z (((ws.toList.take ob.cells.length).drop o').take (len * z)) (C.mu n) o' cap (by rw [hchl]; exact hcap) k2 (by rw [k1]; exact hone) (by rw [k1]; exact hrp.1)
              (by
                intro k v hv
                have hex : ∃ m oc, hf m = some oc ∧ C.mu m = C.mu n := ⟨n, ob, hn, rfl⟩
                simp only [viewRd, hex, if_true]
                rw [cell_of_heap g1]
                rw [List.getElem?_take] at hv
                split at hv
                · rw [List.getElem?_drop, List.getElem?_take] at hv
                  split at hv
                  · simpa using hv
                  · cases hv
                · cases hv)
              (by rw [k1]; exact hrp.2)
            rw [hchl] at this
            exact this
        · cases hx
      · cases hx

theorem PR.flat_any {rd rd' : Rd} {x : PV} {v : Value} (h : PR rd x v) : x.flat = true → PR rd' x v := by
  have hall : ∀ (l : List PV), PV.flat.flatL l = true → ∀ (k : Nat) (y : PV), l[k]? = some y → y.flat = true := by
    intro l
    induction l with
    | nil => intro _ k y hy; simp at hy
    | cons x l ih =>
      intro hl k y hy
      simp only [PV.flat.flatL, Bool.and_eq_true] at hl
      cases k with
      | zero => simp at hy; subst hy; exact hl.1
      | succ k => exact ih hl.2 k y (by simpa using hy)
  induction h with
  | b x => intro _; exact .b x
  | i k n => intro _; exact .i k n
  | s x => intro _; exact .s x
  | agg l vs h1 hl _ ih => intro hf; exact .agg l vs h1 hl fun k x v hx hv => ih k x v hx hv (hall l hf k x hx)
  | tup l vs hl _ ih => intro hf; exact .tup l vs hl fun k x v hx hv => ih k x v hx hv (hall l hf k x hx)
  | sl0 => intro hf; simp [PV.flat] at hf
  | sl => intro hf; simp [PV.flat] at hf
  | sle => intro hf; simp [PV.flat] at hf
  | fn f => intro _; exact .fn f
  | fn0 => intro _; exact .fn0
  | p0 => intro _; exact .p0
  | if0 => intro _; exact .if0
  | ifc t x v _ ih => intro hf; exact .ifc t x v (ih hf)
  | pt => intro hf; simp [PV.flat] at hf
  | fc => intro hf; simp [PV.flat] at hf

end

theorem mapO_congr {α β : Type} {g g' : α → Option β} {l : List α} (h : ∀ x ∈ l, g x = g' x) : mapO g l = mapO g' l := by
  induction l with
  | nil => rfl
  | cons x l ih => simp only [mapO, h x (by simp), ih fun y hy => h y (by simp [hy])]

theorem flatMap_congr' {α β : Type} {g g' : α → List β} {l : List α} (h : ∀ x ∈ l, g x = g' x) : l.flatMap g = l.flatMap g' := by
  induction l with
  | nil => rfl
  | cons x l ih => simp only [List.flatMap_cons, h x (by simp), ih fun y hy => h y (by simp [hy])]

theorem view_hf {hf hf' : Nat → Option AObj} : ∀ (f : Nat) (x : AV), (∀ n ∈ viewN hf f x, hf' n = hf n) → view hf' f x = view hf f x ∧ viewN hf' f x = viewN hf f x := by
  intro f
  induction f with
  | zero => intro x _; cases x <;> exact ⟨rfl, rfl⟩
  | succ f ih =>
    intro x h
    cases x
    case agg l =>
      simp only [viewN] at h
      have hl : ∀ x ∈ l, view hf' f x = view hf f x ∧ viewN hf' f x = viewN hf f x := fun x hx => ih x fun n hn => h n (List.mem_flatMap.2 ⟨x, hx, hn⟩)
      simp only [view, viewN]
      rw [mapO_congr fun x hx => (hl x hx).1, flatMap_congr' fun x hx => (hl x hx).2]
      exact ⟨rfl, rfl⟩
    case tup l =>
      simp only [viewN] at h
      have hl : ∀ x ∈ l, view hf' f x = view hf f x ∧ viewN hf' f x = viewN hf f x := fun x hx => ih x fun n hn => h n (List.mem_flatMap.2 ⟨x, hx, hn⟩)
      simp only [view, viewN]
      rw [mapO_congr fun x hx => (hl x hx).1, flatMap_congr' fun x hx => (hl x hx).2]
      exact ⟨rfl, rfl⟩
    case rs n ver o len z =>
      simp only [viewN] at h
      have h0 : hf' n = hf n := h n (by simp)
      simp only [view, viewN, h0]
      cases hn : hf n with
      | none => exact ⟨rfl, rfl⟩
      | some ob =>
        simp only [hn] at h
        have hl : ∀ x ∈ (ob.cells.drop o).take (len * z), view hf' f x = view hf f x ∧ viewN hf' f x = viewN hf f x := fun x hx => ih x fun n hn => h n (List.mem_cons_of_mem _ (List.mem_flatMap.2 ⟨x, hx, hn⟩))
        simp only
        rw [mapO_congr fun x hx => (hl x hx).1, flatMap_congr' fun x hx => (hl x hx).2]
        exact ⟨rfl, rfl⟩
    case fn g b c =>
      simp only [viewN] at h
      have hb : ∀ x ∈ b, view hf' f x = view hf f x ∧ viewN hf' f x = viewN hf f x := fun x hx => ih x fun n hn => h n (List.mem_append.2 (.inl (List.mem_flatMap.2 ⟨x, hx, hn⟩)))
      have hc : ∀ x ∈ c, view hf' f x = view hf f x ∧ viewN hf' f x = viewN hf f x := fun x hx => ih x fun n hn => h n (List.mem_append.2 (.inr (List.mem_flatMap.2 ⟨x, hx, hn⟩)))
      simp only [view, viewN]
      rw [mapO_congr fun x hx => (hb x hx).1, mapO_congr fun x hx => (hc x hx).1, flatMap_congr' fun x hx => (hb x hx).2, flatMap_congr' fun x hx => (hc x hx).2]
      exact ⟨rfl, rfl⟩
    case p n ver o =>
      simp only [viewN] at h
      have h0 : hf' n = hf n := h n (by simp)
      simp only [view, viewN, h0]
      cases hn : hf n with
      | none => exact ⟨rfl, rfl⟩
      | some ob =>
        simp only [hn] at h
        have hl : ∀ x ∈ ob.cells, view hf' f x = view hf f x ∧ viewN hf' f x = viewN hf f x := fun x hx => ih x fun n hn => h n (List.mem_cons_of_mem _ (List.mem_flatMap.2 ⟨x, hx, hn⟩))
        simp only
        rw [mapO_congr fun x hx => (hl x hx).1, flatMap_congr' fun x hx => (hl x hx).2]
        exact ⟨rfl, rfl⟩
    all_goals exact ⟨rfl, rfl⟩


/-- The context with some names alone. -/
def Cx.only (C : Cx) (ns : List Nat) : Cx := { C with cur := fun n => if n ∈ ns then C.cur n else none }
def onlyF (hf : Nat → Option AObj) (ns : List Nat) : Nat → Option AObj := fun n => if n ∈ ns then hf n else none

theorem Cx.le_only (C : Cx) (ns : List Nat) : C.Le (C.only ns) := by
  refine ⟨fun _ _ _ h => h, fun _ h => h, fun n _ d h => ?_⟩
  simp only [Cx.only] at h
  split at h
  · exact ⟨d, h, Nat.le_refl _, fun _ => ⟨rfl, rfl⟩⟩
  · cases h

theorem HR.only {C : Cx} {hf : Nat → Option AObj} {wr : Nat → Prop} {w : World} (h : HR C hf wr w) (ns : List Nat) : HR (C.only ns) (onlyF hf ns) wr w := by
  have key : ∀ n ob, onlyF hf ns n = some ob → n ∈ ns ∧ hf n = some ob := by
    intro n ob hn
    simp only [onlyF] at hn
    split at hn
    · rename_i hm; exact ⟨hm, hn⟩
    · cases hn
  refine ⟨h.rdw, ?_, ?_, ?_, ?_, ?_, ?_, ?_⟩
  · intro n ob hn
    obtain ⟨hm, hn⟩ := key n ob hn
    obtain ⟨h1, h2⟩ := h.live n ob hn
    exact ⟨h1, by simp only [Cx.only, hm, if_true]; exact h2⟩
  · intro n hn
    simp only [Cx.only]
    split
    · rename_i hm
      simp only [onlyF, hm, if_true] at hn
      exact h.dead n hn
    · rfl
  · intro n ob hn k; exact h.sep n ob (key n ob hn).2 k
  · intro n m ob oc hn hm he; exact h.inj n m ob oc (key n ob hn).2 (key m oc hm).2 he
  · intro n ob hn; exact h.wr n ob (key n ob hn).2
  · intro n ob hn
    obtain ⟨cs, el, h1, h2, h3, h4, h5⟩ := h.obj n ob (key n ob hn).2
    exact ⟨cs, el, h1, h2, h3, h4, fun k x v hx hv => (h5 k x v hx hv).mono (C.le_only ns)⟩
  · intro n ob hn t ht; exact h.typ n ob (key n ob hn).2 t ht

theorem updF_give (ns : List Nat) : ∀ (hf : Nat → Option AObj) (n : Nat), updF hf (ns.map fun n => (n, none)) n = if n ∈ ns then none else hf n := by
  induction ns with
  | nil => intro hf n; simp
  | cons m ns ih =>
    intro hf n
    simp only [List.map_cons, updF, ih, List.mem_cons]
    by_cases h1 : n ∈ ns
    · simp [h1]
    · by_cases h2 : n = m <;> simp [h1, h2]

/-- The context behind a call that was given objects. -/
def Cx.gave (C : Cx) (rd : Rd) (w w' : World) (ns : List Nat) (nm : Nat) : Cx := { C with rd := extRd rd w w', al := fun n => C.al n ∨ n = nm, cur := fun n => if n ∈ ns then none else C.cur n }

theorem HR.gave {C : Cx} {hf : Nat → Option AObj} {wr : Nat → Prop} {w w' : World} (h : HR C hf wr w) (hb : Below w.heap.size w w') (ns : List Nat) (nm : Nat) [∀ b, Decidable (∃ n ob, onlyF hf ns n = some ob ∧ (C.only ns).mu n = b)] :
    C.Le (C.gave (viewRd (C.only ns) (onlyF hf ns) w) w w' ns nm) ∧ HR (C.gave (viewRd (C.only ns) (onlyF hf ns) w) w w' ns nm) (updF hf (ns.map fun n => (n, none))) wr w' := by
  have key : ∀ n ob, updF hf (ns.map fun n => (n, none)) n = some ob → n ∉ ns ∧ hf n = some ob := by
    intro n ob hn
    rw [updF_give] at hn
    split at hn
    · cases hn
    · rename_i hm; exact ⟨hm, hn⟩
  have hle : C.Le (C.gave (viewRd (C.only ns) (onlyF hf ns) w) w w' ns nm) := by
    refine ⟨fun b o v hv => ?_, fun _ h => .inl h, fun n _ d hd => ?_⟩
    · have hlt := cell_lt (h.rdw _ _ _ hv)
      simp only [Cx.gave, extRd, hlt, if_true, viewRd]
      split
      · exact h.rdw _ _ _ hv
      · exact hv
    · simp only [Cx.gave] at hd
      split at hd
      · cases hd
      · exact ⟨d, hd, Nat.le_refl _, fun _ => ⟨rfl, rfl⟩⟩
  refine ⟨hle, ?_, ?_, ?_, ?_, ?_, ?_, ?_, ?_⟩
  · intro b o v hv
    simp only [Cx.gave, extRd] at hv
    split at hv
    · rename_i hlt
      rw [World.cell?_of_block (hb.block b hlt)]
      simp only [viewRd] at hv
      split at hv
      · exact hv
      · exact h.rdw _ _ _ hv
    · exact hv
  · intro n ob hn
    obtain ⟨hm, hn⟩ := key n ob hn
    obtain ⟨h1, h2⟩ := h.live n ob hn
    exact ⟨.inl h1, by simp only [Cx.gave, hm, if_false]; exact h2⟩
  · intro n hn
    simp only [Cx.gave]
    split
    · rfl
    · rename_i hm
      rw [updF_give, if_neg hm] at hn
      exact h.dead n hn
  · intro n ob hn k
    obtain ⟨hm, hn⟩ := key n ob hn
    have hlt := h.muLt hn
    show extRd (viewRd (C.only ns) (onlyF hf ns) w) w w' (C.mu n) k = none
    simp only [extRd, hlt, if_true, viewRd]
    split
    · rename_i hex
      obtain ⟨m, oc, hmm, hmu⟩ := hex
      exfalso
      simp only [onlyF] at hmm
      split at hmm
      · rename_i hmem
        have : m = n := h.inj m n oc ob hmm hn hmu
        subst this
        exact hm hmem
      · cases hmm
    · exact h.sep n ob hn k
  · intro n m ob oc hn hm he; exact h.inj n m ob oc (key n ob hn).2 (key m oc hm).2 he
  · intro n ob hn; exact h.wr n ob (key n ob hn).2
  · intro n ob hn
    have hn := (key n ob hn).2
    obtain ⟨cs, el, h1, h2, h3, h4, h5⟩ := h.obj n ob hn
    exact ⟨cs, el, (hb.block _ (h.muLt hn)).trans h1, h2, h3, h4, fun k x v hx hv => (h5 k x v hx hv).mono hle⟩
  · intro n ob hn t ht
    have hn := (key n ob hn).2
    obtain ⟨cs, h1⟩ := h.typ n ob hn t ht
    exact ⟨cs, (hb.block _ (h.muLt hn)).trans h1⟩

end Go.Dom
