/-
  THE CONTEXT OF A PRESENTATION: contracts of Context and its reference. Own work.
-/
import Derived.Test.YtjigfdhjmfcbpaaW9
set_option linter.all false
namespace Go.Proofs.Ytjigfdhjmfcbpaa
open Go Go.Dom
set_option maxRecDepth 100000

structure Qn where
  policy : Bytes
  verifier : Bytes
  nonce : Bytes
  epoch : Int
  period : Int
structure Sh where
  issuer : Bytes
  version : Int
  a : Bytes
  w : Bytes
  disclosed : List Bytes
structure Pr where
  shown : List Sh
  comm : List Bytes
  parts : List (List Bytes)
  squares : List (List Bytes)
  nym : Bytes
  serial : Bytes
  count : Bytes
  cparts : List Bytes
  ea : Bytes
  eb : Bytes
  p1 : PV
  p2 : PV
  p3 : PV
  p4 : PV
def i64r (n : Int) : Prop := -9223372036854775808 ≤ n ∧ n ≤ 9223372036854775807
def Qn.pv (q : Qn) : PV := .agg [.s q.policy, .s q.verifier, .s q.nonce, .i .i64 q.epoch, .i .i64 q.period]
def Sh.pv (s : Sh) : PV := .agg [.s s.issuer, .i .i64 s.version, .s s.a, .s s.w, .sl (s.disclosed.map PV.s)]
def Pr.pv (x : Pr) : PV := .agg [.sl (x.shown.map Sh.pv), .sl (x.comm.map PV.s), .sl (x.parts.map fun y => PV.sl (y.map PV.s)), .sl (x.squares.map fun y => PV.sl (y.map PV.s)), .s x.nym, .s x.serial, .s x.count, .sl (x.cparts.map PV.s), .s x.ea, .s x.eb, x.p1, x.p2, x.p3, x.p4]
def Sh.it (s : Sh) : It := listIt [textIt s.issuer, numIt s.version, natIt s.a, natIt s.w, natsIt s.disclosed]
def qIt (q : Qn) : It := listIt [textIt q.policy, textIt q.verifier, textIt q.nonce, numIt q.epoch, numIt q.period]
def ctxIt (q : Qn) (x : Pr) : It := listIt [qIt q, listIt (x.shown.map Sh.it), natsIt x.comm, listsIt x.parts, listsIt x.squares, natIt x.nym, natIt x.serial, natIt x.count, natsIt x.cparts, natsIt [x.ea, x.eb]]

/-- What the checks of the law leave. -/
structure Qn.Ok (q : Qn) : Prop where
  pl : q.policy.length ≤ 400
  vn : q.verifier.length + q.nonce.length ≤ 200
  ep : i64r q.epoch
  pe : i64r q.period
structure Sh.Ok (s : Sh) : Prop where
  il : s.issuer.length ≤ 60
  vr : i64r s.version
  al : s.a.length ≤ 8
  wl : s.w.length ≤ 8
  dl : s.disclosed.length ≤ 10
  de : ∀ x ∈ s.disclosed, x.length ≤ 8
structure Pr.Ok (x : Pr) : Prop where
  sl : x.shown.length ≤ 6
  se : ∀ s ∈ x.shown, s.Ok
  cl : x.comm.length ≤ 20
  ce : ∀ b ∈ x.comm, b.length ≤ 8
  pl : x.parts.length ≤ 40
  pe : ∀ y ∈ x.parts, y.length ≤ 30 ∧ ∀ b ∈ y, b.length ≤ 8
  ql : x.squares.length ≤ 6
  qe : ∀ y ∈ x.squares, y.length ≤ 30 ∧ ∀ b ∈ y, b.length ≤ 8
  n1 : x.nym.length ≤ 8
  n2 : x.serial.length ≤ 8
  n3 : x.count.length ≤ 8
  kl : x.cparts.length ≤ 20
  ke : ∀ b ∈ x.cparts, b.length ≤ 8
  n4 : x.ea.length ≤ 8
  n5 : x.eb.length ≤ 8
  o1 : x.p1.one = true
  o2 : x.p2.one = true
  o3 : x.p3.one = true
  o4 : x.p4.one = true

theorem list_b {l : List It} {d m n : Nat} (hn : l.length = n) (hn' : n ≤ 1000) (h : ∀ x ∈ l, x.ok ∧ x.depth ≤ d ∧ x.write.length ≤ m) : (listIt l).ok ∧ (listIt l).depth ≤ d + 1 ∧ (listIt l).write.length ≤ 11 + n * m := by
  refine ⟨listIt_ok (by omega) fun x hx => (h x hx).1, depth_list fun x hx => (h x hx).2.1, ?_⟩
  have := write_list fun x hx => (h x hx).2.2
  rw [hn] at this; exact this

theorem nat_b {b : Bytes} (h : b.length ≤ 8) : (natIt b).ok ∧ (natIt b).depth ≤ 3 ∧ (natIt b).write.length ≤ 21000000 := ⟨natIt_ok b, by rw [depth_nat]; omega, by have := write_nat b; omega⟩
theorem text_b {b : Bytes} (h : b.length ≤ 400) : (textIt b).ok ∧ (textIt b).depth ≤ 1 ∧ (textIt b).write.length ≤ 20000 := ⟨textIt_ok b, by rw [depth_text]; omega, by have := write_text b; omega⟩
theorem q_b {q : Qn} (h : q.Ok) : (qIt q).ok ∧ (qIt q).depth ≤ 2 ∧ (qIt q).write.length ≤ 100011 := by
  have h1 := h.pl
  have h2 := h.vn
  refine list_b (l := [textIt q.policy, textIt q.verifier, textIt q.nonce, numIt q.epoch, numIt q.period]) (m := 20000) (n := 5) rfl (by omega) ?_
  simp only [allM_cons, allM_nil, and_true]
  exact ⟨text_b (by omega), text_b (by omega), text_b (by omega), num_b _, num_b _⟩
theorem sh_b {s : Sh} (h : s.Ok) : s.it.ok ∧ s.it.depth ≤ 2 ∧ s.it.write.length ≤ 100011 := by
  have h1 := h.il
  refine list_b (l := [textIt s.issuer, numIt s.version, natIt s.a, natIt s.w, natsIt s.disclosed]) (m := 20000) (n := 5) rfl (by omega) ?_
  simp only [allM_cons, allM_nil, and_true]
  have a := h.al
  have w := h.wl
  have := write_nat s.a
  have := write_nat s.w
  exact ⟨text_b (by omega), num_b _, ⟨natIt_ok _, by rw [depth_nat]; omega, by omega⟩, ⟨natIt_ok _, by rw [depth_nat]; omega, by omega⟩, nats_b h.dl h.de (by omega)⟩
theorem ctx_b {q : Qn} {x : Pr} (hq : q.Ok) (hx : x.Ok) : (ctxIt q x).ok ∧ (ctxIt q x).depth < 1099511627776 ∧ (ctxIt q x).write.length < 1099511627776 := by
  have key : ∀ {i : It} {d m : Nat}, i.ok ∧ i.depth ≤ d ∧ i.write.length ≤ m → d ≤ 3 → m ≤ 21000000 → i.ok ∧ i.depth ≤ 3 ∧ i.write.length ≤ 21000000 := fun h h1 h2 => ⟨h.1, Nat.le_trans h.2.1 h1, Nat.le_trans h.2.2 h2⟩
  have hs : (listIt (x.shown.map Sh.it)).ok ∧ (listIt (x.shown.map Sh.it)).depth ≤ 3 ∧ (listIt (x.shown.map Sh.it)).write.length ≤ 21000000 := by
    have hl := hx.sl
    obtain ⟨h1, h2, h3⟩ := list_b (l := x.shown.map Sh.it) (n := x.shown.length) (by simp) (by omega) (fun y hy => by
      obtain ⟨s, hs, rfl⟩ := List.mem_map.1 hy
      exact sh_b (hx.se s hs))
    refine ⟨h1, h2, Nat.le_trans h3 ?_⟩
    have := Nat.mul_le_mul_right 100011 hl
    omega
  obtain ⟨h1, h2, h3⟩ := list_b (l := [qIt q, listIt (x.shown.map Sh.it), natsIt x.comm, listsIt x.parts, listsIt x.squares, natIt x.nym, natIt x.serial, natIt x.count, natsIt x.cparts, natsIt [x.ea, x.eb]]) (d := 3) (m := 21000000) (n := 10) rfl (by omega) (by
    simp only [allM_cons, allM_nil, and_true]
    exact ⟨key (q_b hq) (by omega) (by omega), hs, key (nats_b hx.cl hx.ce (by omega)) (by omega) (by omega), key (lists_b hx.pl (fun y hy => ⟨Nat.le_trans (hx.pe y hy).1 (by omega), (hx.pe y hy).2⟩) (by omega)) (by omega) (by omega), key (lists_b hx.ql (fun y hy => ⟨Nat.le_trans (hx.qe y hy).1 (by omega), (hx.qe y hy).2⟩) (by omega)) (by omega) (by omega), nat_b hx.n1, nat_b hx.n2, nat_b hx.n3, key (nats_b hx.kl hx.ke (by omega)) (by omega) (by omega), key (nats_b (l := [x.ea, x.eb]) (n := 2) (Nat.le_refl _) (by simp only [allM_cons, allM_nil, and_true]; exact ⟨hx.n4, hx.n5⟩) (by omega)) (by omega) (by omega)⟩)
  exact ⟨h1, Nat.lt_of_le_of_lt h2 (by omega), Nat.lt_of_le_of_lt h3 (by omega)⟩
end Go.Proofs.Ytjigfdhjmfcbpaa
