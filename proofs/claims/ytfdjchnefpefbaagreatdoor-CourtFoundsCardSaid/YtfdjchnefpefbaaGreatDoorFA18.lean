/-
  Part of the proof, part FA18. Own work.
-/
import Derived.Test.YtfdjchnefpefbaaGreatDoorFA17
set_option linter.all false
namespace Go.Dom
open Go.RowKit
class Br (g:Prop) (c d t f:outParam Prop):Prop where
 go:(c->t)->(d->f)->g
section
variable {P:Program} [bY P] {Q:AX->AS->Prop}
instance brP {p:Prop} {κ:BK}:Br (PX P Q p κ) p (¬p) (BX P Q true κ) (BX P Q false κ):=⟨pX⟩
instance brB {c:Bool} {κ:BK}:Br (BX P Q c κ) (c=true) (c=false) (BX P Q true κ) (BX P Q false κ):=⟨bX⟩
end
theorem xX {g c d t f:Prop} [b:Br g c d t f] (h1:c->t) (h2:d->f):g:=b.go h1 h2
theorem oO {p:Prop} (h:p:=by omega):p:=h
theorem oC {p:Prop} (h:p:=by decide):p:=h
theorem lG {t t':List (Nat×AV)} {h h':List (Nat×au)} {n n':Nat} {q:Prop} (a:q) (hn:n<=n':=by first|decide|omega) (e:(dM t' n t/\dL h' n h)=q:=by simp[dM,dL,aK,aj,AV.bd,AV.bd.bdL,u8,ai,ak,ar]<;>rfl):(AS.mk t h n).Le ⟨t',h',n'⟩:=AS.Le.of hn (e▸a:dM t' n t/\dL h' n h).1 (e▸a:dM t' n t/\dL h' n h).2
structure Wr (Y:Prop):Prop where
 go:Y
theorem lI {P:Program} [bY P] {Q:AX->AS->Prop} {a:SC} {K:List Fr} {N:Nat} {s:AS} (h:wI P Q a K N s):wI P Q a K N s:=h
theorem aN {A B:Prop} (a:A) (b:B):A/\B:=⟨a,b⟩
theorem z0 {p:Prop} (h:p:=by
 repeat' first|simp only[go_sem,seval]|refine sB ?_|apply xX<;>intro hc|refine⟨oD,?_⟩|exact oD|fail
 all_goals rfl):p:=h
theorem z1 {A0 p:Prop} (a0:A0) (h:A0->p:=by
 intro K0;repeat' first|simp only[go_sem,seval]|refine cP K0 ?_|refine sB ?_|apply xX<;>intro hc|refine⟨oD,?_⟩|exact oD|fail
 all_goals rfl):p:=h a0
theorem z2 {A0 A1 p:Prop} (a0:A0) (a1:A1) (h:A0->A1->p:=by
 intro K0 K1;repeat' first|simp only[go_sem,seval]|refine cP K0 ?_|refine cP K1 ?_|refine sB ?_|apply xX<;>intro hc|refine⟨oD,?_⟩|exact oD|fail
 all_goals rfl):p:=h a0 a1
theorem z3 {A0 A1 A2 p:Prop} (a0:A0) (a1:A1) (a2:A2) (h:A0->A1->A2->p:=by
 intro K0 K1 K2;repeat' first|simp only[go_sem,seval]|refine cP K0 ?_|refine cP K1 ?_|refine cP K2 ?_|refine sB ?_|apply xX<;>intro hc|refine⟨oD,?_⟩|exact oD|fail
 all_goals rfl):p:=h a0 a1 a2
theorem z4 {A0 A1 A2 A3 p:Prop} (a0:A0) (a1:A1) (a2:A2) (a3:A3) (h:A0->A1->A2->A3->p:=by
 intro K0 K1 K2 K3;repeat' first|simp only[go_sem,seval]|refine cP K0 ?_|refine cP K1 ?_|refine cP K2 ?_|refine cP K3 ?_|refine sB ?_|apply xX<;>intro hc|refine⟨oD,?_⟩|exact oD|fail
 all_goals rfl):p:=h a0 a1 a2 a3
theorem z5 {A0 A1 A2 A3 A4 p:Prop} (a0:A0) (a1:A1) (a2:A2) (a3:A3) (a4:A4) (h:A0->A1->A2->A3->A4->p:=by
 intro K0 K1 K2 K3 K4;repeat' first|simp only[go_sem,seval]|refine cP K0 ?_|refine cP K1 ?_|refine cP K2 ?_|refine cP K3 ?_|refine cP K4 ?_|refine sB ?_|apply xX<;>intro hc|refine⟨oD,?_⟩|exact oD|fail
 all_goals rfl):p:=h a0 a1 a2 a3 a4
theorem z6 {A0 A1 A2 A3 A4 A5 p:Prop} (a0:A0) (a1:A1) (a2:A2) (a3:A3) (a4:A4) (a5:A5) (h:A0->A1->A2->A3->A4->A5->p:=by
 intro K0 K1 K2 K3 K4 K5;repeat' first|simp only[go_sem,seval]|refine cP K0 ?_|refine cP K1 ?_|refine cP K2 ?_|refine cP K3 ?_|refine cP K4 ?_|refine cP K5 ?_|refine sB ?_|apply xX<;>intro hc|refine⟨oD,?_⟩|exact oD|fail
 all_goals rfl):p:=h a0 a1 a2 a3 a4 a5
theorem z7 {A0 A1 A2 A3 A4 A5 A6 p:Prop} (a0:A0) (a1:A1) (a2:A2) (a3:A3) (a4:A4) (a5:A5) (a6:A6) (h:A0->A1->A2->A3->A4->A5->A6->p:=by
 intro K0 K1 K2 K3 K4 K5 K6;repeat' first|simp only[go_sem,seval]|refine cP K0 ?_|refine cP K1 ?_|refine cP K2 ?_|refine cP K3 ?_|refine cP K4 ?_|refine cP K5 ?_|refine cP K6 ?_|refine sB ?_|apply xX<;>intro hc|refine⟨oD,?_⟩|exact oD|fail
 all_goals rfl):p:=h a0 a1 a2 a3 a4 a5 a6
theorem z8 {A0 A1 A2 A3 A4 A5 A6 A7 p:Prop} (a0:A0) (a1:A1) (a2:A2) (a3:A3) (a4:A4) (a5:A5) (a6:A6) (a7:A7) (h:A0->A1->A2->A3->A4->A5->A6->A7->p:=by
 intro K0 K1 K2 K3 K4 K5 K6 K7;repeat' first|simp only[go_sem,seval]|refine cP K0 ?_|refine cP K1 ?_|refine cP K2 ?_|refine cP K3 ?_|refine cP K4 ?_|refine cP K5 ?_|refine cP K6 ?_|refine cP K7 ?_|refine sB ?_|apply xX<;>intro hc|refine⟨oD,?_⟩|exact oD|fail
 all_goals rfl):p:=h a0 a1 a2 a3 a4 a5 a6 a7
theorem U2 {p:Prop} (h:p:=by
 repeat' first|simp only[go_sem,seval]|refine ah ?_|refine sB ?_|apply xX<;>intro hc|refine⟨oD,?_⟩|exact oD|fail
 all_goals rfl):p:=h
theorem Xt {A0 p:Prop} (a0:A0) (h:A0->p:=by
 intro K0;repeat' first|simp only[go_sem,seval]|refine cP K0 ?_|refine ah ?_|refine sB ?_|apply xX<;>intro hc|refine⟨oD,?_⟩|exact oD|fail
 all_goals rfl):p:=h a0
theorem U3 {A0 A1 p:Prop} (a0:A0) (a1:A1) (h:A0->A1->p:=by
 intro K0 K1;repeat' first|simp only[go_sem,seval]|refine cP K0 ?_|refine cP K1 ?_|refine ah ?_|refine sB ?_|apply xX<;>intro hc|refine⟨oD,?_⟩|exact oD|fail
 all_goals rfl):p:=h a0 a1
theorem ZR {A0 A1 A2 p:Prop} (a0:A0) (a1:A1) (a2:A2) (h:A0->A1->A2->p:=by
 intro K0 K1 K2;repeat' first|simp only[go_sem,seval]|refine cP K0 ?_|refine cP K1 ?_|refine cP K2 ?_|refine ah ?_|refine sB ?_|apply xX<;>intro hc|refine⟨oD,?_⟩|exact oD|fail
 all_goals rfl):p:=h a0 a1 a2
theorem Zj {A0 A1 A2 A3 p:Prop} (a0:A0) (a1:A1) (a2:A2) (a3:A3) (h:A0->A1->A2->A3->p:=by
 intro K0 K1 K2 K3;repeat' first|simp only[go_sem,seval]|refine cP K0 ?_|refine cP K1 ?_|refine cP K2 ?_|refine cP K3 ?_|refine ah ?_|refine sB ?_|apply xX<;>intro hc|refine⟨oD,?_⟩|exact oD|fail
 all_goals rfl):p:=h a0 a1 a2 a3
theorem zu5 {A0 A1 A2 A3 A4 p:Prop} (a0:A0) (a1:A1) (a2:A2) (a3:A3) (a4:A4) (h:A0->A1->A2->A3->A4->p:=by
 intro K0 K1 K2 K3 K4;repeat' first|simp only[go_sem,seval]|refine cP K0 ?_|refine cP K1 ?_|refine cP K2 ?_|refine cP K3 ?_|refine cP K4 ?_|refine ah ?_|refine sB ?_|apply xX<;>intro hc|refine⟨oD,?_⟩|exact oD|fail
 all_goals rfl):p:=h a0 a1 a2 a3 a4
theorem zg0 {Y p:Prop} (y:Y) (h:Y->p:=by
 intro KY;repeat' first|simp only[go_sem,seval]|refine sB ?_|apply xX<;>intro hc|refine⟨oD,?_⟩|exact oD|exact KY _ lE|fail
 all_goals rfl):p:=h y
theorem zg1 {Y A0 p:Prop} (y:Y) (a0:A0) (h:Y->A0->p:=by
 intro KY K0;repeat' first|simp only[go_sem,seval]|refine cP K0 ?_|refine sB ?_|apply xX<;>intro hc|refine⟨oD,?_⟩|exact oD|exact KY _ lE|fail
 all_goals rfl):p:=h y a0
theorem XC {Y A0 A1 p:Prop} (y:Y) (a0:A0) (a1:A1) (h:Y->A0->A1->p:=by
 intro KY K0 K1;repeat' first|simp only[go_sem,seval]|refine cP K0 ?_|refine cP K1 ?_|refine sB ?_|apply xX<;>intro hc|refine⟨oD,?_⟩|exact oD|exact KY _ lE|fail
 all_goals rfl):p:=h y a0 a1
theorem zg4 {Y A0 A1 A2 A3 p:Prop} (y:Y) (a0:A0) (a1:A1) (a2:A2) (a3:A3) (h:Y->A0->A1->A2->A3->p:=by
 intro KY K0 K1 K2 K3;repeat' first|simp only[go_sem,seval]|refine cP K0 ?_|refine cP K1 ?_|refine cP K2 ?_|refine cP K3 ?_|refine sB ?_|apply xX<;>intro hc|refine⟨oD,?_⟩|exact oD|exact KY _ lE|fail
 all_goals rfl):p:=h y a0 a1 a2 a3
theorem XF {p:Prop} (h:p:=by
 repeat' first|simp only[go_sem,seval]|refine sB ?_|apply xX<;>intro hc|refine⟨oD,?_⟩|exact oD|fail
 all_goals simp_all):p:=h
theorem XG {A0 p:Prop} (a0:A0) (h:A0->p:=by
 intro K0;repeat' first|simp only[go_sem,seval]|refine cP K0 ?_|refine sB ?_|apply xX<;>intro hc|refine⟨oD,?_⟩|exact oD|fail
 all_goals (clear K0;simp_all)):p:=h a0
theorem U1 {A0 A1 p:Prop} (a0:A0) (a1:A1) (h:A0->A1->p:=by
 intro K0 K1;repeat' first|simp only[go_sem,seval]|refine cP K0 ?_|refine cP K1 ?_|refine sB ?_|apply xX<;>intro hc|refine⟨oD,?_⟩|exact oD|fail
 all_goals (clear K0 K1;simp_all)):p:=h a0 a1
theorem ZQ {A0 A1 A2 p:Prop} (a0:A0) (a1:A1) (a2:A2) (h:A0->A1->A2->p:=by
 intro K0 K1 K2;repeat' first|simp only[go_sem,seval]|refine cP K0 ?_|refine cP K1 ?_|refine cP K2 ?_|refine sB ?_|apply xX<;>intro hc|refine⟨oD,?_⟩|exact oD|fail
 all_goals (clear K0 K1 K2;simp_all)):p:=h a0 a1 a2
theorem uZ {Y p:Prop} (y:Y) (h:Wr Y->p:=by
 intro KY;repeat' first|simp only[go_sem,seval]|exact lI KY.1|refine sB ?_|apply xX<;>intro hc|refine⟨oD,?_⟩|exact oD|fail
 all_goals rfl):p:=h ⟨y⟩
theorem Vf {Y A0 p:Prop} (a0:A0) (y:Y) (h:Wr Y->A0->p:=by
 intro KY K0;repeat' first|simp only[go_sem,seval]|refine cP K0 ?_|exact lI KY.1|refine sB ?_|apply xX<;>intro hc|refine⟨oD,?_⟩|exact oD|fail
 all_goals rfl):p:=h ⟨y⟩ a0
theorem ZN {Y A0 A1 p:Prop} (a0:A0) (a1:A1) (y:Y) (h:Wr Y->A0->A1->p:=by
 intro KY K0 K1;repeat' first|simp only[go_sem,seval]|refine cP K0 ?_|refine cP K1 ?_|exact lI KY.1|refine sB ?_|apply xX<;>intro hc|refine⟨oD,?_⟩|exact oD|fail
 all_goals rfl):p:=h ⟨y⟩ a0 a1
theorem wC {Y p:Prop} (y:Y) (h:Wr Y->p:=by
 intro KY;repeat' first|simp only[go_sem,seval]|refine sB ?_|apply xX<;>intro hc|refine⟨oD,?_⟩|exact oD|fail
 exact KY.1):p:=h ⟨y⟩
theorem XH {Y A0 p:Prop} (a0:A0) (y:Y) (h:Wr Y->A0->p:=by
 intro KY K0;repeat' first|simp only[go_sem,seval]|refine cP K0 ?_|refine sB ?_|apply xX<;>intro hc|refine⟨oD,?_⟩|exact oD|fail
 exact KY.1):p:=h ⟨y⟩ a0
theorem lQ {X p:Prop} (x:X) (h:(True->X)->p:=by
 intro KX;repeat' first|simp only[go_sem,seval,KX trivial]|refine sB ?_|apply xX<;>intro hc|refine⟨oD,?_⟩|exact oD|fail
 all_goals rfl):p:=h (fun _=>x)
theorem o7 {X A0 p:Prop} (x:X) (a0:A0) (h:(True->X)->A0->p:=by
 intro KX K0;repeat' first|simp only[go_sem,seval,KX trivial]|refine cP K0 ?_|refine sB ?_|apply xX<;>intro hc|refine⟨oD,?_⟩|exact oD|fail
 all_goals rfl):p:=h (fun _=>x) a0
theorem RU {X A0 A1 p:Prop} (x:X) (a0:A0) (a1:A1) (h:(True->X)->A0->A1->p:=by
 intro KX K0 K1;repeat' first|simp only[go_sem,seval,KX trivial]|refine cP K0 ?_|refine cP K1 ?_|refine sB ?_|apply xX<;>intro hc|refine⟨oD,?_⟩|exact oD|fail
 all_goals rfl):p:=h (fun _=>x) a0 a1
theorem JJ {X A0 A1 A2 p:Prop} (x:X) (a0:A0) (a1:A1) (a2:A2) (h:(True->X)->A0->A1->A2->p:=by
 intro KX K0 K1 K2;repeat' first|simp only[go_sem,seval,KX trivial]|refine cP K0 ?_|refine cP K1 ?_|refine cP K2 ?_|refine sB ?_|apply xX<;>intro hc|refine⟨oD,?_⟩|exact oD|fail
 all_goals rfl):p:=h (fun _=>x) a0 a1 a2
theorem UY {X A0 A1 A2 A3 p:Prop} (x:X) (a0:A0) (a1:A1) (a2:A2) (a3:A3) (h:(True->X)->A0->A1->A2->A3->p:=by
 intro KX K0 K1 K2 K3;repeat' first|simp only[go_sem,seval,KX trivial]|refine cP K0 ?_|refine cP K1 ?_|refine cP K2 ?_|refine cP K3 ?_|refine sB ?_|apply xX<;>intro hc|refine⟨oD,?_⟩|exact oD|fail
 all_goals rfl):p:=h (fun _=>x) a0 a1 a2 a3
theorem XD {X A0 A1 A2 A3 A4 p:Prop} (x:X) (a0:A0) (a1:A1) (a2:A2) (a3:A3) (a4:A4) (h:(True->X)->A0->A1->A2->A3->A4->p:=by
 intro KX K0 K1 K2 K3 K4;repeat' first|simp only[go_sem,seval,KX trivial]|refine cP K0 ?_|refine cP K1 ?_|refine cP K2 ?_|refine cP K3 ?_|refine cP K4 ?_|refine sB ?_|apply xX<;>intro hc|refine⟨oD,?_⟩|exact oD|fail
 all_goals rfl):p:=h (fun _=>x) a0 a1 a2 a3 a4
theorem Zd {X A0 A1 A2 A3 A4 A5 p:Prop} (x:X) (a0:A0) (a1:A1) (a2:A2) (a3:A3) (a4:A4) (a5:A5) (h:(True->X)->A0->A1->A2->A3->A4->A5->p:=by
 intro KX K0 K1 K2 K3 K4 K5;repeat' first|simp only[go_sem,seval,KX trivial]|refine cP K0 ?_|refine cP K1 ?_|refine cP K2 ?_|refine cP K3 ?_|refine cP K4 ?_|refine cP K5 ?_|refine sB ?_|apply xX<;>intro hc|refine⟨oD,?_⟩|exact oD|fail
 all_goals rfl):p:=h (fun _=>x) a0 a1 a2 a3 a4 a5
theorem XE {X A0 A1 A2 A3 A4 A5 A6 p:Prop} (x:X) (a0:A0) (a1:A1) (a2:A2) (a3:A3) (a4:A4) (a5:A5) (a6:A6) (h:(True->X)->A0->A1->A2->A3->A4->A5->A6->p:=by
 intro KX K0 K1 K2 K3 K4 K5 K6;repeat' first|simp only[go_sem,seval,KX trivial]|refine cP K0 ?_|refine cP K1 ?_|refine cP K2 ?_|refine cP K3 ?_|refine cP K4 ?_|refine cP K5 ?_|refine cP K6 ?_|refine sB ?_|apply xX<;>intro hc|refine⟨oD,?_⟩|exact oD|fail
 all_goals rfl):p:=h (fun _=>x) a0 a1 a2 a3 a4 a5 a6
theorem ZP {X A0 A1 A2 A3 A4 A5 A6 A7 p:Prop} (x:X) (a0:A0) (a1:A1) (a2:A2) (a3:A3) (a4:A4) (a5:A5) (a6:A6) (a7:A7) (h:(True->X)->A0->A1->A2->A3->A4->A5->A6->A7->p:=by
 intro KX K0 K1 K2 K3 K4 K5 K6 K7;repeat' first|simp only[go_sem,seval,KX trivial]|refine cP K0 ?_|refine cP K1 ?_|refine cP K2 ?_|refine cP K3 ?_|refine cP K4 ?_|refine cP K5 ?_|refine cP K6 ?_|refine cP K7 ?_|refine sB ?_|apply xX<;>intro hc|refine⟨oD,?_⟩|exact oD|fail
 all_goals rfl):p:=h (fun _=>x) a0 a1 a2 a3 a4 a5 a6 a7
theorem Xn {X A0 A1 A2 A3 A4 A5 A6 A7 A8 A9 p:Prop} (x:X) (a0:A0) (a1:A1) (a2:A2) (a3:A3) (a4:A4) (a5:A5) (a6:A6) (a7:A7) (a8:A8) (a9:A9) (h:(True->X)->A0->A1->A2->A3->A4->A5->A6->A7->A8->A9->p:=by
 intro KX K0 K1 K2 K3 K4 K5 K6 K7 K8 K9;repeat' first|simp only[go_sem,seval,KX trivial]|refine cP K0 ?_|refine cP K1 ?_|refine cP K2 ?_|refine cP K3 ?_|refine cP K4 ?_|refine cP K5 ?_|refine cP K6 ?_|refine cP K7 ?_|refine cP K8 ?_|refine cP K9 ?_|refine sB ?_|apply xX<;>intro hc|refine⟨oD,?_⟩|exact oD|fail
 all_goals rfl):p:=h (fun _=>x) a0 a1 a2 a3 a4 a5 a6 a7 a8 a9
theorem Zh {X p:Prop} (x:X) (h:(True->X)->p:=by
 intro KX;repeat' first|simp only[go_sem,seval,KX trivial]|refine ah ?_|refine sB ?_|apply xX<;>intro hc|refine⟨oD,?_⟩|exact oD|fail
 all_goals rfl):p:=h (fun _=>x)
theorem Xs {X A0 A1 A2 A3 p:Prop} (x:X) (a0:A0) (a1:A1) (a2:A2) (a3:A3) (h:(True->X)->A0->A1->A2->A3->p:=by
 intro KX K0 K1 K2 K3;repeat' first|simp only[go_sem,seval,KX trivial]|refine cP K0 ?_|refine cP K1 ?_|refine cP K2 ?_|refine cP K3 ?_|refine ah ?_|refine sB ?_|apply xX<;>intro hc|refine⟨oD,?_⟩|exact oD|fail
 all_goals rfl):p:=h (fun _=>x) a0 a1 a2 a3
theorem u4 {X Y p:Prop} (x:X) (y:Y) (h:(True->X)->Y->p:=by
 intro KX KY;repeat' first|simp only[go_sem,seval,KX trivial]|refine sB ?_|apply xX<;>intro hc|refine⟨oD,?_⟩|exact oD|exact KY _ lE|fail
 all_goals rfl):p:=h (fun _=>x) y
theorem kR {X Y A0 p:Prop} (x:X) (y:Y) (a0:A0) (h:(True->X)->Y->A0->p:=by
 intro KX KY K0;repeat' first|simp only[go_sem,seval,KX trivial]|refine cP K0 ?_|refine sB ?_|apply xX<;>intro hc|refine⟨oD,?_⟩|exact oD|exact KY _ lE|fail
 all_goals rfl):p:=h (fun _=>x) y a0
theorem yQ {X Y A0 A1 p:Prop} (x:X) (y:Y) (a0:A0) (a1:A1) (h:(True->X)->Y->A0->A1->p:=by
 intro KX KY K0 K1;repeat' first|simp only[go_sem,seval,KX trivial]|refine cP K0 ?_|refine cP K1 ?_|refine sB ?_|apply xX<;>intro hc|refine⟨oD,?_⟩|exact oD|exact KY _ lE|fail
 all_goals rfl):p:=h (fun _=>x) y a0 a1
theorem Xo {X Y A0 A1 A2 p:Prop} (x:X) (y:Y) (a0:A0) (a1:A1) (a2:A2) (h:(True->X)->Y->A0->A1->A2->p:=by
 intro KX KY K0 K1 K2;repeat' first|simp only[go_sem,seval,KX trivial]|refine cP K0 ?_|refine cP K1 ?_|refine cP K2 ?_|refine sB ?_|apply xX<;>intro hc|refine⟨oD,?_⟩|exact oD|exact KY _ lE|fail
 all_goals rfl):p:=h (fun _=>x) y a0 a1 a2
theorem Zf {X A0 p:Prop} (x:X) (a0:A0) (h:(True->X)->A0->p:=by
 intro KX K0;repeat' first|simp only[go_sem,seval,KX trivial]|refine cP K0 ?_|refine sB ?_|apply xX<;>intro hc|refine⟨oD,?_⟩|exact oD|fail
 all_goals (clear KX K0;simp_all)):p:=h (fun _=>x) a0
theorem U0 {X A0 A1 p:Prop} (x:X) (a0:A0) (a1:A1) (h:(True->X)->A0->A1->p:=by
 intro KX K0 K1;repeat' first|simp only[go_sem,seval,KX trivial]|refine cP K0 ?_|refine cP K1 ?_|refine sB ?_|apply xX<;>intro hc|refine⟨oD,?_⟩|exact oD|fail
 all_goals (clear KX K0 K1;simp_all)):p:=h (fun _=>x) a0 a1
theorem Zg {X A0 A1 A2 A3 p:Prop} (x:X) (a0:A0) (a1:A1) (a2:A2) (a3:A3) (h:(True->X)->A0->A1->A2->A3->p:=by
 intro KX K0 K1 K2 K3;repeat' first|simp only[go_sem,seval,KX trivial]|refine cP K0 ?_|refine cP K1 ?_|refine cP K2 ?_|refine cP K3 ?_|refine sB ?_|apply xX<;>intro hc|refine⟨oD,?_⟩|exact oD|fail
 all_goals (clear KX K0 K1 K2 K3;simp_all)):p:=h (fun _=>x) a0 a1 a2 a3
theorem eF {X Y p:Prop} (x:X) (y:Y) (h:(True->X)->Wr Y->p:=by
 intro KX KY;repeat' first|simp only[go_sem,seval,KX trivial]|exact lI KY.1|refine sB ?_|apply xX<;>intro hc|refine⟨oD,?_⟩|exact oD|fail
 all_goals rfl):p:=h (fun _=>x) ⟨y⟩
theorem zr {X Y A0 p:Prop} (x:X) (a0:A0) (y:Y) (h:(True->X)->Wr Y->A0->p:=by
 intro KX KY K0;repeat' first|simp only[go_sem,seval,KX trivial]|refine cP K0 ?_|exact lI KY.1|refine sB ?_|apply xX<;>intro hc|refine⟨oD,?_⟩|exact oD|fail
 all_goals rfl):p:=h (fun _=>x) ⟨y⟩ a0
theorem Xp {X Y A0 A1 p:Prop} (x:X) (a0:A0) (a1:A1) (y:Y) (h:(True->X)->Wr Y->A0->A1->p:=by
 intro KX KY K0 K1;repeat' first|simp only[go_sem,seval,KX trivial]|refine cP K0 ?_|refine cP K1 ?_|exact lI KY.1|refine sB ?_|apply xX<;>intro hc|refine⟨oD,?_⟩|exact oD|fail
 all_goals rfl):p:=h (fun _=>x) ⟨y⟩ a0 a1
theorem QW {X Y A0 A1 A2 p:Prop} (x:X) (a0:A0) (a1:A1) (a2:A2) (y:Y) (h:(True->X)->Wr Y->A0->A1->A2->p:=by
 intro KX KY K0 K1 K2;repeat' first|simp only[go_sem,seval,KX trivial]|refine cP K0 ?_|refine cP K1 ?_|refine cP K2 ?_|exact lI KY.1|refine sB ?_|apply xX<;>intro hc|refine⟨oD,?_⟩|exact oD|fail
 all_goals rfl):p:=h (fun _=>x) ⟨y⟩ a0 a1 a2
theorem Xq {X Y A0 A1 A2 A3 p:Prop} (x:X) (a0:A0) (a1:A1) (a2:A2) (a3:A3) (y:Y) (h:(True->X)->Wr Y->A0->A1->A2->A3->p:=by
 intro KX KY K0 K1 K2 K3;repeat' first|simp only[go_sem,seval,KX trivial]|refine cP K0 ?_|refine cP K1 ?_|refine cP K2 ?_|refine cP K3 ?_|exact lI KY.1|refine sB ?_|apply xX<;>intro hc|refine⟨oD,?_⟩|exact oD|fail
 all_goals rfl):p:=h (fun _=>x) ⟨y⟩ a0 a1 a2 a3
theorem Ze {X Y A0 A1 A2 A3 A4 p:Prop} (x:X) (a0:A0) (a1:A1) (a2:A2) (a3:A3) (a4:A4) (y:Y) (h:(True->X)->Wr Y->A0->A1->A2->A3->A4->p:=by
 intro KX KY K0 K1 K2 K3 K4;repeat' first|simp only[go_sem,seval,KX trivial]|refine cP K0 ?_|refine cP K1 ?_|refine cP K2 ?_|refine cP K3 ?_|refine cP K4 ?_|exact lI KY.1|refine sB ?_|apply xX<;>intro hc|refine⟨oD,?_⟩|exact oD|fail
 all_goals rfl):p:=h (fun _=>x) ⟨y⟩ a0 a1 a2 a3 a4
theorem Xr {X Y A0 A1 A2 A3 A4 A5 p:Prop} (x:X) (a0:A0) (a1:A1) (a2:A2) (a3:A3) (a4:A4) (a5:A5) (y:Y) (h:(True->X)->Wr Y->A0->A1->A2->A3->A4->A5->p:=by
 intro KX KY K0 K1 K2 K3 K4 K5;repeat' first|simp only[go_sem,seval,KX trivial]|refine cP K0 ?_|refine cP K1 ?_|refine cP K2 ?_|refine cP K3 ?_|refine cP K4 ?_|refine cP K5 ?_|exact lI KY.1|refine sB ?_|apply xX<;>intro hc|refine⟨oD,?_⟩|exact oD|fail
 all_goals rfl):p:=h (fun _=>x) ⟨y⟩ a0 a1 a2 a3 a4 a5
theorem UZ {X Y A0 A1 A2 A3 A4 A5 A6 p:Prop} (x:X) (a0:A0) (a1:A1) (a2:A2) (a3:A3) (a4:A4) (a5:A5) (a6:A6) (y:Y) (h:(True->X)->Wr Y->A0->A1->A2->A3->A4->A5->A6->p:=by
 intro KX KY K0 K1 K2 K3 K4 K5 K6;repeat' first|simp only[go_sem,seval,KX trivial]|refine cP K0 ?_|refine cP K1 ?_|refine cP K2 ?_|refine cP K3 ?_|refine cP K4 ?_|refine cP K5 ?_|refine cP K6 ?_|exact lI KY.1|refine sB ?_|apply xX<;>intro hc|refine⟨oD,?_⟩|exact oD|fail
 all_goals rfl):p:=h (fun _=>x) ⟨y⟩ a0 a1 a2 a3 a4 a5 a6
theorem fx {X Y p:Prop} (x:X) (y:Y) (h:(True->X)->Wr Y->p:=by
 intro KX KY;repeat' first|simp only[go_sem,seval,KX trivial]|refine sB ?_|apply xX<;>intro hc|refine⟨oD,?_⟩|exact oD|fail
 exact KY.1):p:=h (fun _=>x) ⟨y⟩
theorem o8 {X Y A0 p:Prop} (x:X) (a0:A0) (y:Y) (h:(True->X)->Wr Y->A0->p:=by
 intro KX KY K0;repeat' first|simp only[go_sem,seval,KX trivial]|refine cP K0 ?_|refine sB ?_|apply xX<;>intro hc|refine⟨oD,?_⟩|exact oD|fail
 exact KY.1):p:=h (fun _=>x) ⟨y⟩ a0
theorem sT {X Y A0 A1 p:Prop} (x:X) (a0:A0) (a1:A1) (y:Y) (h:(True->X)->Wr Y->A0->A1->p:=by
 intro KX KY K0 K1;repeat' first|simp only[go_sem,seval,KX trivial]|refine cP K0 ?_|refine cP K1 ?_|refine sB ?_|apply xX<;>intro hc|refine⟨oD,?_⟩|exact oD|fail
 exact KY.1):p:=h (fun _=>x) ⟨y⟩ a0 a1
theorem JK {X Y A0 A1 A2 p:Prop} (x:X) (a0:A0) (a1:A1) (a2:A2) (y:Y) (h:(True->X)->Wr Y->A0->A1->A2->p:=by
 intro KX KY K0 K1 K2;repeat' first|simp only[go_sem,seval,KX trivial]|refine cP K0 ?_|refine cP K1 ?_|refine cP K2 ?_|refine sB ?_|apply xX<;>intro hc|refine⟨oD,?_⟩|exact oD|fail
 exact KY.1):p:=h (fun _=>x) ⟨y⟩ a0 a1 a2
theorem Zi {X Y A0 A1 A2 A3 p:Prop} (x:X) (a0:A0) (a1:A1) (a2:A2) (a3:A3) (y:Y) (h:(True->X)->Wr Y->A0->A1->A2->A3->p:=by
 intro KX KY K0 K1 K2 K3;repeat' first|simp only[go_sem,seval,KX trivial]|refine cP K0 ?_|refine cP K1 ?_|refine cP K2 ?_|refine cP K3 ?_|refine sB ?_|apply xX<;>intro hc|refine⟨oD,?_⟩|exact oD|fail
 exact KY.1):p:=h (fun _=>x) ⟨y⟩ a0 a1 a2 a3
end Go.Dom
