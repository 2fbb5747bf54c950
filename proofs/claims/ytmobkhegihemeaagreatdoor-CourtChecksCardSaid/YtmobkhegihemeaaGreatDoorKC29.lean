/-
  Part of the proof, part KC29. Own work.
-/
import Derived.Test.YtmobkhegihemeaaGreatDoorKC28
set_option linter.all false
namespace Go.Dom
structure eQ {α:Type} (f:α→PV) (z:Nat):Prop where
 len: ∀x,(f x).cells.length=z
 one: ∀x,∀y∈(f x).cells,y.one=true
 z1:z=1→ ∀x,(f x).cells=[f x]
 zn:z≠1→ ∀x,f x= .agg (f x).cells
def bJ {α:Type} (f:α→PV) (l:List α):List AV:=(l.flatMap fun x=>(f x).cells).map AV.v
variable {α:Type} {f:α→PV} {z:Nat}
theorem eQ.s:eQ PV.s 1:=⟨fun _=>rfl,fun _ y hy=>by cases cO.1 hy;rfl,fun _ _=>rfl,fun h=>absurd rfl h⟩
theorem G0 (h:eQ f z) (l:List α):(l.flatMap fun x=>(f x).cells).length=l.length*z:=by
 induction l with
 |nil=>simp
 |cons x l ih=>rw[dE,bC,ih,h.len,List.length_cons,jF];omega
theorem dI (h:eQ f z) (l:List α):(bJ f l).length=l.length*z:=by rw[bJ,aH,G0 h]
theorem dT (h:eQ f z) (l:List α):(bJ f l).take (l.length*z)=bJ f l:=bM (by rw[dI h];exact au _)
theorem fx (h:eQ f z) (l:List α):(bJ f l).all AV.one=true:=by
 rw[bc];intro y hy;obtain⟨c,hc,rfl⟩:=a5.1 hy;obtain⟨x,-,hx⟩:=iZ.1 hc;exact h.one x c hx
theorem fy (hf:Nat→Option ax) (k:Nat) (l:List α):aQ (view hf (k+1)) (bJ f l)=some (l.flatMap fun x=>(f x).cells):=eF _ _ _
theorem xc (hf:Nat→Option ax) (k:Nat) (l:List α):(bJ f l).flatMap (aN hf (k+1))=[]:=by
 unfold bJ
 induction (l.flatMap fun x=>(f x).cells)with
 |nil=>rfl
 |cons x l ih=>simp_all[aN]
theorem dL (h:eQ f z) (l:List α):chunk z l.length (l.flatMap fun x=>(f x).cells)=l.map f:=by
 induction l with
 |nil=>rfl
 |cons x l ih=>
  have hl:=h.len x;rw[List.length_cons,dE,chunk,List.drop_left' hl,ih,ba];congr 1
  by_cases h1:z=1
  ·rw[if_pos h1,h.z1 h1 x];rfl
  ·rw[if_neg h1,List.take_left' hl];exact(h.zn h1 x).symm
theorem ey {l:List α} {c:AV} {n:Nat} (h:c∈bJ f l):c.bd n=true:=by
 obtain⟨x,-,rfl⟩:=a5.1 h;rfl
theorem dM (l:List α) (x:α):bJ f (l++[x])=bJ f l++(f x).cells.map AV.v:=by
 simp[bJ,re]
theorem sG (h: ∀x,(f x).cells=[f x]) (l:List α) (d:α) {i:Nat} (hi:i<l.length):(bJ f l).getD i .u= .v (f (l.getD i d)):=by
 have e:bJ f l=l.map fun x=>AV.v (f x):=by
  unfold bJ;clear hi
  induction l with
  |nil=>rfl
  |cons x l ih=>rw[dE,h x,eB,ih];rfl
 rw[e];simp[aX,hi]
theorem H5 (h:eQ f z) {hf:Nat→Option ax} {k n ver:Nat} {gr:Bool} {el:Option TypeId} {l:List α} {m:Nat} (hm:m=l.length) (hg:hf n=some ⟨ver,bJ f l,gr,el⟩):view hf (k+2) (.rs n ver 0 m z)=some (.sl (l.map f)):=by
 subst hm;have h1:=dI h l;have h2:=fx h l;have h3:=dT h l;simp[view,hg,h1,h2,h3,fy,dL h]
theorem Ez (h:eQ f z) {hf:Nat→Option ax} {k n ver:Nat} {gr:Bool} {el:Option TypeId} {l:List α} {m:Nat} (hm:m=l.length) (hg:hf n=some ⟨ver,bJ f l,gr,el⟩):aN hf (k+2) (.rs n ver 0 m z)=[n]:=by
 subst hm;simp[aN,hg,dT h,xc]
theorem bj {α:Type} {l:List α} {i:Nat} (d:α) (h:i<l.length):l.take (i+1)=l.take i++[l.getD i d]:=by
 rw[List.take_succ,aU h,aX,aU h];rfl
theorem lr {α:Type} (l:List α) (p:α→Bool):(l.any fun x=> !p x)= !l.all p:=by
 induction l with
 |nil=>rfl
 |cons x l ih=>rw[List.any_cons,List.all_cons,ih];cases p x<;>simp
end Go.Dom
namespace Go.Proofs.YtmobkhegihemeaaGreatDoor
open Go Go.Dom Go.Num
set_option maxRecDepth 100000
set_option maxHeartbeats 16000000
theorem NF (q:eE):aD Tryz.prog 359 [q.pv] (.b (decide (64<q.terms.length))):=by
 obtain⟨g,t,l⟩:=q;have l4:(l.map fR.pv).length=l.length:=aH ..;have hd:decide ((l.length:Int)>64)=decide (64<l.length):=by rw[decide_eq_decide];omega
 unfold eE.pv;refine eW Tryz.call359 Tryz.func359 ?_;repeat' first|simp only[go_sem,seval,l4,hd]|refine sB ?_|(first|apply pX|apply bX)<;>intro hc|refine⟨oD,?_⟩|exact oD|fail
theorem Nw {m:Bytes} (lm:m.length≤8) {o:Bytes} (lo:o.length≤8) (t:fR):aD Tryz.prog 361 [t.pv, .pt (gG (m,o)) 0] (.b (!kG m o t.base)):=by
 obtain⟨b,v,n,a⟩:=t;have h:=vL lm lo b;simp only[fR.pv,gG];generalize kG m o b=z at*;refine eW Tryz.call361 Tryz.func361 ?_;repeat' first|simp only[go_sem,seval]|refine cP h ?_|refine sB ?_|(first|apply pX|apply bX)<;>intro hc|refine⟨oD,?_⟩|exact oD|fail
theorem Rh (b:Bytes):aD Tryz.prog 362 [dC b] (.b (b==[])):=by
 unfold dC;refine eW Tryz.call362 Tryz.func362 ?_;repeat' first|simp only[go_sem,seval]|refine sB ?_|(first|apply pX|apply bX)<;>intro hc|refine⟨oD,?_⟩|exact oD|fail
def bK:List (Bytes×Bytes)→Bytes
 |[]=>[]
 |g::r=>if g.2=[]then bK r else g.2
theorem yU (s:dy) (hl:s.groups.length<1000000):aD Tryz.prog 257 [s.pv] (.s (bK s.groups)):=by
 obtain⟨gs,vs,es⟩:=s;simp only at hl;have l1:(gs.map gG).length=gs.length:=aH ..;unfold dy.pv;simp only;refine eW Tryz.call257 Tryz.func257 ?_;repeat' first|simp only[go_sem,seval,l1]|refine sB ?_|(first|apply pX|apply bX)<;>intro hc|refine⟨oD,?_⟩|exact oD|fail
 refine aj (α:=Nat) (fun i=>gs.length-i) (fun i=>⟨[(1, .p 1000 0 0),(6, .v (.sl (gs.map gG))),(7,E' gs.length),(8,E' i)],[(1000,⟨0,[.v (.sl (gs.map gG)), .v (.sl (vs.map dC)), .v (.sl (es.map eE.pv))],false,none⟩)],_⟩) (fun i=>i≤gs.length∧bK (gs.drop i)=bK gs) 0 (fun _=>au _) ⟨aL _,rfl⟩ ?_ ?_
 ·exact lE
 ·rintro i ⟨hi,hf⟩ R hR;rw[←hf]
  by_cases hlt:i<gs.length
  ·have e1:=getD_map gG gs gO hlt;have hgo:=hR (i+1);rw[←hf]at hgo;rw[aR gO hlt]at hgo⊢;obtain⟨x,hx⟩: ∃x,x=gs.getD i gO:=⟨_,rfl⟩;rw[←hx]at e1 hgo⊢;clear hx hf hR;obtain⟨m,o⟩:=x;simp only[bK]at hgo⊢;simp only[gG]at e1
   by_cases ho:o=[]
   ·subst ho;simp only[if_true]at hgo⊢;have hgo:=hgo ⟨by omega,trivial⟩ (by omega)
    repeat' first|simp only[go_sem,seval,l1,e1,nn]|refine sB ?_|(first|apply pX|apply bX)<;>intro hc|refine⟨oD,?_⟩|exact oD|fail
    refine hgo _ ?_;exact lE
   ·have hb:(o==([]:Bytes))=false:=by simpa using ho
    rw[if_neg ho];repeat' first|simp only[go_sem,seval,l1,e1,hb]|refine sB ?_|(first|apply pX|apply bX)<;>intro hc|refine⟨oD,?_⟩|exact oD|fail
  ·obtain rfl:i=gs.length:=by omega
   rw[cY];repeat' first|simp only[go_sem,seval,l1]|refine sB ?_|(first|apply pX|apply bX)<;>intro hc|refine⟨oD,?_⟩|exact oD|fail
   all_goals rfl
theorem Lh {b:Bytes} (h:b≠[]):aD Tryz.prog 258 [dC b] (E 1):=by
 have hb:(b==([]:Bytes))=false:=by simpa using h
 unfold dC;refine eW Tryz.call258 Tryz.func258 ?_;repeat' first|simp only[go_sem,seval,hb]|refine sB ?_|(first|apply pX|apply bX)<;>intro hc|refine⟨oD,?_⟩|exact oD|fail
structure pW (c sl:Bytes):Prop where
 vc:aa c=true
 vs:aa sl=true
 lc:c.length≤8
 ls:sl.length≤8
 c2:2≤num c
 s2:2≤num sl
def we (c sl b:Bytes):Nat:=num sl*num c*num b
def Rc (c sl b:Bytes):Nat:=num sl*num c*num b-(num c-1)*(num b-1)
def TJ (c sl b:Bytes):PV:= .agg [N (we c sl b),N (Rc c sl b)]
theorem FF {b:Bytes} (h:b.length≤16):num b<c9:=a9 (bV b) (cQ (by decide) h)
theorem zJ {c sl b:Bytes} (hr:pW c sl) (hb:b.length≤16):we c sl b<du:=by
 have h1:num sl*num c<18446744073709551616*18446744073709551616:=fO (ep hr.ls) (ep hr.lc);have h2:we c sl b<18446744073709551616*18446744073709551616*c9:=fO h1 (FF hb);exact a9 h2 (by unfold du c9;decide+kernel)
theorem Re {c sl b:Bytes} (hr:pW c sl):(num c-1)*(num b-1)≤we c sl b:=by
 unfold we;have h1:(num c-1)*(num b-1)≤num c*num b:=jH (by omega) (by omega)
 have h2:num c*num b≤num sl*(num c*num b):=A2 _ (by have:=hr.s2;omega)
 rw[bY];omega
theorem qP {c sl q b:Bytes} (hr:pW c sl) (vb:aa b=true) (hb:b≠[]) (lb:b.length≤16):aD Tryz.prog 260 [.agg [.s c, .s sl, .s q], .s b] (.tup [TJ c sl b,E 0]):=by
 have h64:=np;have hw:=C2;have hML:=zJ hr lb;have hle:=Re (b:=b) hr;have hnc:=ep hr.lc;have hns:=ep hr.ls;have hnb:=qA (bE vb) hb;have hb16:=FF lb;have e1:=fq hr.vc;have e2:=fq hr.vs;have e3:=fq vb;have m1:=NJ (a:=num sl) (b:=num c) (a9 (fO hns hnc) (by unfold du;decide+kernel)) (by omega) (by omega)
 have m2:=NJ (a:=num sl*num c) (b:=num b) hML (a9 (fO hns hnc) (by unfold du;decide+kernel)) (by have:=Ao;omega)
 have s1:=tF (a:=num c) (b:=1) (by have:=hr.c2;omega) (by omega)
 have s2:=tF (a:=num b) (b:=1) (by omega) (by have:=Ao;omega)
 have m3:=NJ (a:=num c-1) (b:=num b-1) (by omega) (by omega) (by have:=Ao;omega)
 have s3:=tF (a:=num sl*num c*num b) (b:=(num c-1)*(num b-1)) hle hML;rw[e1,e2]at m1;rw[e3]at m2;rw[e1]at s1;rw[e3]at s2;have hP:TJ c sl b= .agg [N (num sl*num c*num b),N (num sl*num c*num b-(num c-1)*(num b-1))]:=rfl;rw[hP];clear hML hle hP;generalize num sl*num c*num b=A at*;generalize num sl*num c=B at*;generalize A-(num c-1)*(num b-1)=C at*;generalize (num c-1)*(num b-1)=D at*;refine eW Tryz.call260 Tryz.func260 ?_;repeat' first|simp only[go_sem,seval,dY]|refine cP pV ?_|refine cP m1 ?_|refine cP m2 ?_|refine cP s1 ?_|refine cP s2 ?_|refine cP m3 ?_|refine cP s3 ?_|refine sB ?_|(first|apply pX|apply bX)<;>intro hc|refine⟨oD,?_⟩|exact oD|fail
theorem yT (x:Bool×Bytes):aD Tryz.prog 370 [eg x] (.b (!db x)):=by
 obtain⟨n,a⟩:=x;have hv:=fJ n a;have e:db (n,a)=(aa a&& !(n&&a==[])):=rfl;rw[e];generalize (aa a&& !(n&&a==[]))=b at*;simp only[eg];refine eW Tryz.call370 Tryz.func370 ?_;repeat' first|simp only[go_sem,seval]|refine cP hv ?_|refine sB ?_|(first|apply pX|apply bX)<;>intro hc|refine⟨oD,?_⟩|exact oD|fail
theorem Lg (l:List (Bool×Bytes)) (hl:l.length<1000000):aD Tryz.prog 337 [.sl (l.map eg)] (.b (l.all db)):=by
 have h1:=fp l _ _ (by omega) yT
 have e:(l.all db)= !(l.any fun x=> !db x):=by
  induction l with
  |nil=>rfl
  |cons x l ih=>
   have:=ih (by simp at hl;omega)
   rw[List.all_cons,List.any_cons,this]
   ·cases db x<;>simp
   ·exact fp l _ _ (by simp at hl;omega) yT
 rw[e];generalize (l.any fun x=> !db x)=b at*
 refine eW Tryz.call337 Tryz.func337 ?_;repeat' first|simp only[go_sem,seval]|refine cP h1 ?_|refine sB ?_|(first|apply pX|apply bX)<;>intro hc|refine⟨oD,?_⟩|exact oD|fail
noncomputable def tx (M:Nat) (l:List (Bool×Bytes)) (x:Nat) (t:fR):Nat:=
 x*cL M (cL M (num t.base) t.neg (num t.abs)) (l.getD t.var.toNat kZ).1 (num (l.getD t.var.toNat kZ).2)%M
noncomputable def mw (gs:List (Bytes×Bytes)) (c:Bytes) (l:List (Bool×Bytes)) (q:eE):Nat:=
 q.terms.foldl (tx (num (gs.getD q.lF.toNat gO).1) l) (cL (num (gs.getD q.lF.toNat gO).1) (num q.tgt) (!(c==[])) (num c))
theorem Dc {c:Bytes} (vc:aa c=true):aD Tryz.prog 352 [.agg [.b false, .s c]] (.agg [.b (!(c==[])), .s c]):=by
 have hv:=fJ false c;rw[vc]at hv;have hm:=tQ true c;rw[bZ]at hm;refine eW Tryz.call352 Tryz.func352 ?_;repeat' first|simp only[go_sem,seval]|refine cP hv ?_|refine cP hm ?_|refine sB ?_|(first|apply pX|apply bX)<;>intro hc|refine⟨oD,?_⟩|exact oD|fail
theorem Af {s:dy} (hs:Vg s) (h0:s.eqs≠[]) {c:Bytes} (vc:aa c=true) {l:List (Bool×Bytes)} (hlen:l.length=s.vars.length) (hl: ∀x∈l,db x=true):aD Tryz.prog 339 [s.pv, .s c, .sl (l.map eg)] (.sl (s.eqs.map fun q=>N (mw s.groups c l q))):=by
 obtain⟨gs,vs,es⟩:=s;obtain⟨hg,hq,ng,nv,ne⟩:=hs;simp only at hg hq ng nv ne h0 hlen;have hpos:0<es.length:=ky.2 h0;have l1:(gs.map gG).length=gs.length:=aH ..;have l3:(es.map eE.pv).length=es.length:=aH ..;have l5:(l.map eg).length=l.length:=aH ..;have fr:=oo vc;have ng':=Dc vc;have hM:eQ (fun q=>N (mw gs c l q)) 1:=⟨fun _=>rfl,fun _ y hy=>by cases cO.1 hy;rfl,fun _ _=>rfl,fun h=>absurd rfl h⟩
 have row1: ∀{i:Nat},i<es.length→bJ (fun q=>N (mw gs c l q)) (es.take (i+1))=bJ (fun q=>N (mw gs c l q)) (es.take i)++[.v (N (mw gs c l (es.getD i ku)))]:=fun h=>by
  rw[bj ku h,dM];rfl
 have rn1:bJ (fun q=>N (mw gs c l q)) []=[]:=rfl
 unfold dy.pv;simp only;refine eW Tryz.call339 Tryz.func339 ?_;repeat' first|simp only[go_sem,seval,l3]|refine sB ?_|(first|apply pX|apply bX)<;>intro hc|refine⟨oD,?_⟩|exact oD|fail
 refine ae ?_;have e1:=getD_map eE.pv es ku hpos;obtain⟨q1,q2,q3,q4,q5⟩:=hq _ (ay ku hpos);have r1:=row1 hpos;obtain⟨x,hx⟩: ∃x,x=es.getD 0 ku:=⟨_,rfl⟩;rw[←hx]at e1 q1 q2 q3 q4 q5 r1;clear hx;obtain⟨gr,tg,ts⟩:=x;simp only at q1 q2 q3 q4 q5;have hgl:gr.toNat<gs.length:=by omega
 have kg:=hg _ (ay gO hgl);have e3:=getD_map gG gs gO hgl;have hmQ:mw gs c l ⟨gr,tg,ts⟩=ts.foldl (tx (num (gs.getD gr.toNat gO).1) l) (cL (num (gs.getD gr.toNat gO).1) (num tg) (!(c==[])) (num c)):=rfl;obtain⟨z,hz⟩: ∃z,z=gs.getD gr.toNat gO:=⟨_,rfl⟩;rw[←hz]at q3 q5 kg e3 hmQ;clear hz;obtain⟨m,o⟩:=z;simp only at q3 q5 kg hmQ;obtain⟨vt,gt⟩:=(dp kg.1).1 q3;have m1:=(jY kg.1).2.2.1;have hzc:(!(c==[])&&c==[])=false:=by cases(c==([]:Bytes))<;>rfl
 have xe:=jK kg.2.1 kg.2.2 kg.1 gt vc hzc;rw[fq vt]at xe;have gx0:=gt.cL m1 (!(c==[])) (num c);obtain⟨x0,hx0⟩: ∃x0,x0=cL (num m) (num tg) (!(c==[])) (num c):=⟨_,rfl⟩;rw[←hx0]at xe gx0 hmQ;rw[hmQ]at r1;clear hx0 hmQ gt vt;have l4:(ts.map fR.pv).length=ts.length:=aH ..;simp only[gG]at e3;simp only[eE.pv]at e1;repeat' first|simp only[go_sem,seval,l1,l3,e1,e3,l4]|refine cP fr ?_|refine cP ng' ?_|refine cP xe ?_|refine sB ?_|(first|apply pX|apply bX)<;>intro hc|refine⟨oD,?_⟩|exact oD|fail
 refine aj (α:=Nat×Nat) (fun s=>ts.length-s.1) (fun s=>⟨[(1, .v (.s c)),(2, .v (.sl (l.map eg))),(3, .p 1000 0 0),(7, .sn),(18, .v (.sl (es.map eE.pv))),(19,E' es.length),(20,E' 0),(10, .p 1018 0 0),(11, .v (N s.2)),(41, .v (.sl (ts.map fR.pv))),(42,E' ts.length),(43,E' s.1)],[(1000,⟨0,[.v (.sl (gs.map gG)), .v (.sl (vs.map dC)), .v (.sl (es.map eE.pv))],false,none⟩),(1018,⟨0,[.v (.s m), .v (.s o)],false,some 24⟩)],1036⟩) (fun s=>s.1≤ts.length∧GP m o s.2∧(ts.drop s.1).foldl (tx (num m) l) s.2=ts.foldl (tx (num m) l) x0) (0,x0) (fun _=>bQ rfl) ⟨aL _,gx0,rfl⟩ ?_ ?_
 ·(refine AS.Le.of (by first|decide|omega) ?_ ?_<;>simp[cl,cj,aF,ar,AV.bd,AV.bd.bdL,u8,ah,ai,aq])
  skip
 ·rintro⟨j,x⟩ ⟨hj,gx,hf⟩ R' hR';simp only at hj gx hf
  by_cases hjt:j<ts.length
  ·have e2:=getD_map fR.pv ts ka hjt;obtain⟨t1,t2,t3,t4⟩:=q5 _ (ay ka hjt);rw[aR ka hjt]at hf;obtain⟨y,hy⟩: ∃y,y=ts.getD j ka:=⟨_,rfl⟩;rw[←hy]at e2 t1 t2 t3 t4 hf;obtain⟨b,v,n,a⟩:=y;simp only at t1 t2 t3 t4;rw[List.foldl_cons]at hf;obtain⟨kb1,kb2⟩:=(dp kg.1).1 t3;have hvl:v.toNat<l.length:=by omega
   have e4:=getD_map eg l kZ hvl;have kr:=hl _ (ay kZ hvl);have hmT:tx (num m) l x ⟨b,v,n,a⟩=x*cL (num m) (cL (num m) (num b) n (num a)) (l.getD v.toNat kZ).1 (num (l.getD v.toNat kZ).2)%num m:=rfl;obtain⟨w,hw⟩: ∃w,w=l.getD v.toNat kZ:=⟨_,rfl⟩;rw[←hw]at e4 kr hmT;obtain⟨rn,ra⟩:=w;simp only[db,aZ,fF]at t4 kr;have m1:=(jY kg.1).2.2.1;have x1:=jK kg.2.1 kg.2.2 kg.1 kb2 t4.1 t4.2;rw[fq kb1]at x1;have gy:=kb2.cL m1 n (num a);have x2:=jK kg.2.1 kg.2.2 kg.1 gy kr.1 kr.2;have gz:=gy.cL m1 rn (num ra);have x3:=Fk kg.2.1 kg.2.2 kg.1 gx gz;have hgo':=hR' (j+1,tx (num m) l x ⟨b,v,n,a⟩) ⟨by show j+1≤ _;omega,by rw[hmT];exact gx.mul gz,hf⟩ (by show ts.length-(j+1)<ts.length-j;omega)
   rw[hmT]at hgo';clear hR' hy t3 t4 q5 hf hw kb1 kb2 gx gy gz hmT kr;simp only[fR.pv]at e2;simp only[eg]at e4;have hd3: ∀ _:True,v<(l.length:Int):=fun _=>by omega
   generalize cL (num m) (cL (num m) (num b) n (num a)) rn (num ra)=z at*;generalize cL (num m) (num b) n (num a)=y at*;repeat' first|simp only[go_sem,seval,l3,l4,l5,e2,e4]|refine cP x1 ?_|refine cP x2 ?_|refine cP x3 ?_|refine sB ?_|(first|apply pX|apply bX)<;>intro hc|refine⟨oD,?_⟩|exact oD|fail
   refine hgo' _ ?_
   (refine AS.Le.of (by first|decide|omega) ?_ ?_<;>simp[cl,cj,aF,ar,AV.bd,AV.bd.bdL,u8,ah,ai,aq])
   skip
  ·obtain rfl:j=ts.length:=by omega
   rw[cY]at hf;simp only[List.foldl_nil]at hf;subst hf;repeat' first|simp only[go_sem,seval,l3,l4]|refine sB ?_|(first|apply pX|apply bX)<;>intro hc|refine⟨oD,?_⟩|exact oD|fail
   refine aj (α:=Nat) (fun j=>es.length-(j+1)) (fun j=>⟨[(1, .v (.s c)),(2, .v (.sl (l.map eg))),(3, .p 1000 0 0),(7, .rs 1040 j 0 (j+1) 1),(18, .v (.sl (es.map eE.pv))),(19,E' es.length),(20,E' (j+1))],[(1000,⟨0,[.v (.sl (gs.map gG)), .v (.sl (vs.map dC)), .v (.sl (es.map eE.pv))],false,none⟩),(1040,⟨j,bJ (fun q=>N (mw gs c l q)) (es.take (j+1)),true,some 22⟩)],1044⟩) (fun j=>j+1≤es.length) 0 (fun _=>bQ rfl) hpos ?_ ?_
   ·rw[cW,r1,List.take_zero,rn1];exact lE
   ·clear e1 e3 q1 q2 q3 q4 q5 kg gx0 xe r1 l4;intro i hi R hR;have hj1:(es.take (i+1)).length=i+1:=by rw[cG];omega
    have p1:=dI hM (es.take (i+1));have p2:=dT hM (es.take (i+1));rw[hj1,dP]at p1 p2;have hw1: ∀ _:True,((i:Int)+1)=((i+1:Nat):Int):=fun _=>by omega
    by_cases hlt:i+1<es.length
    ·have hgo:=hR (i+1) (by omega) (by omega)
     clear hR;have e1:=getD_map eE.pv es ku hlt;obtain⟨q1,q2,q3,q4,q5⟩:=hq _ (ay ku hlt);have r1:=row1 hlt;obtain⟨x,hx⟩: ∃x,x=es.getD (i+1) ku:=⟨_,rfl⟩;rw[←hx]at e1 q1 q2 q3 q4 q5 r1;clear hx;obtain⟨gr,tg,ts⟩:=x;simp only at q1 q2 q3 q4 q5;have hgl:gr.toNat<gs.length:=by omega
     have kg:=hg _ (ay gO hgl);have e3:=getD_map gG gs gO hgl;have hmQ:mw gs c l ⟨gr,tg,ts⟩=ts.foldl (tx (num (gs.getD gr.toNat gO).1) l) (cL (num (gs.getD gr.toNat gO).1) (num tg) (!(c==[])) (num c)):=rfl;obtain⟨z,hz⟩: ∃z,z=gs.getD gr.toNat gO:=⟨_,rfl⟩;rw[←hz]at q3 q5 kg e3 hmQ;clear hz;obtain⟨m,o⟩:=z;simp only at q3 q5 kg hmQ;obtain⟨vt,gt⟩:=(dp kg.1).1 q3;have m1:=(jY kg.1).2.2.1;have hzc:(!(c==[])&&c==[])=false:=by cases(c==([]:Bytes))<;>rfl
     have xe:=jK kg.2.1 kg.2.2 kg.1 gt vc hzc;rw[fq vt]at xe;have gx0:=gt.cL m1 (!(c==[])) (num c);obtain⟨x0,hx0⟩: ∃x0,x0=cL (num m) (num tg) (!(c==[])) (num c):=⟨_,rfl⟩;rw[←hx0]at xe gx0 hmQ;rw[hmQ]at r1;clear hx0 hmQ gt vt;have l4:(ts.map fR.pv).length=ts.length:=aH ..;simp only[gG]at e3;simp only[eE.pv]at e1;rw[r1]at hgo;repeat' first|simp only[go_sem,seval,l1,l3,e1,e3,l4]|refine cP fr ?_|refine cP ng' ?_|refine cP xe ?_|refine sB ?_|(first|apply pX|apply bX)<;>intro hc|refine⟨oD,?_⟩|exact oD|fail
     refine aj (α:=Nat×Nat) (fun s=>ts.length-s.1) (fun s=>⟨[(1, .v (.s c)),(2, .v (.sl (l.map eg))),(3, .p 1000 0 0),(7, .rs 1040 i 0 (i+1) 1),(18, .v (.sl (es.map eE.pv))),(19,E' es.length),(20,E' (i+1)),(10, .p 1055 0 0),(11, .v (N s.2)),(41, .v (.sl (ts.map fR.pv))),(42,E' ts.length),(43,E' s.1)],[(1000,⟨0,[.v (.sl (gs.map gG)), .v (.sl (vs.map dC)), .v (.sl (es.map eE.pv))],false,none⟩),(1055,⟨0,[.v (.s m), .v (.s o)],false,some 24⟩),(1040,⟨i,bJ (fun q=>N (mw gs c l q)) (es.take (i+1)),true,some 22⟩)],1073⟩) (fun s=>s.1≤ts.length∧GP m o s.2∧(ts.drop s.1).foldl (tx (num m) l) s.2=ts.foldl (tx (num m) l) x0) (0,x0) (fun _=>bQ rfl) ⟨aL _,gx0,rfl⟩ ?_ ?_
     ·(refine AS.Le.of (by first|decide|omega) ?_ ?_<;>simp[cl,cj,aF,ar,AV.bd,AV.bd.bdL,u8,ah,ai,aq])
      all_goals (intro c hc;exact ey hc)
     ·rintro⟨j,x⟩ ⟨hj,gx,hf⟩ R' hR';simp only at hj gx hf
      by_cases hjt:j<ts.length
      ·have e2:=getD_map fR.pv ts ka hjt;obtain⟨t1,t2,t3,t4⟩:=q5 _ (ay ka hjt);rw[aR ka hjt]at hf;obtain⟨y,hy⟩: ∃y,y=ts.getD j ka:=⟨_,rfl⟩;rw[←hy]at e2 t1 t2 t3 t4 hf;obtain⟨b,v,n,a⟩:=y;simp only at t1 t2 t3 t4;rw[List.foldl_cons]at hf;obtain⟨kb1,kb2⟩:=(dp kg.1).1 t3;have hvl:v.toNat<l.length:=by omega
       have e4:=getD_map eg l kZ hvl;have kr:=hl _ (ay kZ hvl);have hmT:tx (num m) l x ⟨b,v,n,a⟩=x*cL (num m) (cL (num m) (num b) n (num a)) (l.getD v.toNat kZ).1 (num (l.getD v.toNat kZ).2)%num m:=rfl;obtain⟨w,hw⟩: ∃w,w=l.getD v.toNat kZ:=⟨_,rfl⟩;rw[←hw]at e4 kr hmT;obtain⟨rn,ra⟩:=w;simp only[db,aZ,fF]at t4 kr;have m1:=(jY kg.1).2.2.1;have x1:=jK kg.2.1 kg.2.2 kg.1 kb2 t4.1 t4.2;rw[fq kb1]at x1;have gy:=kb2.cL m1 n (num a);have x2:=jK kg.2.1 kg.2.2 kg.1 gy kr.1 kr.2;have gz:=gy.cL m1 rn (num ra);have x3:=Fk kg.2.1 kg.2.2 kg.1 gx gz;have hgo':=hR' (j+1,tx (num m) l x ⟨b,v,n,a⟩) ⟨by show j+1≤ _;omega,by rw[hmT];exact gx.mul gz,hf⟩ (by show ts.length-(j+1)<ts.length-j;omega)
       rw[hmT]at hgo';clear hR' hy t3 t4 q5 hf hw kb1 kb2 gx gy gz hmT kr;simp only[fR.pv]at e2;simp only[eg]at e4;have hd3: ∀ _:True,v<(l.length:Int):=fun _=>by omega
       generalize cL (num m) (cL (num m) (num b) n (num a)) rn (num ra)=z at*;generalize cL (num m) (num b) n (num a)=y at*;repeat' first|simp only[go_sem,seval,l3,l4,l5,e2,e4]|refine cP x1 ?_|refine cP x2 ?_|refine cP x3 ?_|refine sB ?_|(first|apply pX|apply bX)<;>intro hc|refine⟨oD,?_⟩|exact oD|fail
       refine hgo' _ ?_
       (refine AS.Le.of (by first|decide|omega) ?_ ?_<;>simp[cl,cj,aF,ar,AV.bd,AV.bd.bdL,u8,ah,ai,aq])
       all_goals (intro c hc;exact ey hc)
      ·obtain rfl:j=ts.length:=by omega
       rw[cY]at hf;simp only[List.foldl_nil]at hf;subst hf;repeat' first|simp only[go_sem,seval,l3,l4,p1,p2]|refine sB ?_|(first|apply pX|apply bX)<;>intro hc|refine⟨oD,?_⟩|exact oD|fail
       refine hgo _ ?_
       (refine AS.Le.of (by first|decide|omega) ?_ ?_<;>simp[cl,cj,aF,ar,AV.bd,AV.bd.bdL,u8,ah,ai,aq])
       all_goals (intro c hc;rcases hc with h|h<;>first|exact ey h|(subst h;rfl))
    ·obtain hjv:i+1=es.length:=by omega
     rw[hjv,cM]at p1 p2;rw[hjv,cM];have p3:=fx hM es;have p4:chunk 1 es.length (List.flatMap (fun x=>[PV.s (aP (mw gs c l x))]) es)=es.map fun q=>N (mw gs c l q):=dL hM es
     repeat' first|simp only[go_sem,seval,l3,p1,p2,p3,p4,fy]|refine sB ?_|(first|apply pX|apply bX)<;>intro hc|refine⟨oD,?_⟩|exact oD|fail
end Go.Proofs.YtmobkhegihemeaaGreatDoor
