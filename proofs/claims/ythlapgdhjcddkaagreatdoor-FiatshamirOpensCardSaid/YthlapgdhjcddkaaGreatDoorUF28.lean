/- Part of the proof. -/
import Derived.Test.YthlapgdhjcddkaaGreatDoorUF27
import Derived.Test.YthlapgdhjcddkaaGreatDoorUF25
set_option linter.all false
set_option maxHeartbeats 16000000
set_option maxRecDepth 100000
namespace Go.Proofs.Tryz
open Go Go.Dom Go.Num
end Go.Proofs.Tryz
namespace Go.Proofs.Tryz
open Go Go.Dom
theorem AN (k:Nat) {c:Int} (hc:c=IntKind.u8.wrap (k:Int)) (l:List Bytes) (hm:l≠[]) (hn:l.length<=1000) (hb: ∀s∈l,s.length<=100000):aH 152 [.i .u8 c, .sl (l.map .s)] (.s (mJ (iw k l))):=by
 have h:=SG k hc [] l hm (by simpa using hn) (by simpa using hb)
 rw[List.nil_append,cb]at h;refine eW call152 func152 ?_;repeat' first|simp only[go_sem,seval]|refine cV h ?_|refine oE ?_|apply xX<;>intro hc
theorem Ue (l:Bytes) (hl:l.length<=100000):aH 76 [.s l] (.s (mG l)):=by
 have h:=AN 78 (c:=78) rfl [l] (by simp) (by simp) (by simp;omega)
 simp only[b8,cb]at h;refine eW call76 func76 ?_;exact z1 @h
theorem lW (st l d:Bytes) (h1:st.length<=100000) (h2:l.length<=100000) (h3:d.length<=100000):aH 75 [.s st, .s l, .s d] (.s (cZ st l d)):=by
 have h:=AN 65 (c:=65) rfl [st,l,d] (by simp) (by simp) (by intro s hs;simp at hs;rcases hs with rfl|rfl|rfl<;>assumption)
 simp only[b8,cb]at h;refine eW call75 func75 ?_;exact z1 @h
theorem kD (st l:Bytes) (xs:List Bytes) (h1:st.length<=100000) (h2:l.length<=100000) (h0:xs≠[]) (hn:xs.length<=900) (h3: ∀x∈xs,x.length<=100000):aH 79 [.s st, .s l, .sl (xs.map .s)] (.s (cY st l xs)):=by
 have h:=SF 76 (c:=76) rfl [st,l] xs h0 (by simp;omega) (by intro s hs;simp at hs;rcases hs with rfl|rfl|hs<;>first|assumption|exact h3 s hs)
 simp only[b8,cb]at h;refine eW call79 func79 ?_;exact z1 @h
theorem vd (st l:Bytes) (n:Bool) (a:Bytes) (h1:st.length<=100000) (h2:l.length<=100000) (h3:a.length<=99999):aH 154 [.s st, .s l, .sl [.agg [.b n, .s a]]] (.s (Ef st l [(n,a)])):=by
 have h:=SE 73 (c:=73) rfl [st,l] n a (by simp) (by intro s hs;simp at hs;rcases hs with rfl|rfl|rfl<;>first|assumption|(simp[nV];omega))
 simp only[b8,cb]at h;refine eW call154 func154 ?_;exact z1 @h
theorem IS:(2^64)+(2^64)<ek:=by decide+kernel
theorem U4 {a b m:Nat} (ha:a<m) (hb:b<m) (hm:m<(2^64)):aH 203 [N a,N b,N m] (N ((a+b)%m)):=by
 have hW:=IS;have h1:=Bl (a:=m) (b:=b) oO oO;have h2:=zS (a:=a) (b:=m-b) oO oO
 by_cases hge:m-b<=a
 ·have h3:=Bl (a:=a) (b:=m-b) hge oO;have h4: ∀ _:True,(0:Int)<=a7 a (m-b):=fun _=>dY.2 hge
  have h5: ∀ _:True,decide (a7 a (m-b)>=0)=true:=fun _=>aQ (h4 oT)
  have e:(a+b)%m=a-(m-b):=by rw[show a+b=(a-(m-b))+m by omega,Nat.add_mod_right,bV oO]
  rw[e];generalize a7 a (m-b)=cm at*;refine eW call203 func203 ?_;exact ry (h5 oT) @h1 @h2 @h3 oT
 ·have h3:=VR (a:=a) (b:=b) oO;have h4: ∀ _:True,¬(0:Int)<=a7 a (m-b):=fun _ h=>hge (dY.1 h)
  have h5: ∀ _:True,decide (a7 a (m-b)>=0)=false:=fun _=>aS (h4 oT)
  rw[bV oO];generalize a7 a (m-b)=cm at*;refine eW call203 func203 ?_;exact ry (h5 oT) @h1 @h2 @h3 oT
theorem F8 {a b m:Nat} (ha:a<(2^64)) (hb:b<(2^64)) (hm:m<(2^64)) (h0:0<m):aH 145 [N a,N b,N m] (.tup [N ((a+b)%m),E 0]):=by
 have hc:=fun nm=>Di nm (b7 a) (b7 b) (b7 m)
 rw[Cd ha (vN hb) hm h0]at hc;have hp:=U4 (a:=a%m) (b:=b%m) (m:=m) (aV _ h0) (aV _ h0) hm;rw[<-jP]at hp;refine eW call145 func145 ?_;repeat' first|simp only[go_sem,seval]|(refine bK (hc _) (by simp) ?_)|refine cP (mD ha hm h0) ?_|refine cP (mD hb hm h0) ?_|refine cP hp ?_|refine oE ?_|apply xX<;>intro hc
abbrev SB:TypeId:=222
theorem BQ (st b:Bytes) (hs:st.length<=100000) (vb:ae b=true) (b0:b≠[]) (lb:b.length<=8):aH 80 [.s st, .s b] (.tup [N (ic st b),E 0]):=by
 have hv:=aX b;rw[vb]at hv;have hbb:(b==([]:Bytes))=false:=by simpa using b0
 have w1:=fun nm=>acB SB 1007 nm
 have w2:=fun nm=>WE 1014 nm 0 oC
 have w3:=fun nm=>It FR 1014 1016 nm 7 (be 8 0) oC oC oC
 have hp:=AN 67 (c:=67) rfl [st,be 8 0] (by simp) (by simp) (by intro s hs';simp at hs';rcases hs' with rfl|rfl;exact hs;simp[cX])
 simp only[b8,cb]at hp;have hp:aH 152 [.i .u8 67, .sl [.s st, .s (be 8 0)]] (.s (ru st)):=hp;have hcl:=Bo st;have htr:ic st b=num ((ru st).take (b.length+8))%num b:=rfl;rw[htr];generalize ru st=code at*;have w4:=fun nm=>wsF SB OG 1007 nm code oO oO
 have w5:=fun nm=>acA SB 1007 1022 nm 0 code oC
 have w6:=fun nm=>It SB 1007 1022 nm 0 code oC oO oO
 have hd1: ∀ _:True,decide ((0:Int)<(b.length:Int)+8)=true:=fun _=>by simp;omega
 refine eW call80 func80 ?_;refine jA @hbb @hv ?_;refine aq ?_;repeat' first|simp only[go_sem,seval,hbb,hd1 oT]|(refine bK (w1 _) (by simp[az,bF]) ?_)|(refine bK (w2 _) (by simp[az,bF]) ?_)|(refine bK (w3 _) (by simp[az]) ?_)|(refine bK (w4 _) (by simp[az,bF]) ?_)|refine cP hp ?_|refine oE ?_|apply xX<;>intro hc
 refine aq ?_;have hd2: ∀ _:True,decide ((32:Int)<(b.length:Int)+8)=false:=fun _=>by simp;omega
 have ht8: ∀ _:True,((b.length:Int)+8).toNat=b.length+8:=fun _=>oO
 rw[hcl]at w5;repeat' first|simp only[go_sem,seval,hcl,hd2 oT,ht8 oT]|(refine bK (w5 _) (by simp[az]) ?_)|(refine bK (w6 _) (by simp[az]) ?_)|refine oE ?_|apply xX<;>intro hc
 have hll:(code.take (b.length+8)).length<=32:=by rw[bQ];omega
 generalize code.take (b.length+8)=l at hll⊢;have hm:=ga lb;have hm0:0<num b:=by
  rcases kH (num b)with h|h
  ·exact aJ (by have:=fA vb;rw[h]at this;injection this with h1;exact h1.symm) b0
  ·exact h
 have hN:(.s b:PV)=N (num b):=(fA vb).symm;rw[hN];generalize num b=m at*;have h256:aH 24 [.i .u64 256] (N 256):=iC 256 oC;clear w1 w2 w3 w4 w5 w6 hp hd1 hd2 ht8 hv;refine ah (α:=Nat) (fun i=>l.length-i) (fun i=>⟨[(1, .v (N m)),(9, .v (N (num (l.take i)%m))),(37, .v (.sl (l.map u8))),(38,E' l.length),(39,E' i)],[],_⟩) (fun i=>i<=l.length) 0 (fun _=>aA _) (aD _) ?_ ?_
 ·(refine AS.Le.of (by first|decide|omega) ?_ ?_<;>simp[cU,cT,aO,az,AV.bd,AV.bd.bdL,u8,aj,ak,an])
  all_goals (rw[show num []=0 from rfl,Nat.zero_mod];rfl)
 ·intro i hi R hR
  by_cases hit:i<l.length
  ·have e2:=getD_map u8 l 0 hit;have hgo:=hR (i+1) oO oO;rw[lV hit]at hgo;have hc:(l.getD i 0).toNat<256:=(l.getD i 0).toNat_lt;have hou:aH 24 [.i .u64 ((l.getD i 0).toNat:Nat)] (N (l.getD i 0).toNat):=iC _ oO;have w1: ∀ _:True,IntKind.u64.wrap (((l.getD i 0).toNat:Nat):Int)=(((l.getD i 0).toNat:Nat):Int):=fun _=>by rw[BT];omega
   generalize (l.getD i 0)=y at*;generalize num (l.take i)=x at*;have hx:x%m<m:=aV _ hm0;have hx2:x%m*256%m<m:=aV _ hm0;have h1:=qY (a:=x%m) (b:=256) (m:=m) oO oC hm hm0;have h2:=F8 (a:=x%m*256%m) (b:=y.toNat) (m:=m) oO oO hm hm0;have e:(x%m*256%m+y.toNat)%m=(x*256+y.toNat)%m:=by
    rw[jP,eQ,<-jP,jP (x%m*256),jt,<-jP]
   rw[e]at h2;clear hR hi e;repeat' first|simp only[go_sem,seval,e2,w1 oT]|refine cP h256 ?_|refine cP h1 ?_|refine cP h2 ?_|refine cP hou ?_|refine oE ?_|apply xX<;>intro hc
   all_goals (refine hgo _ ?_)
   (refine AS.Le.of (by first|decide|omega) ?_ ?_<;>simp[cU,cT,aO,az,AV.bd,AV.bd.bdL,u8,aj,ak,an])
   all_goals first|omega|skip
  ·have h:i=l.length:=oO;rw[h,bm];exact z0
theorem w0:IntKind.u32.wrap 0=0:=rfl
def m8 (x c:Nat):Nat:=(x*256+c)%4294967296



abbrev mI:Bytes:=[118,97,114,105,97,98,108,101]
abbrev mE:Bytes:=[98,97,115,101]
abbrev uX:Bytes:=[99,111,101,102,102,105,99,105,101,110,116]
abbrev js:Bytes:=[101,113,117,97,116,105,111,110]
abbrev mH:Bytes:=[116,97,114,103,101,116]
abbrev pI:Bytes:=[103,114,111,117,112,115]
abbrev rj:Bytes:=[98,111,117,110,100,115]
def fC (st:Bytes) (t:dx):Bytes:=Ef (cY (cZ st mI (cF t.var.toNat)) mE [t.base]) uX [(t.neg,t.abs)]
def fB (st:Bytes) (q:bZ):Bytes:=q.terms.foldl fC (cY (cZ st js (cF q.ig.toNat)) mH [q.tgt])
def gn (st:Bytes) (s:aT):Bytes:=s.eqs.foldl fB (cY (cY st pI (s.groups.flatMap fun g=>[g.1,g.2])) rj s.vars)
structure BdS (s:aT):Prop where
 g: ∃m o,s.groups=[(m,o)]/\m.length<=1000/\o.length<=1000
 v0:s.vars≠[]
 nv:s.vars.length<=64
 v: ∀b∈s.vars,b.length<=1000
 ne:s.eqs.length<=64
 q: ∀q∈s.eqs,0<=q.ig/\q.ig<100/\q.tgt.length<=1000/\ ∃t,q.terms=[t]/\0<=t.var/\t.var<100/\t.base.length<=1000/\t.abs.length<=1000
theorem dB {α β:Type} (f:β->α->β) (b:β) {l:List α} {i:Nat} (d:α) (h:i<l.length):(l.take (i+1)).foldl f b=f ((l.take i).foldl f b) (l.getD i d):=by
 rw[aL d h,List.foldl_append];rfl
theorem mj {P:Program} [cW P] {Q:AX->AS->Prop} {nx:Nat} {bf:Option (List Nat)} {nn:Nat} {d:Option Nat} {ops:List j9} {k:Nat} {s:AS} {tr:List (Nat×List Nat×List Nat)} {K:List Fr} {nm:Nat} {f:FuncId} {α:Type} {g:α->PV} {z n ver m:Nat} {l:List α} {gr:Bool} {el:Option TypeId} {x y r:PV}
  (he:qG P f [x,y, .sl (l.map g)] r) (hrow:cH g z) (hr:r.flat=true) (hg:az s.h n=some ⟨ver,aP g l,gr,el⟩) (hm:m=l.length) (hK:RW P Q nx bf nn ops (k+1) (s.sM d (.v r) []) (xJ bf k [n] [] tr) K):
  CR P Q nx bf nn nm (.v (.fn (.func f))) [.v x, .v y, .rs n ver 0 m z] d ops k s tr K:=by
 refine lO he ?_ hr ?_
 ·simp[bA,iH hrow hm hg];rfl
 ·have:[AV.v x,AV.v y,AV.rs n ver 0 m z].flatMap (aW (az s.h) 9)=[n]:=by simp[nQ hrow hm hg];rfl
  rw[this];exact hK

abbrev F0:PV:= .agg [.sl []]
abbrev C0:PV:= .agg [.sl [], .sl []]
theorem Jy:aH 155 [F0] (.tup [E 0, .b true]):=by
 refine eW call155 func155 ?_;exact z0
theorem Jd:aH 147 [F0,E 0] (E 0):=by
 refine eW call147 func147 ?_;exact z1 @Jy
theorem WK:aH 78 [F0] (.tup [.s [],E 0]):=by
 refine eW call78 func78 ?_;exact z1 @Jy
theorem De:aH 71 [C0] (E 0):=by
 refine eW call71 func71 ?_;exact YY @Jd
end Go.Proofs.Tryz
namespace Go.Proofs.Tryz
open Go Go.Dom Go.Num
variable {c:Bytes}
theorem CY (x:Bool×Bytes):aH 189 [ca x] (.b (!cr x)):=by
 obtain⟨n,a⟩:=x;have hv:=gY n a;have e:cr (n,a)=(ae a&& !(n&&a==[])):=rfl;rw[e];generalize (ae a&& !(n&&a==[]))=b at*;simp only[ca];refine eW call189 func189 ?_;exact z1 @hv
theorem Bh (l:List (Bool×Bytes)) (hl:l.length<1000000):aH 104 [.sl (l.map ca)] (.b (l.all cr)):=by
 have h1:=fL l _ _ oO CY;have e:(l.all cr)= !(l.any fun x=> !cr x):=by
  induction l with
  |nil=>rfl
  |cons x l ih=>
   have:=ih (by simp at hl;omega)
   rw[List.all_cons,List.any_cons,this]
   ·cases cr x<;>simp
   ·exact fL l _ _ (by simp at hl;omega) CY
 rw[e];generalize (l.any fun x=> !cr x)=b at*
 refine eW call104 func104 ?_;exact z1 @h1
noncomputable def o6 (M:Nat) (l:List (Bool×Bytes)) (x:Nat) (t:dx):Nat:=
 x*dM M (dM M (num t.base) t.neg (num t.abs)) (l.getD t.var.toNat eT).1 (num (l.getD t.var.toNat eT).2)%M
noncomputable def fo (gs:List (Bytes×Bytes)) (c:Bytes) (l:List (Bool×Bytes)) (q:bZ):Nat:=
 q.terms.foldl (o6 (num (gs.getD q.ig.toNat dL).1) l) (dM (num (gs.getD q.ig.toNat dL).1) (num q.tgt) (!(c==[])) (num c))
theorem Hh (vc:ae c=true):aH 198 [.agg [.b false, .s c]] (.agg [.b (!(c==[])), .s c]):=by
 have hv:=gY false c;rw[vc]at hv;have hm:=rQ true c;rw[bE]at hm;refine eW call198 func198 ?_;exact z2 @hv @hm
theorem Ea {s:aT} (hs:UB s) (h0:s.eqs≠[]) (vc:ae c=true) {l:List (Bool×Bytes)} (hlen:l.length=s.vars.length) (hl: ∀x∈l,cr x=true):aH 181 [s.pv, .s c, .sl (l.map ca)] (.sl (s.eqs.map fun q=>N (fo s.groups c l q))):=by
 obtain⟨gs,vs,es⟩:=s;obtain⟨hg,hq,ng,nv,ne⟩:=hs;simp only at hg hq ng nv ne h0 hlen;have hpos:0<es.length:=gF.2 h0;have l1:(gs.map cz).length=gs.length:=au ..;have l3:(es.map bZ.pv).length=es.length:=au ..;have l5:(l.map ca).length=l.length:=au ..;have fr:=yj vc;have ng':=Hh vc;have hM:cH (fun q=>N (fo gs c l q)) 1:=⟨fun _=>rfl,fun _ y hy=>by cases fa.1 hy;rfl,fun _ _=>rfl,fun h=>aJ rfl h⟩
 have row1: ∀{i:Nat},i<es.length->aP (fun q=>N (fo gs c l q)) (es.take (i+1))=aP (fun q=>N (fo gs c l q)) (es.take i)++[.v (N (fo gs c l (es.getD i dU)))]:=fun h=>by
  rw[aL dU h,bU];rfl
 have rn1:aP (fun q=>N (fo gs c l q)) []=[]:=rfl
 unfold aT.pv;simp only;refine eW call181 func181 ?_;refine dh @l3 ?_;refine aq ?_;have e1:=getD_map bZ.pv es dU hpos;obtain⟨q1,q2,q3,q4,q5⟩:=hq _ (ai dU hpos);have r1:=row1 hpos;obtain⟨x,hx⟩: ∃x,x=es.getD 0 dU:=⟨_,rfl⟩;rw[<-hx]at e1 q1 q2 q3 q4 q5 r1;clear hx;obtain⟨gr,tg,ts⟩:=x;simp only at q1 q2 q3 q4 q5;have hgl:gr.toNat<gs.length:=oO;have kg:=hg _ (ai dL hgl);have e3:=getD_map cz gs dL hgl;have hmQ:fo gs c l ⟨gr,tg,ts⟩=ts.foldl (o6 (num (gs.getD gr.toNat dL).1) l) (dM (num (gs.getD gr.toNat dL).1) (num tg) (!(c==[])) (num c)):=rfl;obtain⟨z,hz⟩: ∃z,z=gs.getD gr.toNat dL:=⟨_,rfl⟩;rw[<-hz]at q3 q5 kg e3 hmQ;clear hz;obtain⟨m,o⟩:=z;simp only at q3 q5 kg hmQ;obtain⟨vt,gt⟩:=(dH kg.1).1 q3;have m1:=(nD kg.1).2.2.1;have hzc:(!(c==[])&&c==[])=false:=by cases(c==([]:Bytes))<;>rfl
 have xe:=pW kg.2.1 kg.2.2 kg.1 gt vc hzc;rw[fA vt]at xe;have gx0:=gt.dM m1 (!(c==[])) (num c);obtain⟨x0,hx0⟩: ∃x0,x0=dM (num m) (num tg) (!(c==[])) (num c):=⟨_,rfl⟩;rw[<-hx0]at xe gx0 hmQ;rw[hmQ]at r1;clear hx0 hmQ gt vt;have l4:(ts.map dx.pv).length=ts.length:=au ..;simp only[cz]at e3;simp only[bZ.pv]at e1;refine mK (aN @l1 (aN @l3 (aN @e1 (aN @e3 @l4)))) @fr @ng' @xe oT ?_;refine ah (α:=Nat×Nat) (fun s=>ts.length-s.1) (fun s=>⟨[(1, .v (.s c)),(2, .v (.sl (l.map ca))),(3, .p 1000 0 0),(7, .sn),(18, .v (.sl (es.map bZ.pv))),(19,E' es.length),(20,E' 0),(10, .p 1018 0 0),(11, .v (N s.2)),(41, .v (.sl (ts.map dx.pv))),(42,E' ts.length),(43,E' s.1)],[(1000,⟨0,[.v (.sl (gs.map cz)), .v (.sl (vs.map bO)), .v (.sl (es.map bZ.pv))],false,none⟩),(1018,⟨0,[.v (.s m), .v (.s o)],false,some 114⟩)],1036⟩) (fun s=>s.1<=ts.length/\GP m o s.2/\(ts.drop s.1).foldl (o6 (num m) l) s.2=ts.foldl (o6 (num m) l) x0) (0,x0) (fun _=>cd rfl) ⟨aD _,gx0,rfl⟩ ?_ ?_
 ·(refine AS.Le.of (by first|decide|omega) ?_ ?_<;>simp[cU,cT,aO,az,AV.bd,AV.bd.bdL,u8,aj,ak,an])
  skip
 ·rintro⟨j,x⟩ ⟨hj,gx,hf⟩ R' hR';simp only at hj gx hf
  by_cases hjt:j<ts.length
  ·have e2:=getD_map dx.pv ts dN hjt;obtain⟨t1,t2,t3,t4⟩:=q5 _ (ai dN hjt);rw[aE dN hjt]at hf;obtain⟨y,hy⟩: ∃y,y=ts.getD j dN:=⟨_,rfl⟩;rw[<-hy]at e2 t1 t2 t3 t4 hf;obtain⟨b,v,n,a⟩:=y;simp only at t1 t2 t3 t4;rw[List.foldl_cons]at hf;obtain⟨kb1,kb2⟩:=(dH kg.1).1 t3;have hvl:v.toNat<l.length:=oO;have e4:=getD_map ca l eT hvl;have kr:=hl _ (ai eT hvl);have hmT:o6 (num m) l x ⟨b,v,n,a⟩=x*dM (num m) (dM (num m) (num b) n (num a)) (l.getD v.toNat eT).1 (num (l.getD v.toNat eT).2)%num m:=rfl;obtain⟨w,hw⟩: ∃w,w=l.getD v.toNat eT:=⟨_,rfl⟩;rw[<-hw]at e4 kr hmT;obtain⟨rn,ra⟩:=w;simp only[cr,bc,fW]at t4 kr;have m1:=(nD kg.1).2.2.1;have x1:=pW kg.2.1 kg.2.2 kg.1 kb2 t4.1 t4.2;rw[fA kb1]at x1;have gy:=kb2.dM m1 n (num a);have x2:=pW kg.2.1 kg.2.2 kg.1 gy kr.1 kr.2;have gz:=gy.dM m1 rn (num ra);have x3:=Dy kg.2.1 kg.2.2 kg.1 gx gz;have hgo':=hR' (j+1,o6 (num m) l x ⟨b,v,n,a⟩) ⟨by show j+1<= _;omega,by rw[hmT];exact gx.mul gz,hf⟩ (by show ts.length-(j+1)<ts.length-j;omega)
   rw[hmT]at hgo';clear hR' hy t3 t4 q5 hf hw kb1 kb2 gx gy gz hmT kr;simp only[dx.pv]at e2;simp only[ca]at e4;have hd3: ∀ _:True,v<(l.length:Int):=fun _=>oO
   generalize dM (num m) (dM (num m) (num b) n (num a)) rn (num ra)=z at*;generalize dM (num m) (num b) n (num a)=y at*;refine nX (aN @l3 (aN @l4 (aN @l5 (aN @e2 @e4)))) @x1 @x2 @x3 oT ?_;refine hgo' _ ?_
   (refine AS.Le.of (by first|decide|omega) ?_ ?_<;>simp[cU,cT,aO,az,AV.bd,AV.bd.bdL,u8,aj,ak,an])
   skip
  ·obtain rfl:j=ts.length:=oO;rw[bw]at hf;simp only[List.foldl_nil]at hf;subst hf;refine dh (aN @l3 @l4) ?_;refine ah (α:=Nat) (fun j=>es.length-(j+1)) (fun j=>⟨[(1, .v (.s c)),(2, .v (.sl (l.map ca))),(3, .p 1000 0 0),(7, .rs 1040 j 0 (j+1) 1),(18, .v (.sl (es.map bZ.pv))),(19,E' es.length),(20,E' (j+1))],[(1000,⟨0,[.v (.sl (gs.map cz)), .v (.sl (vs.map bO)), .v (.sl (es.map bZ.pv))],false,none⟩),(1040,⟨j,aP (fun q=>N (fo gs c l q)) (es.take (j+1)),true,some 22⟩)],1044⟩) (fun j=>j+1<=es.length) 0 (fun _=>cd rfl) hpos ?_ ?_
   ·rw[eX,r1,List.take_zero,rn1];exact lE
   ·clear e1 e3 q1 q2 q3 q4 q5 kg gx0 xe r1 l4;intro i hi R hR;have hj1:(es.take (i+1)).length=i+1:=by rw[bQ];omega
    have p1:=bT hM (es.take (i+1));have p2:=cf hM (es.take (i+1));rw[hj1,dr]at p1 p2;have hw1: ∀ _:True,((i:Int)+1)=((i+1:Nat):Int):=fun _=>oO
    by_cases hlt:i+1<es.length
    ·have hgo:=hR (i+1) oO oO;clear hR;have e1:=getD_map bZ.pv es dU hlt;obtain⟨q1,q2,q3,q4,q5⟩:=hq _ (ai dU hlt);have r1:=row1 hlt;obtain⟨x,hx⟩: ∃x,x=es.getD (i+1) dU:=⟨_,rfl⟩;rw[<-hx]at e1 q1 q2 q3 q4 q5 r1;clear hx;obtain⟨gr,tg,ts⟩:=x;simp only at q1 q2 q3 q4 q5;have hgl:gr.toNat<gs.length:=oO;have kg:=hg _ (ai dL hgl);have e3:=getD_map cz gs dL hgl;have hmQ:fo gs c l ⟨gr,tg,ts⟩=ts.foldl (o6 (num (gs.getD gr.toNat dL).1) l) (dM (num (gs.getD gr.toNat dL).1) (num tg) (!(c==[])) (num c)):=rfl;obtain⟨z,hz⟩: ∃z,z=gs.getD gr.toNat dL:=⟨_,rfl⟩;rw[<-hz]at q3 q5 kg e3 hmQ;clear hz;obtain⟨m,o⟩:=z;simp only at q3 q5 kg hmQ;obtain⟨vt,gt⟩:=(dH kg.1).1 q3;have m1:=(nD kg.1).2.2.1;have hzc:(!(c==[])&&c==[])=false:=by cases(c==([]:Bytes))<;>rfl
     have xe:=pW kg.2.1 kg.2.2 kg.1 gt vc hzc;rw[fA vt]at xe;have gx0:=gt.dM m1 (!(c==[])) (num c);obtain⟨x0,hx0⟩: ∃x0,x0=dM (num m) (num tg) (!(c==[])) (num c):=⟨_,rfl⟩;rw[<-hx0]at xe gx0 hmQ;rw[hmQ]at r1;clear hx0 hmQ gt vt;have l4:(ts.map dx.pv).length=ts.length:=au ..;simp only[cz]at e3;simp only[bZ.pv]at e1;rw[r1]at hgo;refine mK (aN @l1 (aN @l3 (aN @e1 (aN @e3 @l4)))) @fr @ng' @xe oT ?_;refine ah (α:=Nat×Nat) (fun s=>ts.length-s.1) (fun s=>⟨[(1, .v (.s c)),(2, .v (.sl (l.map ca))),(3, .p 1000 0 0),(7, .rs 1040 i 0 (i+1) 1),(18, .v (.sl (es.map bZ.pv))),(19,E' es.length),(20,E' (i+1)),(10, .p 1055 0 0),(11, .v (N s.2)),(41, .v (.sl (ts.map dx.pv))),(42,E' ts.length),(43,E' s.1)],[(1000,⟨0,[.v (.sl (gs.map cz)), .v (.sl (vs.map bO)), .v (.sl (es.map bZ.pv))],false,none⟩),(1055,⟨0,[.v (.s m), .v (.s o)],false,some 114⟩),(1040,⟨i,aP (fun q=>N (fo gs c l q)) (es.take (i+1)),true,some 22⟩)],1073⟩) (fun s=>s.1<=ts.length/\GP m o s.2/\(ts.drop s.1).foldl (o6 (num m) l) s.2=ts.foldl (o6 (num m) l) x0) (0,x0) (fun _=>cd rfl) ⟨aD _,gx0,rfl⟩ ?_ ?_
     ·(refine AS.Le.of (by first|decide|omega) ?_ ?_<;>simp[cU,cT,aO,az,AV.bd,AV.bd.bdL,u8,aj,ak,an])
      all_goals (intro c hc;exact bj hc)
     ·rintro⟨j,x⟩ ⟨hj,gx,hf⟩ R' hR';simp only at hj gx hf
      by_cases hjt:j<ts.length
      ·have e2:=getD_map dx.pv ts dN hjt;obtain⟨t1,t2,t3,t4⟩:=q5 _ (ai dN hjt);rw[aE dN hjt]at hf;obtain⟨y,hy⟩: ∃y,y=ts.getD j dN:=⟨_,rfl⟩;rw[<-hy]at e2 t1 t2 t3 t4 hf;obtain⟨b,v,n,a⟩:=y;simp only at t1 t2 t3 t4;rw[List.foldl_cons]at hf;obtain⟨kb1,kb2⟩:=(dH kg.1).1 t3;have hvl:v.toNat<l.length:=oO;have e4:=getD_map ca l eT hvl;have kr:=hl _ (ai eT hvl);have hmT:o6 (num m) l x ⟨b,v,n,a⟩=x*dM (num m) (dM (num m) (num b) n (num a)) (l.getD v.toNat eT).1 (num (l.getD v.toNat eT).2)%num m:=rfl;obtain⟨w,hw⟩: ∃w,w=l.getD v.toNat eT:=⟨_,rfl⟩;rw[<-hw]at e4 kr hmT;obtain⟨rn,ra⟩:=w;simp only[cr,bc,fW]at t4 kr;have m1:=(nD kg.1).2.2.1;have x1:=pW kg.2.1 kg.2.2 kg.1 kb2 t4.1 t4.2;rw[fA kb1]at x1;have gy:=kb2.dM m1 n (num a);have x2:=pW kg.2.1 kg.2.2 kg.1 gy kr.1 kr.2;have gz:=gy.dM m1 rn (num ra);have x3:=Dy kg.2.1 kg.2.2 kg.1 gx gz;have hgo':=hR' (j+1,o6 (num m) l x ⟨b,v,n,a⟩) ⟨by show j+1<= _;omega,by rw[hmT];exact gx.mul gz,hf⟩ (by show ts.length-(j+1)<ts.length-j;omega)
       rw[hmT]at hgo';clear hR' hy t3 t4 q5 hf hw kb1 kb2 gx gy gz hmT kr;simp only[dx.pv]at e2;simp only[ca]at e4;have hd3: ∀ _:True,v<(l.length:Int):=fun _=>oO
       generalize dM (num m) (dM (num m) (num b) n (num a)) rn (num ra)=z at*;generalize dM (num m) (num b) n (num a)=y at*;refine nX (aN @l3 (aN @l4 (aN @l5 (aN @e2 @e4)))) @x1 @x2 @x3 oT ?_;refine hgo' _ ?_
       (refine AS.Le.of (by first|decide|omega) ?_ ?_<;>simp[cU,cT,aO,az,AV.bd,AV.bd.bdL,u8,aj,ak,an])
       all_goals (intro c hc;exact bj hc)
      ·obtain rfl:j=ts.length:=oO;rw[bw]at hf;simp only[List.foldl_nil]at hf;subst hf;refine dw (aN @l3 (aN @l4 (aN @p1 @p2))) ?_;refine hgo _ ?_
       (refine AS.Le.of (by first|decide|omega) ?_ ?_<;>simp[cU,cT,aO,az,AV.bd,AV.bd.bdL,u8,aj,ak,an])
       all_goals (intro c hc;rcases hc with h|h<;>first|exact bj h|(subst h;rfl))
    ·obtain hjv:i+1=es.length:=oO;rw[hjv,bm]at p1 p2;rw[hjv,bm];have p3:=dI hM es;have p4:chunk 1 es.length (List.flatMap (fun x=>[PV.s (b7 (fo gs c l x))]) es)=es.map fun q=>N (fo gs c l q):=cK hM es
     exact fz (aN @l3 (aN @p1 (aN @p2 (aN @p3 (aN @p4 @dj)))))
theorem Ir {s:aT} (hs:UB s) (vc:ae c=true) {l:List (Bool×Bytes)} (hlen:l.length=s.vars.length) (hl: ∀x∈l,cr x=true):aH 181 [s.pv, .s c, .sl (l.map ca)] (.sl (s.eqs.map fun q=>N (fo s.groups c l q))):=by
 by_cases h:s.eqs=[]
 ·obtain⟨gs,vs,es⟩:=s;simp only at h;subst h;unfold aT.pv;simp only[cb];refine eW call181 func181 ?_;exact Uu
 ·exact Ea hs h vc hlen hl
theorem S3 {sl b:Bytes} (hr:we c sl) (hb:b.length<=16):OI c sl b<ek:=eR (Nat.sub_le _ _) (yz hr hb)
end Go.Proofs.Tryz
namespace Go.Proofs.Tryz
open Go Go.Dom
def fj (l:List (Bool×Bytes)):PV:= .sl (l.map ca)
theorem zw (l:List (Bytes)) (f:FuncId) (p:Bytes->Bool) (hl:l.length<4611686018427387904) (h: ∀x,aH f [PV.s x] (.b (p x))):aH 73 [.sl (l.map PV.s), .fn (.func f)] (E (dk p 0 l)):=by
 have hlm:(l.map PV.s).length=l.length:=au ..;refine eW call73 func73 ?_;refine dh @hlm ?_;refine ah (α:=Nat) (fun i=>l.length-i) (fun i=>⟨[(0, .v (.sl (l.map PV.s))),(1, .v (.fn (.func f))),(7, .v (.i .i64 l.length)),(8, .v (.i .i64 (i:Nat)))],[],_⟩) (fun i=>i<=l.length/\dk p i (l.drop i)=dk p 0 l) 0 (fun _=>aA _) ⟨aD _,rfl⟩ ?_ ?_
 ·exact lE
 ·rintro i ⟨hi,hx⟩ R hR;rw[<-hx]
  by_cases hlt:i<l.length
  ·have e1:=getD_map PV.s l [] hlt;have hf:=h (l.getD i []);have hgo:=hR (i+1);rw[<-hx,aE [] hlt]at hgo;rw[aE [] hlt];simp only[dk]at hgo⊢;clear hx hR h;generalize p (l.getD i [])=b at*;generalize l.getD i []=x at*;cases b
   ·have hgo:=hgo ⟨oO,rfl⟩ oO;exact gi (aN @hlm @e1) @hgo @hf
   ·exact iE (aN @hlm @e1) @hf
  ·obtain rfl:i=l.length:=oO;rw[bw];repeat' first|simp only[go_sem,seval,hlm]|refine oE ?_|apply xX<;>intro hc
   all_goals simp[dk]
theorem gI (l:List (Bytes)) (f:FuncId) (p:Bytes->Bool) (hl:l.length<4611686018427387904) (h: ∀x,aH f [PV.s x] (.b (p x))):aH 31 [.sl (l.map PV.s), .fn (.func f)] (.b (l.any p)):=by
 have hi:=zw l f p hl h;have e:decide (dk p 0 l>=0)=l.any p:=by
  rw[cu,decide_eq_true_iff];exact gZ
 refine eW call31 func31 ?_;exact iE @e @hi
theorem By (l:List (List (Bool×Bytes))) (f:FuncId) (c:List PV) (p:List (Bool×Bytes)->Bool) (hl:l.length<4611686018427387904) (h: ∀x∈l,aH f (fj x::c) (.b (p x))):aH 214 [.sl (l.map fj), .fc f [] c] (E (dk p 0 l)):=by
 have hlm:(l.map fj).length=l.length:=au ..;refine eW call214 func214 ?_;refine dh @hlm ?_;refine ah (α:=Nat) (fun i=>l.length-i) (fun i=>⟨[(0, .v (.sl (l.map fj))),(1, .v (.fc f [] c)),(7, .v (.i .i64 l.length)),(8, .v (.i .i64 (i:Nat)))],[],_⟩) (fun i=>i<=l.length/\dk p i (l.drop i)=dk p 0 l) 0 (fun _=>aA _) ⟨aD _,rfl⟩ ?_ ?_
 ·exact lE
 ·rintro i ⟨hi,hx⟩ R hR;rw[<-hx]
  by_cases hlt:i<l.length
  ·have e1:=getD_map fj l [] hlt;have hf:=h (l.getD i []) (ai [] hlt);have hgo:=hR (i+1);rw[<-hx,aE [] hlt]at hgo;rw[aE [] hlt];simp only[dk]at hgo⊢;clear hx hR h;generalize p (l.getD i [])=b at*;generalize l.getD i []=x at*;simp only[fj]at e1 hf;cases b
   ·have hgo:=hgo ⟨oO,rfl⟩ oO;repeat' first|simp only[go_sem,seval,hlm,e1]|(refine fX hf (iO _ _) ?_)|refine oE ?_|apply xX<;>intro hc
    refine hgo _ ?_;exact lE
   ·repeat' first|simp only[go_sem,seval,hlm,e1]|(refine fX hf (iO _ _) ?_)|refine oE ?_|apply xX<;>intro hc
    all_goals rfl
  ·obtain rfl:i=l.length:=oO;rw[bw];repeat' first|simp only[go_sem,seval,hlm]|refine oE ?_|apply xX<;>intro hc
   all_goals simp[dk]
theorem kV (l:List (List (Bool×Bytes))) (f:FuncId) (c:List PV) (p:List (Bool×Bytes)->Bool) (hl:l.length<4611686018427387904) (h: ∀x∈l,aH f (fj x::c) (.b (p x))):aH 124 [.sl (l.map fj), .fc f [] c] (.b (l.any p)):=by
 have hi:=By l f c p hl h;have e:decide (dk p 0 l>=0)=l.any p:=by
  rw[cu,decide_eq_true_iff];exact gZ
 refine eW call124 func124 ?_;exact iE @e @hi
theorem NQ (x:Bool×Bytes):aH 177 [ca x] (.b (!cr x)):=by
 obtain⟨n,a⟩:=x;have hv:=gY n a;have e:cr (n,a)=(ae a&& !(n&&a==[])):=rfl;rw[e];generalize (ae a&& !(n&&a==[]))=b at*;simp only[ca];refine eW call177 func177 ?_;exact z1 @hv
abbrev Wt:PV:= .pt (.agg [.fn (.func 177)]) 0
theorem uA (l:List (Bool×Bytes)) (hl:l.length<4611686018427387904):aH 178 [fj l,Wt] (.b (!l.all cr)):=by
 have h1:=fL l _ _ hl NQ;rw[im]at h1;unfold fj;refine eW call178 func178 ?_;exact z1 @h1
theorem FG (a:Bytes):aH 179 [.s a] (.b (!ae a)):=by
 have hv:=aX a;generalize ae a=b at*;refine eW call179 func179 ?_;exact z1 @hv
theorem abL (f:FuncId) (c:List PV):aH 31 [.sl [], .fc f [] c] (.b false):=by
 have hi:aH 73 [.sl [], .fc f [] c] (E (-1)):=by
  refine eW call73 func73 ?_;exact Uu
 refine eW call31 func31 ?_;exact z1 @hi
def tm1 (b:Bytes) (i:Nat):dx:=⟨b,i,false,[1]⟩
structure adw (s:aT):Prop where
 l:s.eqs.length=s.vars.length
 t: ∀i,i<s.eqs.length-> ∃b,(s.eqs.getD i dU).terms=[tm1 b i]
end Go.Proofs.Tryz
namespace Go.Proofs.Tryz
open Go Go.Dom Go.Num
theorem n8 {n i:Nat} {p:Nat->Bool} (hi:i<n) (h:p i=false):(List.range n).all p=false:=by
 rw[dR];intro g;have:=bz.1 g i (fV.2 hi);rw[h]at this;cases this
theorem nu {n:Nat} {p:Nat->Bool} (h: ∀i,i<n->p i=true):(List.range n).all p=true:=by
 rw[bz];intro i hi;exact h i (fV.1 hi)
theorem Ss {L:List Bytes} {es:List bZ} (hl:L.length=es.length) (h: ∀j,j<es.length->L.getD j []=(es.getD j dU).tgt):L=es.map (·.tgt):=by
 refine vO (by simpa using hl) fun j h1 h2=> ?_
 have h2:j<es.length:=by simpa using h2
 have:=h j h2;rw[bu,bu,bC h1,bC h2]at this;simpa using this
end Go.Proofs.Tryz
namespace Go.Proofs.Tryz
open Go Go.Dom
end Go.Proofs.Tryz
namespace Go.Proofs.Tryz
open Go Go.Dom Go.Num
end Go.Proofs.Tryz
namespace Go.Proofs.Tryz
open Go Go.Dom
theorem xd (l:List (Bool×Bytes)) (hl:l.length<1000000):aH 137 [.sl (l.map ca)] (.b (l.all cr)):=by
 have l5:(l.map ca).length=l.length:=au ..;refine eW call137 func137 ?_;repeat' first|simp only[go_sem,seval,l5]|refine oE ?_|apply xX<;>intro hc
 refine ah (α:=Nat) (fun i=>l.length-i) (fun i=>⟨[(5, .v (.sl (l.map ca))),(6,E' l.length),(7,E' i)],[],_⟩) (fun i=>i<=l.length/\(l.drop i).all cr=l.all cr) 0 (fun _=>aA _) ⟨aD _,rfl⟩ ?_ ?_
 ·exact lE
 ·rintro i ⟨hi,hf⟩ R hR;rw[<-hf]
  by_cases hlt:i<l.length
  ·have e1:=getD_map ca l eT hlt;have hgo:=hR (i+1);rw[<-hf]at hgo;rw[aE eT hlt,List.all_cons]at hgo⊢;obtain⟨x,hx⟩: ∃x,x=l.getD i eT:=⟨_,rfl⟩;rw[<-hx]at e1 hgo⊢;clear hx hf hR;obtain⟨n,a⟩:=x;have hv:=gY n a;have e:cr (n,a)=(ae a&& !(n&&a==[])):=rfl;rw[e]at hgo⊢;clear e;simp only[ca]at e1;generalize (ae a&& !(n&&a==[]))=b at*;cases b
   ·repeat' first|simp only[go_sem,seval,l5,e1]|refine cP hv ?_|refine oE ?_|apply xX<;>intro hc
    all_goals simp
   ·have hgo:=hgo ⟨oO,by simp⟩ oO
    repeat' first|simp only[go_sem,seval,l5,e1]|refine cP hv ?_|refine oE ?_|apply xX<;>intro hc
    refine hgo _ ?_;exact lE
  ·obtain rfl:i=l.length:=oO;rw[bw];repeat' first|simp only[go_sem,seval,l5]|refine oE ?_|apply xX<;>intro hc
   all_goals rfl
end Go.Proofs.Tryz
namespace Go.Proofs.Tryz
open Go Go.Dom Go.Num
end Go.Proofs.Tryz
namespace Go.Proofs.Tryz
open Go Go.Dom Go.Num
end Go.Proofs.Tryz
namespace Go.Proofs.Tryz
open Go Go.Dom Go.Num
def Wn:Bytes:=[98,97,110,107]
def Vn:List Bytes:=[[2],[3],[2],[7],[5],[]]
def K0:Key:=⟨Wn,[77],[],[],[4],[[],[]],[],[]⟩
def K1:Key:=⟨Wn,[77],[],[64],[4],[[23],[1]],[16],[60]⟩
abbrev LF:aI:=⟨0,[.v (.s []), .v (.s [])],false,none⟩
def K2:Key:=⟨Wn,[77],[],[64],[4],[[23],[1]],[64],[60]⟩
def Key.rb (k:Key):List Bytes:=k.z::k.u::k.h::k.r
def Key.l (k:Key):List Bytes:=k.m::k.o::k.s::k.rb
