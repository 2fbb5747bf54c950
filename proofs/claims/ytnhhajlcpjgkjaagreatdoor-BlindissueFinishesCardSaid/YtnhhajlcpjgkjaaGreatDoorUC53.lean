/- Part of the proof. -/
import Derived.Test.YtnhhajlcpjgkjaaGreatDoorUC45
import Derived.Test.YtnhhajlcpjgkjaaGreatDoorUC44
set_option linter.all false
set_option maxHeartbeats 16000000
set_option maxRecDepth 100000
namespace Go.Proofs.YtnhhajlcpjgkjaaGreatDoor
open Go Go.Dom Go.ChangeShapes Go.WideShapes Go.ChangeAt Go.RowKit Go.Proofs.Tryz
variable {ps:List PV}
theorem ZM:Qh Tryz.prog 9 52=true:=by kernel_rfl
theorem cSg:Tryz.prog.cellsOf 62=3:=by kernel_rfl
theorem ZL:Qh Tryz.prog 9 64=true:=by kernel_rfl
theorem Yq (h:kW Tryz.prog 9 52 ps): ∃s b:Bytes,(.agg ps:PV)= .agg [.s s, .s b]:=by
 rw[kW,Tryz.underlying52]at h;simp only[qK,cN]at h;obtain⟨h1,h2,h3⟩:=h;obtain⟨a,h1⟩:=jG h1;obtain⟨b,h2⟩:=jG h2;exact⟨a,b,by rw[tk h1,tk h2,h3]⟩
theorem tk3 {x y z:PV} (h:List.take 3 ps=[x,y,z]):ps=x::y::z::List.drop 3 ps:=by
 rcases ps with _|⟨a,_|⟨b,_|⟨c,r⟩⟩⟩<;>simp_all
theorem Yv {k:Nat} (h:kW Tryz.prog (k+2) 62 ps): ∃a b c:Bytes,ps=[.s a, .s b, .s c]:=by
 rw[kW,Tryz.underlying62]at h;simp only[qK,cN]at h;obtain⟨h1,h2,h3,h4⟩:=h;obtain⟨a,h1⟩:=jG h1;obtain⟨b,h2⟩:=jG h2;obtain⟨c,h3⟩:=jG h3;exact⟨a,b,c,by rw[tk h1,tk h2,tk h3,h4]⟩
theorem Yp (h:kW Tryz.prog 9 64 ps): ∃(l:List Bytes) (A X V w:Bytes) (ep:Int), .agg ps=zw l A X V w ep/\l.length*16<=reachBytes:=by
 rw[kW,Tryz.underlying64]at h;simp only[qK,Zc,cSg,cN,cI0]at h;obtain⟨h1,h2,h3,h4,h5⟩:=h;obtain⟨l,h1,hb⟩:=N0 h1;obtain⟨A,X,V,h2⟩:=Yv h2;obtain⟨w,h3⟩:=jG h3;simp only[kW,uI0]at h4;obtain⟨ep,h4,-⟩:=h4;exact⟨l,A,X,V,w,ep,by rw[tk h1,tk3 h2,tk h3,tk h4,h5];rfl,hb⟩
end Go.Proofs.YtnhhajlcpjgkjaaGreatDoor
namespace Go.Proofs.Tryz
open Go Go.Dom Go.Num
variable {k:Key}
theorem yM (l:List Bytes) (hl:l.length<4611686018427387904):aE 143 [.sl (l.map .s)] (.b (l.all aa)):=by
 have l5:(l.map PV.s).length=l.length:=aL ..;refine eW call143 func143 ?_;refine qY ?_;refine ak (α:=Nat) (fun i=>l.length-i) (fun i=>⟨[(0, .v (.sl (l.map .s))),(3,E' i)],[],_⟩) (fun i=>i<=l.length/\(l.drop i).all aa=l.all aa) 0 (fun _=>aD _) ⟨aR _,rfl⟩ ?_ ?_
 ·exact lE
 ·rintro i ⟨hi,hf⟩ R hR;rw[<-hf]
  by_cases hlt:i<l.length
  ·have e1:=getD_map PV.s l ([]:Bytes) hlt;have hgo:=hR (i+1);rw[<-hf]at hgo;rw[bc ([]:Bytes) hlt,List.all_cons]at hgo⊢;generalize l.getD i []=a at*;clear hf hR;have hv:=aI a;generalize aa a=b at*;cases b
   ·repeat' first|simp only[go_sem,seval,l5,e1]|refine cP hv ?_|refine oE ?_|apply xX<;>intro hc
    all_goals simp
   ·have hgo:=hgo ⟨oO,by simp⟩ oO
    exact kp (aN @l5 @e1) @hgo @hv
  ·obtain rfl:i=l.length:=oO;rw[dn];exact gU @l5
theorem Ka (p:cq) (i:Nat):aE 274 [p.pv,E i] (.s (Ag p i)):=by
 unfold cq.pv Ag
 by_cases h0:i=0
 ·subst h0;refine eW call274 func274 ?_;exact z0
 by_cases h1:i=1
 ·subst h1;refine eW call274 func274 ?_;exact z0
 rw[af h0,af h1];have b0:((i:Int)==0)=false:=by simpa using h0
 have b1:((i:Int)==1)=false:=by rw[ey];omega
 refine eW call274 func274 ?_;exact gU (aN @b0 @b1)
theorem Il {x lo sz:Bytes} (vx:aa x=true) (vl:aa lo=true) (vs:aa sz=true):aE 145 [.s x, .s lo, .s sz] (.b (FG x lo sz)):=by
 have s1:=Ij x lo;rw[VM vx vl]at s1;have c1:=jq (bR (num x-num lo)) sz;rw[vS vx,vs,aY]at c1;simp only[cX,az]at c1;have g1:=Jy (num x-num lo) (num sz);unfold FG;generalize aZ (num x-num lo) (num sz)=cm at*;generalize num x-num lo=d at*
 by_cases x1:num lo<=num x
 case neg=>
  rw[af x1]at s1;rw[bL x1,db];refine eW call145 func145 ?_;exact z1 @s1
 rw[ah x1]at s1;rw[aV x1,cj];have g3:decide (cm<0)=decide (d<num sz):=by
  have:decide (cm<0)= !decide (cm>=0):=by rw[dk];simp
  rw[this,g1,tC]
 generalize decide (d<num sz)=b at*;refine eW call145 func145 ?_;repeat' first|simp only[go_sem,seval,g3]|refine cP s1 ?_|refine cP c1 ?_|refine oE ?_|apply xX<;>intro hc
 all_goals (cases b<;>simp_all)
theorem QX (hk:py k) (lm:k.m.length<=8) (lr:k.r.length<=20) {l:List Bytes} (hl:l.length=k.r.length) (hv:l.all aa=true):aE 49 [G k.m k.o, .sl (k.r.map .s), .sl (l.map lz)] (.tup [N (pJ k l),E 0]):=by
 have hE:=qW hk;have lo:k.o.length<=8:=by rw[hk.o];simp
 obtain⟨vm,-,m1,-,-⟩:=mc hE;have hr: ∀x∈k.r,aa x=true/\GP k.m k.o (num x):=fun x hx=>(cL hE).1 (jr hk (hk.t x (by simp only[BU,cd];exact .inr (.inr (.inr hx)))))
 have h:=ky lm lo hE ((k.r.map num).zip (l.map fun x=>(false,x))) (by rw[List.length_zip,aL];omega) (by
  rintro⟨a,b,c⟩ hy;have h1:=List.of_mem_zip hy;obtain⟨x,hx,rfl⟩:=cv.1 h1.1;obtain⟨y,hy2,hyy⟩:=cv.1 h1.2;simp only[dP]at hyy;obtain⟨rfl,rfl⟩:=hyy;exact⟨(hr x hx).2,bH.1 hv _ hy2,rfl⟩)
 rw[uD _ _ m1,iv,bw (show yE (num k.m) _<num k.m from aP _ oO)]at h
 have e1:((k.r.map num).zip (l.map fun x=>(false,x))).map (fun p:Nat×Bool×Bytes=>N p.1)=k.r.map PV.s:=by
  have:((k.r.map num).zip (l.map fun x=>(false,x))).map (fun p:Nat×Bool×Bytes=>N p.1)=(((k.r.map num).zip (l.map fun x=>(false,x))).map Prod.fst).map fun n=>N n:=by rw[iF];rfl
  rw[this,List.map_fst_zip (by simp[hl]),iF]
  exact oX fun x hx=>dZ (hr x hx).1
 have e2:((k.r.map num).zip (l.map fun x=>(false,x))).map rX=l.map lz:=by
  have:((k.r.map num).zip (l.map fun x=>(false,x))).map rX=(((k.r.map num).zip (l.map fun x=>(false,x))).map Prod.snd).map fun q=>(.agg [.b q.1, .s q.2]:PV):=by rw[iF];rfl
  rw[this,List.map_snd_zip (by simp[hl]),iF]
  rfl
 rw[e1,e2]at h;exact h
theorem Gm (hk:py k) (lm:k.m.length<=8) (hr2:2<=k.r.length) (lr:k.r.length<=20) {l:List Bytes} (hl:l.length=k.r.length) (hv:l.all aa=true):aE 148 [k.pv, .sl (l.map .s)] (N (pJ k l)):=by
 have hM:=QX hk lm lr hl hv;have l1:(l.map PV.s).length=l.length:=aL ..;have hpos:0<l.length:=oO;have hRow:cT lz 2:=RR;generalize pJ k l=mv at*;clear hk;unfold Key.pv at*;refine eW call148 func148 ?_;refine dY @l1 ?_;refine aj ?_;have e1:=jm hpos;have f1:=Ia (bH.1 hv _ (aC [] hpos));have t0:l.take 1=[l.getD 0 []]:=aQ [] hpos;generalize l.getD 0 []=x0 at*;refine jd (aN @l1 @e1) @f1 ?_;clear e1 f1;refine ak (α:=Nat) (fun j=>l.length-j) (fun j=>⟨[(1, .v (.sl (l.map .s))),(2, .p 1000 0 0),(5, .rs 1015 j 0 (j+1) 2),(6,E' (j+1))],[(1000,⟨0,[.v (.s k.name), .v (.s k.m), .v (.s k.o), .v (.s k.z), .v (.s k.s), .v (.sl (k.r.map .s)), .v (.s k.u), .v (.s k.h)],false,none⟩),(1015,⟨j,aX lz (l.take (j+1)),true,some 94⟩)],1020⟩) (fun j=>j+1<=l.length) 0 (fun _=>dF rfl) oO ?_ ?_
 ·simp only[eK,t0]
  (refine AS.Le.of (by first|decide|omega) ?_ ?_<;>simp[dA,dz,aS,aB,AV.bd,AV.bd.bdL,u8,aq,au,aA])
  all_goals first|omega|exact⟨rfl,fun c hc=>cI hc⟩|exact fun c hc=>cI hc
 ·clear t0;intro j hj R hR;have hlm:(l.take (j+1)).length=j+1:=by rw[cf];omega
  have q1:=cF hRow (l.take (j+1));have q2:=cR hRow (l.take (j+1));rw[hlm]at q1 q2
  by_cases hlt:j+1<l.length
  ·have hgo:=hR (j+1) oO oO;have ts:=aQ ([]:Bytes) hlt;have hrs:aX lz (l.take (j+1+1))=aX lz (l.take (j+1))++[.v (.b false), .v (.s (l.getD (j+1) []))]:=by rw[ts,HV]
   simp only[hrs]at hgo;have e1:=jm hlt;have f1:=Ia (bH.1 hv _ (aC [] hlt));clear hR ts hrs hlm;generalize l.getD (j+1) []=x0 at*;have e3: ∀ _:True,((j:Int)+1).toNat=j+1:=fun _=>oO
   refine jd (aN @l1 (aN @e1 (aN (e3 oT) (aN @q1 @q2)))) @f1 ?_;refine hgo _ ?_
   (refine AS.Le.of (by first|decide|omega) ?_ ?_<;>simp[dA,dz,aS,aB,AV.bd,AV.bd.bdL,u8,aq,au,aA])
   all_goals first|omega|exact fun c hc=>by rcases hc with hc|rfl|rfl<;>first|exact cI hc|rfl
  ·have hjl:j+1=l.length:=oO;have hT:l.take (j+1)=l:=c9 oO;rw[hT]at q1 q2;rw[hT,hjl];rw[hjl]at q1 q2;have q3:=dU hRow l;have q4:=dj hRow l;clear hR hlm;repeat' first|simp only[go_sem,seval,l1,q1,q2,q3,q4,eJ]|(refine rY (l:=l) (g:=lz) (ver:=j) (gr:=true) (el:=some 94) hM hRow rfl (by simp[aB]) rfl ?_)|refine oE ?_|apply xX<;>intro hc
   all_goals rfl
theorem Nt {p:cq} (hp:p.short) (hpe:eQ p=0) (lr:k.r.length<=20) {l:List Bytes} (hl:l.length<1000000) (hv:l.all aa=true):aE 144 [p.pv,k.pv, .sl (l.map .s)] (E (if l.length≠k.r.length then 6 else if Hg p l then 0 else 2)):=by
 obtain⟨hpv,hpt⟩:=yB hpe;have hLv: ∀i,aa (Ag p i)=true:=fun i=>by
  unfold Ag;split
  ·exact hpv p.se (by simp[cq.eP])
  ·split
   ·exact hpv p.ha (by simp[cq.eP])
   ·exact hpv p.at' (by simp[cq.eP])
 have hL:=Ka p;have l1:(l.map PV.s).length=l.length:=aL ..;have l2:(k.r.map PV.s).length=k.r.length:=aL ..;have hbadA: ∀i,i<l.length->num (Ag p i)<=num (l.getD i [])->Hg p l=false:=fun i hi h=>Hh hi oO
 have hgoodA:(∀i,i<l.length->num (l.getD i [])<num (Ag p i))->Hg p l=true:=Dw;generalize Ag p=A at*;generalize Hg p l=B at*
 by_cases h6:l.length=k.r.length
 case neg=>
  rw[ah h6];have hb:((l.length:Int) !=(k.r.length:Int))=true:=by rw[qJ];omega
  unfold cq.pv Key.pv at*;refine eW call144 func144 ?_;exact gU (aN @l1 (aN @l2 @hb))
 rw[af (by simpa using h6)]
 have hb:((l.length:Int) !=(k.r.length:Int))=false:=by rw[h6];simp
 clear hpv hpt;unfold cq.pv Key.pv at*;refine eW call144 func144 ?_;refine dY (aN @l1 (aN @l2 @hb)) ?_;refine ak (α:=Nat) (fun i=>l.length-i) (fun i=>⟨[(2, .v (.sl (l.map .s))),(3, .p 1000 0 0),(7,E' i)],[(1000,⟨0,[.v (.s p.c), .v (.s p.sl), .v (.s p.mm), .v (.s p.mo), .v (.s p.mg), .v (.s p.mh), .v (.s p.wm), .v (.s p.wo), .v (.s p.wg), .v (.s p.wh), .v (.s p.se), .v (.s p.at'), .v (.s p.ha), .v (.s p.el), .v (.s p.es), .v (.s p.bl), .v (.s p.ma)],false,none⟩)],_⟩) (fun i=>i<=l.length/\ ∀j,j<i->num (l.getD j [])<num (A j)) 0 (fun _=>aD _) ⟨aR _,fun j hj=>aM hj (qz _)⟩ ?_ ?_
 ·exact lE
 ·rintro i ⟨hi,hall⟩ R hR
  by_cases hlt:i<l.length
  ·have e1:=jm hlt;have hgo:=fun h=>hR (i+1) ⟨oO,h⟩ oO
   have vx:aa (l.getD i [])=true:=bH.1 hv _ (aC [] hlt);have hL:=hL i;have c1:=jq (l.getD i []) (A i);rw[vx,hLv i]at c1;simp only[cX,az]at c1;have hcg:=Jy (num (l.getD i [])) (num (A i));have hb1:=hbadA i hlt;have hgo2:num (l.getD i [])<num (A i)-> ∀j,j<i+1->num (l.getD j [])<num (A j):=fun h j hj=>by
    by_cases e:j=i
    ·rw[e];exact h
    ·exact hall j oO
   clear hR hall hbadA hgoodA;generalize l.getD i []=x0 at*;generalize A i=ai at*;generalize aZ (num x0) (num ai)=cm at*
   cases hd:decide (num x0<num ai)with
   |false=>
    rw[hd]at hcg;rw[hb1 (by simpa using hd)]
    clear hgo hgo2;exact zA (aN @l1 (aN @e1 @hcg)) @hL @c1
   |true=>
    rw[hd]at hcg;have hgo:=hgo (hgo2 (by simpa using hd))
    clear hgo2 hb1;exact zu (aN @l1 (aN @e1 @hcg)) @hgo @hL @c1
  ·obtain rfl:i=l.length:=oO;rw[hgoodA hall];clear hR hbadA hgoodA hall;exact gU @l1
theorem Vy (hk:py k) (lm:k.m.length<=8) (l:List Bytes) {A X V:Bytes} (hA:dx k.m [] A=true) (vX:aa X=true) (vV:aa V=true):aE 147 [k.pv,N (pJ k l), .agg [.s A, .s X, .s V]] (.b (decide (Cp k l A X V=num k.z))):=by
 have hE:=qW hk;have lo:k.o.length<=8:=by rw[hk.o];simp
 obtain⟨vs,gs⟩:=(cL hE).1 (jr hk hk.s);obtain⟨va,ga⟩:=(cL hE).1 (jr hk hA);obtain⟨vm,-,m1,-,-⟩:=mc hE;have gm:=Mv hk l;have h:=ky lm lo hE [(num A,false,X),(num k.s,false,V),(pJ k l,false,[1])] (by simp) (by intro y hy;simp only[cd,il,or_false]at hy;rcases hy with rfl|rfl|rfl;exact⟨ga,vX,rfl⟩;exact⟨gs,vV,rfl⟩;exact⟨gm,rfl,rfl⟩)
 rw[uD _ _ m1,iv,bw (show yE (num k.m) _<num k.m from aP _ oO)]at h
 simp only[bV,bj,rX,dZ vs,dZ va]at h;rw[show yE (num k.m) [(num A,false,X),(num k.s,false,V),(pJ k l,false,[1])]=Cp k l A X V from rfl]at h
 have f1:=Ia vX;have f2:=Ia vV;have f3:aE 129 [E 1] (.agg [.b false, .s [1]]):=Vq;have hz:=(cL hE).1 (jr hk (hk.t k.z (by simp[BU])))
 have hzz:=RD hz.1 (Cp k l A X V);generalize Cp k l A X V=sv at*;generalize pJ k l=mv at*;clear hk hz;unfold Key.pv;refine eW call147 func147 ?_;exact zB @hzz @h @f1 @f2 @f3
theorem Ca {p:cq} (hp:p.short) (lm:k.m.length<=8) (ln:k.name.length<=60) (lr:k.r.length<=20) (l:List Bytes) (hl:l.length<1000000) (A X V:Bytes) (hX:X.length<1000000):aE 61 [p.pv,k.pv, .sl (l.map .s), .agg [.s A, .s X, .s V]] (E (Cz p k l A X V)):=by
 have hck:=pO p k _ (pN p hp) lm ln lr;have f1:=yM l oO;have f2:=yM [A,X,V] (by simp)
 simp only[bV,bj]at f2;unfold Cz
 by_cases hke:fa (eQ p) k=0
 case neg=>
  rw[ah hke];have hb2:(fa (eQ p) k !=0)=true:=by simpa using hke
  generalize fa (eQ p) k=e at*;unfold cq.pv Key.pv at*;refine eW call61 func61 ?_;exact lF @hb2 @hck
 rw[af (by simpa using hke)]
 rw[hke]at hck
 cases hv:l.all aa with
 |false=>
  rw[hv]at f1;simp only[cG,nk,az];unfold cq.pv Key.pv at*;refine eW call61 func61 ?_;exact z2 @hck @f1
 |true=>
 cases hg:[A,X,V].all aa with
 |false=>
  rw[hv]at f1;rw[hg]at f2;simp only[cG,Bool.or_true,az];unfold cq.pv Key.pv at*;refine eW call61 func61 ?_;exact z4 @hck @f1 @f2 oT
 |true=>
 rw[hv]at f1;rw[hg]at f2;simp only[cl,Bool.or_self,bO,ar];simp only[List.all_cons,List.all_nil,gj,ba]at hg;obtain⟨vA,vX,vV⟩:=hg;obtain⟨hpe,hkf⟩:=ot hke;obtain⟨hpv,hpt⟩:=yB hpe;have vel:=hpv p.el (by simp[cq.eP])
 have ves:=hpv p.es (by simp[cq.eP])
 have vbl:=hpv p.bl (by simp[cq.eP])
 have hm:=Nt hp hpe lr (k:=k) hl hv
 by_cases h6:l.length=k.r.length
 case neg=>
  rw[ah h6]at hm;rw[ah h6];clear hkf;unfold cq.pv Key.pv at*;refine eW call61 func61 ?_;exact z4 @hck @f1 @f2 @hm
 rw[af (by simpa using h6)]at hm⊢
 cases ha:Hg p l with
 |false=>
  rw[ha]at hm;simp only[bO,ar,cG,az]at hm⊢;clear hkf;unfold cq.pv Key.pv at*;refine eW call61 func61 ?_;exact z4 @hck @f1 @f2 @hm
 |true=>
 rw[ha]at hm;simp only[az,cl,bO,ar]at hm⊢;have s1:=Il vX vel ves;have s2:=Il vV vbl vbl;have c2:=jq V p.bl;rw[vV,vbl]at c2;simp only[cX,az]at c2;have g2:decide (aZ (num V) (num p.bl)>=0)=decide (num p.bl<=num V):=by
  rw[Jy];rw[dk];simp
 have h3:=Gu X oO;rw[vX]at h3;simp only[az,cj]at h3;have e8:dE X=if X.length<=8 then 0 else 5:=by unfold dE;rw[vX];rfl
 rw[<-e8]at h3;have h4:=nQ lm (o:=[]) oC A;have hg:vE k.m [] A=dx k.m [] A:=by
  have:=qW hkf;rw[hkf.o]at this;unfold vE jF;rw[this,ah (by simp)];rfl
 rw[hg]at h4;have h5:=fun hA=>Vy hkf lm l (A:=A) (X:=X) (V:=V) hA vX vV
 have h7:=Gm hkf lm (x7 hke) lr h6 hv;have ho:=hkf.o;have hx5:dE X=0->decide (X.length<=8)=true:=by
  rw[e8];intro h;split at h
  ·rename_i g;simpa using g
  ·cases h
 generalize aZ (num V) (num p.bl)=cm2 at*;generalize FG X p.el p.es=B1 at*;generalize FG V p.bl p.bl=B2 at*;generalize decide (num p.bl<=num V)=B3 at*;generalize fL (num X)=bm at*;generalize decide (Cp k l A X V=num k.z)=bz at*;generalize pJ k l=mv at*;generalize dx k.m [] A=bA at*;generalize dE X=pe at*;clear hkf hke h6 ha hv hg e8;obtain⟨name,m,o,z,s,r,u,hh⟩:=k;simp only at*;subst ho;unfold cq.pv Key.pv at*;cases B1
 case false=>
  rw[cG,nk,ah rfl];refine eW call61 func61 ?_;exact z7 @hck @f1 @f2 @hm @s1 oT oT
 rw[cl,jx]
 cases hB:(B3&& !B2)
 case true=>
  have:B3=true/\B2=false:=by cases B3<;>cases B2<;>simp_all
  obtain⟨rfl,rfl⟩:=this;rw[ah rfl];refine eW call61 func61 ?_;exact VX @g2 @hck @f1 @f2 @hm @s1 @s2 @c2
 rw[af (by simp)]
 by_cases hpz:pe=0
 case neg=>
  rw[ah hpz];have hb2:(pe !=0)=true:=by simpa using hpz
  cases B3<;>cases B2<;>first|cases hB|skip
  all_goals
   refine eW call61 func61 ?_;exact G3 (aN @g2 @hb2) @hck @f1 @f2 @hm @s1 @s2 @c2 @h3 oT oT oT oT
 rw[af (by simpa using hpz)]
 rw[hx5 hpz,cj]at h3;subst hpz
 cases B3<;>cases B2<;>first|cases hB|skip
 all_goals
  cases bm<;>cases bA
  case true.true=>
   have h5:=h5 rfl;simp only[cl,bO,ar];refine eW call61 func61 ?_;repeat' first|simp only[go_sem,seval,g2]|refine cP hck ?_|refine cP f1 ?_|refine cP f2 ?_|refine cP hm ?_|refine cP s1 ?_|refine cP s2 ?_|refine cP c2 ?_|refine cP h3 ?_|refine cP h4 ?_|refine cP h7 ?_|refine cP h5 ?_|refine oE ?_|apply xX<;>intro hc
   all_goals (cases bz<;>simp_all)
  all_goals
   simp only[cl,cG,bO,ar,az];refine eW call61 func61 ?_;exact G3 @g2 @hck @f1 @f2 @hm @s1 @s2 @c2 @h3 @h4 oT oT oT
theorem GF {p:cq} (hp:p.short) (lm:k.m.length<=8) (ln:k.name.length<=60) (lr:k.r.length<=20) (s b A X V:Bytes) {l:List Bytes} (hl:l.length<1000) (w:Bytes) (ep:Int) (hX:X.length<1000000):aE 15 [p.pv,k.pv, .agg [.s s, .s b],zw l A X V w ep] (Js p k s b A X V l):=by
 have hck:=pO p k _ (pN p hp) lm ln lr;have hv:=Ca hp lm ln lr (s::l) (by simp;omega) A X (iC b V).1 hX
 have l1:(l.map PV.s).length=l.length:=aL ..;have u:=fun x=>aI x
 have hA:=Ib b V;unfold Js zM;generalize Cz p k (s::l) A X (iC b V).1=ve at*;generalize iC b V=r at*;obtain⟨v,ae⟩:=r;simp only at hv hA⊢
 by_cases h0:fa (eQ p) k=0
 case neg=>
  rw[ah h0,af h0];have hb2:(fa (eQ p) k !=0)=true:=by simpa using h0
  generalize fa (eQ p) k=e at*;unfold cq.pv Key.pv zw at*;refine eW call15 func15 ?_;exact lF @hb2 @hck
 rw[af (show¬fa (eQ p) k≠0 by simpa using h0)]
 rw[h0]at hck;have hE: ∀bb:Bool,([s,b,A,X,V].all aa&&l.all aa)=bb->(if !([s,b,A,X,V].all aa&&l.all aa)then(3:Int)else if ae≠0 then ae else ve)=if !bb then 3 else if ae≠0 then ae else ve:=fun bb h=>by rw[h]
 have hys:(s::b::A::X::V::l).all aa=([s,b,A,X,V].all aa&&l.all aa):=by
  simp only[List.all_cons,List.all_nil,gj,Bool.and_assoc]
 by_cases hl0:l=[]
 ·subst hl0;simp only[bj,bV]at*;have u1:=u s;have u2:=u b;have u3:=u A;have u4:=u X;have u5:=u V
  by_cases hg:([s,b,A,X,V].all aa&&([]:List Bytes).all aa)=true
  case neg=>
   have hg':=dy.2 hg;rw[hg'];simp only[cG,az,show¬(3:Int)=0 by decide,ar]
   simp only[List.all_cons,List.all_nil,gj]at hg';clear hg hys hE hv;generalize aa s=c1 at*;generalize aa b=c2 at*;generalize aa A=c3 at*;generalize aa X=c4 at*;generalize aa V=c5 at*;unfold cq.pv Key.pv zw at*;simp only[bj];refine eW call15 func15 ?_;repeat' first|simp only[go_sem,seval,gg,gi]|refine cP hck ?_|refine cP u1 ?_|refine cP u2 ?_|refine cP u3 ?_|refine cP u4 ?_|refine cP u5 ?_|refine cP hA ?_|(refine aj ?_)|refine oE ?_|apply xX<;>intro hc
   all_goals first|rfl|(exfalso;simp_all)
  rw[hg];simp only[List.all_cons,List.all_nil,gj,ba]at hg;obtain⟨g1,g2,g3,g4,g5⟩:=hg;rw[g1]at u1;rw[g2]at u2;rw[g3]at u3;rw[g4]at u4;rw[g5]at u5;simp only[cl,bO,ar];clear hys hE u;unfold cq.pv Key.pv zw at*;simp only[bj]at*
  by_cases ha:ae=0
  ·subst ha;simp only[ne_eq,xb,ar]
   by_cases hve:ve=0
   ·subst hve;rw[ah rfl];refine eW call15 func15 ?_;repeat' first|simp only[go_sem,seval,gg,gi]|refine cP hck ?_|refine cP u1 ?_|refine cP u2 ?_|refine cP u3 ?_|refine cP u4 ?_|refine cP u5 ?_|refine cP hA ?_|refine cP hv ?_|(refine aj ?_)|refine oE ?_|apply xX<;>intro hc
    all_goals rfl
   ·rw[af hve];have hb2:(ve !=0)=true:=by simpa using hve
    refine eW call15 func15 ?_;repeat' first|simp only[go_sem,seval,gg,gi,hb2]|refine cP hck ?_|refine cP u1 ?_|refine cP u2 ?_|refine cP u3 ?_|refine cP u4 ?_|refine cP u5 ?_|refine cP hA ?_|refine cP hv ?_|(refine aj ?_)|refine oE ?_|apply xX<;>intro hc
    all_goals rfl
  ·simp only[ne_eq,ha,tM,az,ar];have hb2:(ae !=0)=true:=by simpa using ha
   refine eW call15 func15 ?_;repeat' first|simp only[go_sem,seval,gg,gi,hb2]|refine cP hck ?_|refine cP u1 ?_|refine cP u2 ?_|refine cP u3 ?_|refine cP u4 ?_|refine cP u5 ?_|refine cP hA ?_|(refine aj ?_)|refine oE ?_|apply xX<;>intro hc
   all_goals rfl
 have hr0:(l.length=0)=False:=by rw[eq_iff_iff,iff_false];intro g;exact hl0 (fg.1 g)
 have e5:=R5 s b A X V l;have e1:=R4 s l;obtain⟨ys,hyy⟩: ∃ys,ys=s::b::A::X::V::l:=⟨_,rfl⟩;have hyl:ys.length=5+l.length:=by rw[hyy];simp;omega
 rw[<-hyy]at hys e5;rw[<-hys]at hE;rw[<-hys];clear hys hyy;have q0:(aX PV.s ys).length=ys.length:=by rw[cF cT.s,dK]
 unfold cq.pv Key.pv zw at*;refine eW call15 func15 ?_;refine jd (aN @l1 @hr0) @hck ?_;refine⟨⟨fun x hx=>kq hx,fun y hy=>ow hy,oO,oO⟩,?_⟩
 refine dY @e5 ?_;refine ak (α:=Nat) (fun i=>ys.length-i) (fun i=>⟨[(4, .p 1000 0 0),(5, .p 1001 0 0),(6, .p 1002 0 0),(7, .p 1003 0 0),(9, .p 1005 0 0),(12, .rs 1031 0 0 ys.length 1),(13,E' i)],[(1000,⟨0,[.v (.s p.c), .v (.s p.sl), .v (.s p.mm), .v (.s p.mo), .v (.s p.mg), .v (.s p.mh), .v (.s p.wm), .v (.s p.wo), .v (.s p.wg), .v (.s p.wh), .v (.s p.se), .v (.s p.at'), .v (.s p.ha), .v (.s p.el), .v (.s p.es), .v (.s p.bl), .v (.s p.ma)],false,none⟩),(1001,⟨0,[.v (.s k.name), .v (.s k.m), .v (.s k.o), .v (.s k.z), .v (.s k.s), .v (.sl (k.r.map .s)), .v (.s k.u), .v (.s k.h)],false,none⟩),(1002,⟨0,[.v (.s s), .v (.s b)],false,none⟩),(1003,⟨0,[.v (.sl (l.map .s)), .v (.s A), .v (.s X), .v (.s V), .v (.s w), .v (E ep)],false,none⟩),(1005,⟨0,[.v (.s []), .v (.s []), .v (.s [])],false,some 62⟩),(1031,⟨0,aX PV.s ys,true,some 22⟩)],_⟩) (fun i=>i<=ys.length/\(ys.drop i).all aa=ys.all aa) 0 (fun _=>aD _) ⟨aR _,rfl⟩ ?_ ?_
 ·(refine AS.Le.of (by first|decide|omega) ?_ ?_<;>simp[dA,dz,aS,aB,AV.bd,AV.bd.bdL,u8,aq,au,aA])
  all_goals first|omega|exact fun c hc=>cI hc|skip
 ·rintro i ⟨hi,hf⟩ R hR
  by_cases hlt:i<ys.length
  ·have f2:=qn (f:=PV.s) (fun _=>rfl) ys ([]:Bytes) hlt
   have hgo:=fun h=>hR (i+1) ⟨oO,h⟩ oO
   rw[bc [] hlt,List.all_cons]at hf;have hu:=u (ys.getD i []);clear hR;generalize ys.getD i []=y at*
   cases hy:aa y with
   |false=>
    rw[hy]at hu;rw[hy,db]at hf;rw[hE _ hf.symm];simp only[cG,az,show¬(3:Int)=0 by decide,ar]
    clear hgo;exact lF (aN @q0 @f2) @hu
   |true=>
    rw[hy]at hu;rw[hy,cj]at hf;have hgo:=hgo hf;refine jd (aN @q0 @f2) @hu ?_;refine hgo _ ?_
    (refine AS.Le.of (by first|decide|omega) ?_ ?_<;>simp[dA,dz,aS,aB,AV.bd,AV.bd.bdL,u8,aq,au,aA])
    all_goals first|omega|exact fun c hc=>cI hc|skip
  ·obtain rfl:i=ys.length:=oO;rw[dn]at hf;rw[hE true hf.symm];simp only[cl,bO,ar];clear hE hR hf u
   by_cases ha:ae=0
   ·subst ha;simp only[ne_eq,xb,ar]
    by_cases hve:ve=0
    ·subst hve;rw[ah rfl];have r1:=EM s l;have r2:=AY s l;have r3:=dU cT.s (s::l);have r4:=EN s l;have r5:=Ir l;refine jd (aN @q0 (aN @l1 @hr0)) @hA ?_;refine⟨⟨fun x hx=>kq hx,fun y hy=>ow hy,oO,oO⟩,?_⟩
     repeat' first|simp only[go_sem,seval,e1,r1,r2,r3,r4,r5]|(refine Bl (l:=s::l) hv cT.s rfl rfl (by simp only[List.length_cons];omega) (by simp[view,aW,AV.one,PV.one]) (by simp[view,aW,AV.one,PV.one]) (by simp[view,aW,AV.one,PV.one]) ?_)|refine oE ?_|apply xX<;>intro hc
     all_goals rfl
    ·rw[af hve];have hb2:(ve !=0)=true:=by simpa using hve
     refine jd (aN @q0 (aN @l1 @hr0)) @hA ?_;refine⟨⟨fun x hx=>kq hx,fun y hy=>ow hy,oO,oO⟩,?_⟩
     repeat' first|simp only[go_sem,seval,e1,hb2]|(refine Bl (l:=s::l) hv cT.s rfl rfl (by simp only[List.length_cons];omega) (by simp[view,aW,AV.one,PV.one]) (by simp[view,aW,AV.one,PV.one]) (by simp[view,aW,AV.one,PV.one]) ?_)|refine oE ?_|apply xX<;>intro hc
     all_goals rfl
   ·simp only[ne_eq,ha,tM,az,ar];have hb2:(ae !=0)=true:=by simpa using ha
    exact lF (aN @q0 @hb2) @hA
theorem Eg {l:List Bytes} (h:k9 l=true):l.length<=10/\ ∀x∈l,x.length<=16:=by
 unfold k9 at h;simp only[ba,bM]at h;obtain⟨h1,h2⟩:=h;rw[c9 oO]at h1;exact⟨h2,fun x hx=>of_decide_eq_true (bH.1 h1 x hx)⟩
theorem I1 (p:cq) (k:Key) (tp tq s b:Bytes) (l:List Bytes) (A X V w:Bytes) (ep:Int) (hr:k.r.length<4611686018427387904) (hl:l.length<4611686018427387904):aE 4 [jg p k tp tq, .agg [.s s, .s b],zw l A X V w ep] (.b true):=by
 have hf:=y8 p k tp tq hr;have h1:=uv [s,b,A,X,V] (by simp)
 have h2:=uv l hl;have ha:=xt;simp only[bV,bj]at h1
 cases hfb:qo p k tp tq with
 |false=>
  rw[hfb]at hf;clear hfb;unfold jg zw at*;refine eW call4 func4 ?_;exact z2 @hf @ha
 |true=>
 rw[hfb]at hf;unfold qo at hfb;simp only[ba,bM]at hfb;obtain⟨b1,b2,-,-⟩:=hfb
 cases hn1:k9 [s,b,A,X,V]with
 |false=>
  rw[hn1]at h1;clear hn1 b1 b2;unfold jg zw at*;refine eW call4 func4 ?_;exact z4 @hf @h1 @ha oT
 |true=>
 rw[hn1]at h1
 cases hn2:k9 l with
 |false=>
  rw[hn2]at h2;clear hn1 hn2 b1 b2;unfold jg zw at*;refine eW call4 func4 ?_;exact z4 @hf @h1 @h2 @ha
 |true=>
 rw[hn2]at h2;obtain⟨-,g1⟩:=Eg hn1;obtain⟨g2,g3⟩:=Eg hn2;have gX:X.length<=16:=g1 X (by simp)
 obtain⟨lm,lo,lr,ln,-,-,-⟩:=DT b2;have hp:=sD b1;have s1:=At hp lm ln oO s b A X V (l:=l) oO w ep;have s2:=GF hp lm ln oO s b A X V (l:=l) oO w ep oO;unfold Js at s1 s2;generalize zM p k s b A X V l=e at*;clear hn1 hn2 b1 b2 hp g1 g3
 by_cases he:e=0
 ·subst he;rw[ah rfl]at s1 s2;have t1:=uG (s::l) (by simp;omega)
  have e1:=fW A;have e2:=fW X;have e3:=fW (iC b V).1;generalize (s::l).map PV.s=L at*;generalize (iC b V).1=v at*;unfold jg cq.pv Key.pv zw at*;refine eW call4 func4 ?_;repeat' first|simp only[go_sem,seval,e1,e2,e3,rW,fW]|refine cP hf ?_|refine cP h1 ?_|refine cP h2 ?_|refine cP ha ?_|refine cP s1 ?_|refine cP s2 ?_|refine cP t1 ?_|refine oE ?_|apply xX<;>intro hc
  all_goals rfl
 ·rw[af he]at s1 s2;have t1:=uG [] (by simp)
  simp only[bj]at t1;have e1:=fW e;unfold jg cq.pv Key.pv zw at*;refine eW call4 func4 ?_;repeat' first|simp only[go_sem,seval,e1,rW,fW]|refine cP hf ?_|refine cP h1 ?_|refine cP h2 ?_|refine cP ha ?_|refine cP s1 ?_|refine cP s2 ?_|refine cP t1 ?_|refine oE ?_|apply xX<;>intro hc
  all_goals rfl
end Go.Proofs.Tryz
namespace Go.Proofs.YtnhhajlcpjgkjaaGreatDoor
open Go Go.Dom Go.ChangeShapes Go.WideShapes Go.ChangeAt Go.RowKit Go.Proofs.Tryz
theorem vD (os:Os) (started:os.Started) (H:Type) (enc:TypeId×Value->H):
  ReturnsInHanded {} Tryz.checked os 4 .any (fun w args=>(Rows.blindissueFinishesSpec.pre enc Tryz.prog Tryz.f4 [] false w args/\laidMetH Tryz.prog pf w)/\sizedMet enc Tryz.prog Tryz.f4 (OpenSpec.ofChange Rows.blindissueFinishesSpec) false w args)
   (Rows.blindissueFinishesSpec.post enc Tryz.prog Tryz.f4 false true false false):=by
 refine returnsInHanded_of_change_and (C:=Tryz.checked) (X:=fun w _=>laidMetH Tryz.prog pf w) (fun _ _ _ hh h=>h.of_heap hh) Xq started (by kernel_rfl) Tryz.func4
  (ChangeSpec.witness_shaped (enc:=enc) (C:=Tryz.checked) (os:=os) (X:=fun w _=>laidMetH Tryz.prog pf w) false (World.laidAll Tryz.prog os pf) #[.agg #[.string ⟨#[]⟩, .string ⟨#[]⟩, .string ⟨#[]⟩, .string ⟨#[]⟩, .string ⟨#[]⟩, .string ⟨#[]⟩, .string ⟨#[]⟩, .string ⟨#[]⟩, .string ⟨#[]⟩, .string ⟨#[]⟩, .string ⟨#[]⟩, .string ⟨#[]⟩, .string ⟨#[]⟩, .string ⟨#[]⟩, .string ⟨#[]⟩, .string ⟨#[]⟩, .string ⟨#[]⟩, .string ⟨#[]⟩, .string ⟨#[]⟩, .string ⟨#[]⟩, .string ⟨#[]⟩, .string ⟨#[]⟩, .slice none 0 0, .string ⟨#[]⟩, .string ⟨#[]⟩, .string ⟨#[]⟩, .string ⟨#[]⟩], .agg #[.string ⟨#[]⟩, .string ⟨#[]⟩], .agg #[.slice none 0 0, .string ⟨#[]⟩, .string ⟨#[]⟩, .string ⟨#[]⟩, .string ⟨#[]⟩, .int .i64 0]] 8 (World.laidAll_os _ _ _)
   (World.shaped_of_ZipB (by kernel_rfl) (by kernel_rfl)) (by kernel_rfl) (by kernel_rfl) (by kernel_rfl)
   (by rw[MakeChecks.laidMetH_plain _ _ _ (by kernel_rfl)];exact laidMet_laidAll _ (by kernel_rfl) (by kernel_rfl))) ?_
 intro W base args ds gs before hval0 hW hcnd hwt hL _;rw[MakeChecks.laidMetH_plain _ _ _ (by kernel_rfl)]at hL
 have hval: ∀(j:Nat) t v,Tryz.f4.params[j]?=some t->args[j]?=some v->Value.okWide Tryz.prog W .any base t v:=hval0;have hW':=hW;obtain⟨p,q,hA0,hV,rfl,hfz,hnd⟩:=hW;have hA:DataW.TrodAll enc Tryz.prog W 0 (fun _=>true) true Tryz.f4.params.toList args.toList ds p:=hA0
 have hlt: ∀x∈p++q,x.block<W.heap.size:=fun x hx=>hW'.lt x hx
 rw[Tryz.params4]at hA hval;obtain⟨v0,v1,v2,d0,d1,d2,p0,p1,p2,rfl,rfl,rfl,h0,h1,h2⟩:=trodAll_three hA;obtain⟨rfl,rfl⟩:=trodVars_none hV;have hall:=bH.1 hwt;have rb:=reachBytes_lt;have hv0:=hval 0 37 v0 rfl rfl;unfold Value.okWide at hv0;rw[Tryz.underlying37]at hv0;simp only at hv0;obtain⟨c0,rfl,s0,-⟩:=hv0;have w0: ∀m∈d0.weights Tryz.prog 37,m<=reachBytes:=fun m hm=>of_decide_eq_true (hall m (DataW.weights_mem_each (j:=0) rfl rfl m hm))
 obtain⟨n0,t0⟩:=id h0;obtain⟨Ol,r0,o0,y0⟩:=sY 10 n0 _ c0.toList d0 p0 Xm t0 w0;obtain⟨pa,ke,tp,tq,ea0,hb0⟩:=Iz y0;have q0:PR (zS W) (jg pa ke tp tq) (.agg c0):=by
  rw[<-ea0];have:=PR.agg (rd:=zS W) Ol c0.toList o0 r0.1 r0.2;simpa using this
 have hv1:=hval 1 52 v1 rfl rfl;unfold Value.okWide at hv1;rw[Tryz.underlying52]at hv1;simp only at hv1;obtain⟨c1,rfl,s1,-⟩:=hv1;have w1: ∀m∈d1.weights Tryz.prog 52,m<=reachBytes:=fun m hm=>of_decide_eq_true (hall m (DataW.weights_mem_each (j:=1) rfl rfl m hm))
 obtain⟨n1,t1⟩:=id h1;obtain⟨zx,r1,o1,y1⟩:=sY 9 n1 _ c1.toList d1 p1 ZM t1 w1;obtain⟨se,be,ea1⟩:=Yq y1;have q1:PR (zS W) (.agg [.s se, .s be]) (.agg c1):=by
  rw[<-ea1];have:=PR.agg (rd:=zS W) zx c1.toList o1 r1.1 r1.2;simpa using this
 have hv2:=hval 2 64 v2 rfl rfl;unfold Value.okWide at hv2;rw[Tryz.underlying64]at hv2;simp only at hv2;obtain⟨c2,rfl,s2,-⟩:=hv2;have w2: ∀m∈d2.weights Tryz.prog 64,m<=reachBytes:=fun m hm=>of_decide_eq_true (hall m (DataW.weights_mem_each (j:=2) rfl rfl m hm))
 obtain⟨n2,t2⟩:=id h2;obtain⟨pv2,r2,o2,y2⟩:=sY 9 n2 _ c2.toList d2 p2 ZL t2 w2;obtain⟨l,A,X,V,w,ep,ea2,hb2⟩:=Yp y2;have q2:PR (zS W) (zw l A X V w ep) (.agg c2):=by
  rw[<-ea2];have:=PR.agg (rd:=zS W) pv2 c2.toList o2 r2.1 r2.2;simpa using this
 obtain⟨g,hg,hc⟩:=I1 pa ke tp tq se be l A X V w ep (by omega) (by omega)
 have hg3:g=4:=by
  have a1:=hg #[] W;have a2:=Tryz.call4 #[] W;rw[a1]at a2;injection a2 with a2 _
  injection a2
 subst hg3;refine(hc W (zS W) [.agg c0, .agg c1, .agg c2] (Bf hL) (fun _ _ _ h=>h) (.cons q0 (.cons q1 (.cons q2 .nil)))).mono ?_
 rintro e W' ⟨v,rfl,hb,hpr⟩;cases hpr;refine⟨_,rfl,AH (pa:=p0++(p1++p2)) (pv:=[]) hW' (fun _ _ _=>trodAll_mk1 (shut_bool IA true)) (fun sp hsp=>trodAll_mk3 (WideElems.Trod_stays Ef (by kernel_rfl) (of_decide_eq_true (by kernel_rfl)) h0 (fun x hx=>hb.same (hlt x (by simp[hx]))) (fun x hx=>hsp x (by simp[hx]))) (WideElems.Trod_stays Ef (by kernel_rfl) (of_decide_eq_true (by kernel_rfl)) h1 (fun x hx=>hb.same (hlt x (by simp[hx]))) (fun x hx=>hsp x (by simp[hx]))) (WideElems.Trod_stays Ef (by kernel_rfl) (of_decide_eq_true (by kernel_rfl)) h2 (fun x hx=>hb.same (hlt x (by simp[hx]))) (fun x hx=>hsp x (by simp[hx])))) (fun _ _=>rfl) (by simp) hb (ok_one (by kernel_rfl) rfl (okWide_bool_mk IA true))⟩
