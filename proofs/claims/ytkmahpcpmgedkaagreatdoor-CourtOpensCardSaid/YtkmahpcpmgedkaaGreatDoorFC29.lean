/- Part of the proof. -/
import Derived.Test.YtkmahpcpmgedkaaGreatDoorFC28
set_option linter.all false
set_option maxHeartbeats 16000000
set_option maxRecDepth 100000
namespace Go.Proofs.Tryz
open Go Go.Dom Go.Num
theorem BZ (x:Bool×Bytes):aE 448 [cT x] (.b (!cz x)):=by
 obtain⟨n,a⟩:=x;have hv:=hO n a;have e:cz (n,a)=(aa a&& !(n&&a==[])):=rfl;rw[e];generalize (aa a&& !(n&&a==[]))=b at*;simp only[cT];refine eW call448 func448 ?_;exact z1 @hv
theorem OP (l:List (Bool×Bytes)) (hl:l.length<1000000):aE 390 [.sl (l.map cT)] (.b (l.all cz)):=by
 have h1:=gD l _ _ oO BZ;have e:(l.all cz)= !(l.any fun x=> !cz x):=by
  induction l with
  |nil=>rfl
  |cons x l ih=>
   have:=ih (by simp at hl;omega)
   rw[List.all_cons,List.any_cons,this]
   ·cases cz x<;>simp
   ·exact gD l _ _ (by simp at hl;omega) BZ
 rw[e];generalize (l.any fun x=> !cz x)=b at*
 refine eW call390 func390 ?_;exact z1 @h1
noncomputable def r9 (M:Nat) (l:List (Bool×Bytes)) (x:Nat) (t:eT):Nat:=
 x*de M (de M (num t.base) t.neg (num t.abs)) (l.getD t.var.toNat fU).1 (num (l.getD t.var.toNat fU).2)%M
noncomputable def gG (gs:List (Bytes×Bytes)) (c:Bytes) (l:List (Bool×Bytes)) (q:dx):Nat:=
 q.terms.foldl (r9 (num (gs.getD q.mS.toNat fj).1) l) (de (num (gs.getD q.mS.toNat fj).1) (num q.tgt) (!(c==[])) (num c))
theorem Ge {c:Bytes} (vc:aa c=true):aE 422 [.agg [.b false, .s c]] (.agg [.b (!(c==[])), .s c]):=by
 have hv:=hO false c;rw[vc]at hv;have hm:=xl true c;rw[cr]at hm;refine eW call422 func422 ?_;exact z2 @hv @hm
theorem Dg {s:cU} (hs:TZ s) (h0:s.eqs≠[]) {c:Bytes} (vc:aa c=true) {l:List (Bool×Bytes)} (hlen:l.length=s.vars.length) (hl: ∀x∈l,cz x=true):aE 392 [s.pv, .s c, .sl (l.map cT)] (.sl (s.eqs.map fun q=>N (gG s.groups c l q))):=by
 obtain⟨gs,vs,es⟩:=s;obtain⟨hg,hq,ng,nv,ne⟩:=hs;simp only at hg hq ng nv ne h0 hlen;have hpos:0<es.length:=iX.2 h0;have l1:(gs.map eB).length=gs.length:=aC ..;have l3:(es.map dx.pv).length=es.length:=aC ..;have l5:(l.map cT).length=l.length:=aC ..;have fr:=qD vc;have ng':=Ge vc;have hM:dL (fun q=>N (gG gs c l q)) 1:=⟨fun _=>rfl,fun _ y hy=>by cases cR.1 hy;rfl,fun _ _=>rfl,fun h=>aM rfl h⟩
 have row1: ∀{i:Nat},i<es.length->aX (fun q=>N (gG gs c l q)) (es.take (i+1))=aX (fun q=>N (gG gs c l q)) (es.take i)++[.v (N (gG gs c l (es.getD i hG)))]:=fun h=>by
  rw[aS hG h,bU];rfl
 have rn1:aX (fun q=>N (gG gs c l q)) []=[]:=rfl
 unfold cU.pv;simp only;refine eW call392 func392 ?_;refine dH @l3 ?_;refine ai ?_;have e1:=getD_map dx.pv es hG hpos;obtain⟨q1,q2,q3,q4,q5⟩:=hq _ (an hG hpos);have r1:=row1 hpos;obtain⟨x,hx⟩: ∃x,x=es.getD 0 hG:=⟨_,rfl⟩;rw[<-hx]at e1 q1 q2 q3 q4 q5 r1;clear hx;obtain⟨gr,tg,ts⟩:=x;simp only at q1 q2 q3 q4 q5;have hgl:gr.toNat<gs.length:=oO;have kg:=hg _ (an fj hgl);have e3:=getD_map eB gs fj hgl;have hmQ:gG gs c l ⟨gr,tg,ts⟩=ts.foldl (r9 (num (gs.getD gr.toNat fj).1) l) (de (num (gs.getD gr.toNat fj).1) (num tg) (!(c==[])) (num c)):=rfl;obtain⟨z,hz⟩: ∃z,z=gs.getD gr.toNat fj:=⟨_,rfl⟩;rw[<-hz]at q3 q5 kg e3 hmQ;clear hz;obtain⟨m,o⟩:=z;simp only at q3 q5 kg hmQ;obtain⟨vt,gt⟩:=(ct kg.1).1 q3;have m1:=(jf kg.1).2.2.1;have hzc:(!(c==[])&&c==[])=false:=by cases(c==([]:Bytes))<;>rfl
 have xe:=lh kg.2.1 kg.2.2 kg.1 gt vc hzc;rw[eH vt]at xe;have gx0:=gt.de m1 (!(c==[])) (num c);obtain⟨x0,hx0⟩: ∃x0,x0=de (num m) (num tg) (!(c==[])) (num c):=⟨_,rfl⟩;rw[<-hx0]at xe gx0 hmQ;rw[hmQ]at r1;clear hx0 hmQ gt vt;have l4:(ts.map eT.pv).length=ts.length:=aC ..;simp only[eB]at e3;simp only[dx.pv]at e1;refine uE (aN @l1 (aN @l3 (aN @e1 (aN @e3 @l4)))) @fr @ng' @xe oT ?_;refine af (α:=Nat×Nat) (fun s=>ts.length-s.1) (fun s=>⟨[(1, .v (.s c)),(2, .v (.sl (l.map cT))),(3, .p 1000 0 0),(7, .sn),(18, .v (.sl (es.map dx.pv))),(19,E' es.length),(20,E' 0),(10, .p 1018 0 0),(11, .v (N s.2)),(41, .v (.sl (ts.map eT.pv))),(42,E' ts.length),(43,E' s.1)],[(1000,⟨0,[.v (.sl (gs.map eB)), .v (.sl (vs.map cO)), .v (.sl (es.map dx.pv))],false,none⟩),(1018,⟨0,[.v (.s m), .v (.s o)],false,some 24⟩)],1036⟩) (fun s=>s.1<=ts.length/\GP m o s.2/\(ts.drop s.1).foldl (r9 (num m) l) s.2=ts.foldl (r9 (num m) l) x0) (0,x0) (fun _=>bQ rfl) ⟨aI _,gx0,rfl⟩ ?_ ?_
 ·(refine AS.Le.of (by first|decide|omega) ?_ ?_<;>simp[dC,dA,aP,ay,AV.bd,AV.bd.bdL,u8,ar,au,az])
  skip
 ·rintro⟨j,x⟩ ⟨hj,gx,hf⟩ R' hR';simp only at hj gx hf
  by_cases hjt:j<ts.length
  ·have e2:=getD_map eT.pv ts fp hjt;obtain⟨t1,t2,t3,t4⟩:=q5 _ (an fp hjt);rw[aW fp hjt]at hf;obtain⟨y,hy⟩: ∃y,y=ts.getD j fp:=⟨_,rfl⟩;rw[<-hy]at e2 t1 t2 t3 t4 hf;obtain⟨b,v,n,a⟩:=y;simp only at t1 t2 t3 t4;rw[List.foldl_cons]at hf;obtain⟨kb1,kb2⟩:=(ct kg.1).1 t3;have hvl:v.toNat<l.length:=oO;have e4:=getD_map cT l fU hvl;have kr:=hl _ (an fU hvl);have hmT:r9 (num m) l x ⟨b,v,n,a⟩=x*de (num m) (de (num m) (num b) n (num a)) (l.getD v.toNat fU).1 (num (l.getD v.toNat fU).2)%num m:=rfl;obtain⟨w,hw⟩: ∃w,w=l.getD v.toNat fU:=⟨_,rfl⟩;rw[<-hw]at e4 kr hmT;obtain⟨rn,ra⟩:=w;simp only[cz,ba,fJ]at t4 kr;have m1:=(jf kg.1).2.2.1;have x1:=lh kg.2.1 kg.2.2 kg.1 kb2 t4.1 t4.2;rw[eH kb1]at x1;have gy:=kb2.de m1 n (num a);have x2:=lh kg.2.1 kg.2.2 kg.1 gy kr.1 kr.2;have gz:=gy.de m1 rn (num ra);have x3:=Io kg.2.1 kg.2.2 kg.1 gx gz;have hgo':=hR' (j+1,r9 (num m) l x ⟨b,v,n,a⟩) ⟨by show j+1<= _;omega,by rw[hmT];exact gx.mul gz,hf⟩ (by show ts.length-(j+1)<ts.length-j;omega)
   rw[hmT]at hgo';clear hR' hy t3 t4 q5 hf hw kb1 kb2 gx gy gz hmT kr;simp only[eT.pv]at e2;simp only[cT]at e4;have hd3: ∀ _:True,v<(l.length:Int):=fun _=>oO
   generalize de (num m) (de (num m) (num b) n (num a)) rn (num ra)=z at*;generalize de (num m) (num b) n (num a)=y at*;refine vZ (aN @l3 (aN @l4 (aN @l5 (aN @e2 @e4)))) @x1 @x2 @x3 oT ?_;refine hgo' _ ?_
   (refine AS.Le.of (by first|decide|omega) ?_ ?_<;>simp[dC,dA,aP,ay,AV.bd,AV.bd.bdL,u8,ar,au,az])
   skip
  ·obtain rfl:j=ts.length:=oO;rw[da]at hf;simp only[List.foldl_nil]at hf;subst hf;refine dH (aN @l3 @l4) ?_;refine af (α:=Nat) (fun j=>es.length-(j+1)) (fun j=>⟨[(1, .v (.s c)),(2, .v (.sl (l.map cT))),(3, .p 1000 0 0),(7, .rs 1040 j 0 (j+1) 1),(18, .v (.sl (es.map dx.pv))),(19,E' es.length),(20,E' (j+1))],[(1000,⟨0,[.v (.sl (gs.map eB)), .v (.sl (vs.map cO)), .v (.sl (es.map dx.pv))],false,none⟩),(1040,⟨j,aX (fun q=>N (gG gs c l q)) (es.take (j+1)),true,some 22⟩)],1044⟩) (fun j=>j+1<=es.length) 0 (fun _=>bQ rfl) hpos ?_ ?_
   ·rw[dF,r1,List.take_zero,rn1];exact lE
   ·clear e1 e3 q1 q2 q3 q4 q5 kg gx0 xe r1 l4;intro i hi R hR;have hj1:(es.take (i+1)).length=i+1:=by rw[bL];omega
    have p1:=cj hM (es.take (i+1));have p2:=cq hM (es.take (i+1));rw[hj1,db]at p1 p2;have hw1: ∀ _:True,((i:Int)+1)=((i+1:Nat):Int):=fun _=>oO
    by_cases hlt:i+1<es.length
    ·have hgo:=hR (i+1) oO oO;clear hR;have e1:=getD_map dx.pv es hG hlt;obtain⟨q1,q2,q3,q4,q5⟩:=hq _ (an hG hlt);have r1:=row1 hlt;obtain⟨x,hx⟩: ∃x,x=es.getD (i+1) hG:=⟨_,rfl⟩;rw[<-hx]at e1 q1 q2 q3 q4 q5 r1;clear hx;obtain⟨gr,tg,ts⟩:=x;simp only at q1 q2 q3 q4 q5;have hgl:gr.toNat<gs.length:=oO;have kg:=hg _ (an fj hgl);have e3:=getD_map eB gs fj hgl;have hmQ:gG gs c l ⟨gr,tg,ts⟩=ts.foldl (r9 (num (gs.getD gr.toNat fj).1) l) (de (num (gs.getD gr.toNat fj).1) (num tg) (!(c==[])) (num c)):=rfl;obtain⟨z,hz⟩: ∃z,z=gs.getD gr.toNat fj:=⟨_,rfl⟩;rw[<-hz]at q3 q5 kg e3 hmQ;clear hz;obtain⟨m,o⟩:=z;simp only at q3 q5 kg hmQ;obtain⟨vt,gt⟩:=(ct kg.1).1 q3;have m1:=(jf kg.1).2.2.1;have hzc:(!(c==[])&&c==[])=false:=by cases(c==([]:Bytes))<;>rfl
     have xe:=lh kg.2.1 kg.2.2 kg.1 gt vc hzc;rw[eH vt]at xe;have gx0:=gt.de m1 (!(c==[])) (num c);obtain⟨x0,hx0⟩: ∃x0,x0=de (num m) (num tg) (!(c==[])) (num c):=⟨_,rfl⟩;rw[<-hx0]at xe gx0 hmQ;rw[hmQ]at r1;clear hx0 hmQ gt vt;have l4:(ts.map eT.pv).length=ts.length:=aC ..;simp only[eB]at e3;simp only[dx.pv]at e1;rw[r1]at hgo;refine uE (aN @l1 (aN @l3 (aN @e1 (aN @e3 @l4)))) @fr @ng' @xe oT ?_;refine af (α:=Nat×Nat) (fun s=>ts.length-s.1) (fun s=>⟨[(1, .v (.s c)),(2, .v (.sl (l.map cT))),(3, .p 1000 0 0),(7, .rs 1040 i 0 (i+1) 1),(18, .v (.sl (es.map dx.pv))),(19,E' es.length),(20,E' (i+1)),(10, .p 1055 0 0),(11, .v (N s.2)),(41, .v (.sl (ts.map eT.pv))),(42,E' ts.length),(43,E' s.1)],[(1000,⟨0,[.v (.sl (gs.map eB)), .v (.sl (vs.map cO)), .v (.sl (es.map dx.pv))],false,none⟩),(1055,⟨0,[.v (.s m), .v (.s o)],false,some 24⟩),(1040,⟨i,aX (fun q=>N (gG gs c l q)) (es.take (i+1)),true,some 22⟩)],1073⟩) (fun s=>s.1<=ts.length/\GP m o s.2/\(ts.drop s.1).foldl (r9 (num m) l) s.2=ts.foldl (r9 (num m) l) x0) (0,x0) (fun _=>bQ rfl) ⟨aI _,gx0,rfl⟩ ?_ ?_
     ·(refine AS.Le.of (by first|decide|omega) ?_ ?_<;>simp[dC,dA,aP,ay,AV.bd,AV.bd.bdL,u8,ar,au,az])
      all_goals (intro c hc;exact cL hc)
     ·rintro⟨j,x⟩ ⟨hj,gx,hf⟩ R' hR';simp only at hj gx hf
      by_cases hjt:j<ts.length
      ·have e2:=getD_map eT.pv ts fp hjt;obtain⟨t1,t2,t3,t4⟩:=q5 _ (an fp hjt);rw[aW fp hjt]at hf;obtain⟨y,hy⟩: ∃y,y=ts.getD j fp:=⟨_,rfl⟩;rw[<-hy]at e2 t1 t2 t3 t4 hf;obtain⟨b,v,n,a⟩:=y;simp only at t1 t2 t3 t4;rw[List.foldl_cons]at hf;obtain⟨kb1,kb2⟩:=(ct kg.1).1 t3;have hvl:v.toNat<l.length:=oO;have e4:=getD_map cT l fU hvl;have kr:=hl _ (an fU hvl);have hmT:r9 (num m) l x ⟨b,v,n,a⟩=x*de (num m) (de (num m) (num b) n (num a)) (l.getD v.toNat fU).1 (num (l.getD v.toNat fU).2)%num m:=rfl;obtain⟨w,hw⟩: ∃w,w=l.getD v.toNat fU:=⟨_,rfl⟩;rw[<-hw]at e4 kr hmT;obtain⟨rn,ra⟩:=w;simp only[cz,ba,fJ]at t4 kr;have m1:=(jf kg.1).2.2.1;have x1:=lh kg.2.1 kg.2.2 kg.1 kb2 t4.1 t4.2;rw[eH kb1]at x1;have gy:=kb2.de m1 n (num a);have x2:=lh kg.2.1 kg.2.2 kg.1 gy kr.1 kr.2;have gz:=gy.de m1 rn (num ra);have x3:=Io kg.2.1 kg.2.2 kg.1 gx gz;have hgo':=hR' (j+1,r9 (num m) l x ⟨b,v,n,a⟩) ⟨by show j+1<= _;omega,by rw[hmT];exact gx.mul gz,hf⟩ (by show ts.length-(j+1)<ts.length-j;omega)
       rw[hmT]at hgo';clear hR' hy t3 t4 q5 hf hw kb1 kb2 gx gy gz hmT kr;simp only[eT.pv]at e2;simp only[cT]at e4;have hd3: ∀ _:True,v<(l.length:Int):=fun _=>oO
       generalize de (num m) (de (num m) (num b) n (num a)) rn (num ra)=z at*;generalize de (num m) (num b) n (num a)=y at*;refine vZ (aN @l3 (aN @l4 (aN @l5 (aN @e2 @e4)))) @x1 @x2 @x3 oT ?_;refine hgo' _ ?_
       (refine AS.Le.of (by first|decide|omega) ?_ ?_<;>simp[dC,dA,aP,ay,AV.bd,AV.bd.bdL,u8,ar,au,az])
       all_goals (intro c hc;exact cL hc)
      ·obtain rfl:j=ts.length:=oO;rw[da]at hf;simp only[List.foldl_nil]at hf;subst hf;refine dI (aN @l3 (aN @l4 (aN @p1 @p2))) ?_;refine hgo _ ?_
       (refine AS.Le.of (by first|decide|omega) ?_ ?_<;>simp[dC,dA,aP,ay,AV.bd,AV.bd.bdL,u8,ar,au,az])
       all_goals (intro c hc;rcases hc with h|h<;>first|exact cL h|(subst h;rfl))
    ·obtain hjv:i+1=es.length:=oO;rw[hjv,cd]at p1 p2;rw[hjv,cd];have p3:=dQ hM es;have p4:chunk 1 es.length (List.flatMap (fun x=>[PV.s (aY (gG gs c l x))]) es)=es.map fun q=>N (gG gs c l q):=cJ hM es
     exact gi (aN @l3 (aN @p1 (aN @p2 (aN @p3 (aN @p4 @ec)))))
end Go.Proofs.Tryz
namespace Go.Proofs.Tryz
open Go Go.Dom
def iw (n:Nat):Bytes:=if n<10 then[UInt8.ofNat (48+n)]else[UInt8.ofNat (48+n/10),UInt8.ofNat (48+n%10)]
theorem oF (n:Nat):(iw n).length<=2:=by unfold iw;split<;>simp
theorem UH: ∀n:Fin 10,List.drop n.val (List.take (n.val+1) ([48,49,50,51,52,53,54,55,56,57]:Bytes))=iw n.val:=by decide+kernel
theorem ZK: ∀n:Fin 10,List.drop n.val (List.take (n.val+1) ([48,49,50,51,52,53,54,55,56,57,97,98,99,100,101,102,103,104,105,106,107,108,109,110,111,112,113,114,115,116,117,118,119,120,121,122]:Bytes))=iw n.val:=by decide+kernel
def aau:Bytes:=(List.range 100).flatMap fun n=>[UInt8.ofNat (48+n/10),UInt8.ofNat (48+n%10)]
theorem ZL: ∀n:Fin 100,10<=n.val->List.drop (n.val*2) (List.take (n.val*2+2) aau)=iw n.val:=by decide+kernel
theorem OT (n:Nat) (hn:n<100):aE 393 [.i .i64 (n:Int)] (.s (iw n)):=by
 by_cases h:n<10
 ·have hb:=ZK ⟨n,h⟩;have t1: ∀ _:True,((n:Int)+1).toNat=n+1:=fun _=>oO
  have d1: ∀ _:True,((n:Int)<10)=True:=fun _=>by simp;omega
  refine eW call393 func393 ?_;repeat' first|simp only[go_sem,seval,t1 oT]|refine oE ?_|apply xX<;>intro hc
  all_goals first|omega|exact congrArg PV.s hb|skip
 ·have hb:=ZL ⟨n,hn⟩ (by simpa using h)
  have t1: ∀ _:True,((n:Int)*2+2).toNat=n*2+2:=fun _=>oO
  have t2: ∀ _:True,((n:Int)*2).toNat=n*2:=fun _=>oO
  refine eW call393 func393 ?_;repeat' first|simp only[go_sem,seval,t1 oT,t2 oT]|refine oE ?_|apply xX<;>intro hc
  all_goals first|omega|exact congrArg PV.s hb|skip
theorem B9 (n:Nat) (hn:n<100):aE 76 [.i .i64 (n:Int)] (.s (iw n)):=by
 have h:=OT n hn;have hF:aE 291 [.i .i64 (n:Int), .i .i64 10] (.s (iw n)):=by
  refine eW call291 func291 ?_;exact z1 @h
 have hI:aE 173 [.i .i64 (n:Int)] (.s (iw n)):=by
  refine eW call173 func173 ?_;exact z1 @hF
 refine eW call76 func76 ?_;exact z1 @hI
theorem BQ (n:Nat) (h:n<10):aE 95 [.i .i64 (n:Int)] (.s (iw n)):=by
 have hb:=UH ⟨n,h⟩;have t1: ∀ _:True,((n:Int)+1).toNat=n+1:=fun _=>oO
 refine eW call95 func95 ?_;repeat' first|simp only[go_sem,seval,t1 oT]|refine oE ?_|apply xX<;>intro hc
 all_goals first|omega|exact congrArg PV.s hb|skip
theorem wE (n:Nat) (hn:n<100):aE 95 [.i .i64 (n:Int)] (.s (iw n)):=by
 by_cases h:n<10
 ·exact BQ n h
 ·have h1:=BQ (n/10) oO;have hb:=UH ⟨n%10,aL _ oC⟩;have t1: ∀ _:True,(((n%10:Nat):Int)+1).toNat=n%10+1:=fun _=>oO
  have e:iw n=iw (n/10)++iw (n%10):=by
   unfold iw;rw[ae h,ah oO,ah oO];rfl
  simp only at hb;rw[e];refine eW call95 func95 ?_;refine jm (t1 oT) @h1 ?_;have hb':List.drop (n%10) (48::List.take (n%10) ([49,50,51,52,53,54,55,56,57]:Bytes))=iw (n%10):=hb;have l1:=oF (n/10);have l2:=oF (n%10);rw[hb'];exact⟨oO,rfl,rfl⟩
abbrev Hq:Bytes:=[118,97,114,105,97,98,108,101]
abbrev FE:Bytes:=[98,97,115,101]
abbrev OE:Bytes:=[99,111,101,102,102,105,99,105,101,110,116]
abbrev Da:Bytes:=[101,113,117,97,116,105,111,110]
abbrev Hp:Bytes:=[116,97,114,103,101,116]
abbrev tQ:Bytes:=[103,114,111,117,112,115]
abbrev Aa:Bytes:=[98,111,117,110,100,115]
def rC (st:Bytes) (t:eT):Bytes:=Dk (gK (fy st Hq (iw t.var.toNat)) FE [t.base]) OE [(t.neg,t.abs)]
def rB (st:Bytes) (q:dx):Bytes:=q.terms.foldl rC (gK (fy st Da (iw q.mS.toNat)) Hp [q.tgt])
def mO (st:Bytes) (s:cU):Bytes:=s.eqs.foldl rB (gK (gK st tQ (s.groups.flatMap fun g=>[g.1,g.2])) Aa s.vars)
structure BdS (s:cU):Prop where
 g: ∃m o,s.groups=[(m,o)]/\m.length<=1000/\o.length<=1000
 v0:s.vars≠[]
 nv:s.vars.length<=64
 v: ∀b∈s.vars,b.length<=1000
 ne:s.eqs.length<=64
 q: ∀q∈s.eqs,0<=q.mS/\q.mS<100/\q.tgt.length<=1000/\ ∃t,q.terms=[t]/\0<=t.var/\t.var<100/\t.base.length<=1000/\t.abs.length<=1000
theorem pc {α β:Type} (f:β->α->β) (b:β) {l:List α} {i:Nat} (d:α) (h:i<l.length):(l.take (i+1)).foldl f b=f ((l.take i).foldl f b) (l.getD i d):=by
 rw[aS d h,List.foldl_append];rfl
theorem D9 {P:Program} [cG P] {Q:AX->AS->Prop} {nx:Nat} {bf:Option (List Nat)} {nn:Nat} {d:Option Nat} {ops:List kB} {k:Nat} {s:AS} {tr:List (Nat×List Nat×List Nat)} {K:List Fr} {nm:Nat} {f:FuncId} {α:Type} {g:α->PV} {z n ver m:Nat} {l:List α} {gr:Bool} {el:Option TypeId} {x y r:PV}
  (he:rv P f [x,y, .sl (l.map g)] r) (hrow:dL g z) (hr:r.flat=true) (hg:ay s.h n=some ⟨ver,aX g l,gr,el⟩) (hm:m=l.length) (hK:RW P Q nx bf nn ops (k+1) (s.tU d (.v r) []) (At bf k [n] [] tr) K):
  CR P Q nx bf nn nm (.v (.fn (.func f))) [.v x, .v y, .rs n ver 0 m z] d ops k s tr K:=by
 refine o5 he ?_ hr ?_
 ·simp[bz,qV hrow hm hg];rfl
 ·have:[AV.v x,AV.v y,AV.rs n ver 0 m z].flatMap (aU (ay s.h) 9)=[n]:=by simp[pC hrow hm hg];rfl
  rw[this];exact hK

abbrev F0:PV:= .agg [.sl []]
abbrev C0:PV:= .agg [.sl [], .sl []]
theorem IA:aE 269 [F0] (.tup [E 0, .b true]):=by
 refine eW call269 func269 ?_;exact z0
theorem Ii:aE 246 [F0,E 0] (E 0):=by
 refine eW call246 func246 ?_;exact z1 @IA
theorem UL:aE 158 [F0] (.tup [.s [],E 0]):=by
 refine eW call158 func158 ?_;exact z1 @IA
theorem HV:aE 136 [C0] (E 0):=by
 refine eW call136 func136 ?_;exact WC @Ii
theorem Fm:aE 311 [F0] (.tup [E 0, .b true]):=by
 refine eW call311 func311 ?_;exact z0
theorem Oq:aE 296 [F0,E 0] (E 0):=by
 refine eW call296 func296 ?_;exact z1 @Fm
theorem R5:aE 194 [F0] (.tup [.s [],E 0]):=by
 refine eW call194 func194 ?_;exact z1 @Fm
theorem qQ:aE 180 [C0] (.s []):=by
 refine eW call180 func180 ?_;exact SA
theorem Ol:aE 179 [C0] (E 0):=by
 refine eW call179 func179 ?_;exact Ps @Oq @qQ
end Go.Proofs.Tryz
namespace Go.Proofs.Tryz
open Go Go.Dom Go.Num
variable {o:Bytes}
theorem Ra {c sl b:Bytes} (hr:sP c sl) (hb:b.length<=16):Nq c sl b<dZ:=eX (Nat.sub_le _ _) (xh hr hb)
theorem Kb {m:Bytes} (hm:m≠[]):(m.getD (m.length-1) 0).toNat%2=num m%2:=by
 obtain⟨r,c,rfl⟩: ∃r c,m=r++[c]:=⟨_,_,(List.dropLast_concat_getLast hm).symm⟩;rw[E4];have:(r++[c]).getD ((r++[c]).length-1) 0=c:=by simp[br]
 rw[this];omega
theorem jT {m:Bytes} (lm:m.length<=8) (lo:o.length<=8):aE 112 [G m o] (E (gE m o)):=by
 have v1:=aK m;have v2:=aK o;unfold gE
 by_cases hv:aa m=true/\aa o=true
 case neg=>
  have:(aa m&&aa o)=false:=by rw[fz];intro g;simp at g;exact hv g
  rw[this];generalize aa m=b1 at*;generalize aa o=b2 at*;refine eW call112 func112 ?_;exact Wq @v1 @v2
 obtain⟨vm,vo⟩:=hv;have nm:=eR lm;have no:=eR lo;rw[vm]at v1;rw[vo]at v2
 by_cases ho:o=[]
 ·subst ho;have e0:(if !(aa m&&aa [])then(3:Int)else if(([]:Bytes)==[])then(if jg m []then 0 else 13)else if num m<=1\/num []<=1\/(num m-1)%num []≠0 then 13 else 0)=if jg m []then 0 else 13:=by
   rw[vm];rfl
  rw[e0]
  by_cases hm:m=[]
  ·subst hm;have:jg [] []=false:=by decide
   rw[this];refine eW call112 func112 ?_;exact B8 @nn @v1 @v2
  have hb:(m==([]:Bytes))=false:=by simpa using hm
  have hl:=Kb hm;have hlen:0<m.length:=iX.2 hm;have hix: ∀ _:True,((m.length:Int)-1).toNat=m.length-1:=fun _=>oO
  have hmod: ∀c:UInt8,((c.toNat:Nat):Int).tmod 2=((c.toNat%2:Nat):Int):=fun c=>rfl
  have ho8:=gJ (a:=m) (b:=[8]) (bJ vm) (.inr oC) oO oC;rw[show num ([8]:Bytes)=8 from rfl]at ho8
  have hle: ∀ _:True,decide (bc (num m) 8<=0)= !decide (8<num m):=fun _=>by
   rw[ew];simp only[cK,fJ,pQ];unfold bc;split<;>(try split)<;>omega
  have hg:jg m []=(decide (num m%2=1)&&decide (8<num m)):=by
   unfold jg;rw[vm,lB,Nat.pow_zero,iW];rfl
  rw[hg,<-hl];generalize bc (num m) 8=cm at*;obtain⟨c,hcc⟩: ∃c,c=m.getD (m.length-1) 0:=⟨_,rfl⟩;rw[<-hcc];clear hl hg e0;refine eW call112 func112 ?_;repeat' first|simp only[go_sem,seval,nn,hb,hix oT,<-hcc,hmod,hle oT]|refine cP v1 ?_|refine cP v2 ?_|refine cP ho8 ?_|refine oE ?_|apply xX<;>intro hc
  all_goals first|(simp_all;done)|(simp_all;omega)|skip
 have hb:(o==([]:Bytes))=false:=by simpa using ho
 have hop:num o≠0:=fun e=>ho ((tB vo).1 e)
 have e1:N (num m)= .s m:=congrArg PV.s (iu vm);have e2:N (num o)= .s o:=congrArg PV.s (iu vo);rw[vm,vo,hb];simp only[dt,bV,bu,aq];have q0:(m==([]:Bytes))=decide (num m=0):=by
  have:=we (num m) 0;rw[iu vm]at this;exact this
 have q1:(m==([1]:Bytes))=decide (num m=1):=by
  have:=we (num m) 1;rw[iu vm]at this;exact this
 have q2:(o==([1]:Bytes))=decide (num o=1):=by
  have:=we (num o) 1;rw[iu vo]at this;exact this
 by_cases hbad:num m=0\/num m=1\/num o=1
 ·rw[ah oO];refine eW call112 func112 ?_;repeat' first|simp only[go_sem,seval,hb,q0,q1,q2]|refine cP v1 ?_|refine cP v2 ?_|refine oE ?_|apply xX<;>intro hc
  all_goals (exfalso;simp_all)
 have h1:=oP m [1] oO oC (show 1<=num m by omega)
 rw[show num ([1]:Bytes)=1 from rfl]at h1
 have h2:=tJ (a:=aY (num m-1)) (b:=o) (gZ _) (bJ vo) oO (by
  have:=lN (show num m-1<(2^64) by omega)
  omega) oO
 rw[aQ]at h2;have hz: ∀ _:True,(aY ((num m-1)%num o)==([]:Bytes))=decide ((num m-1)%num o=0):=fun _=>by
  rw[ew];simp[iJ]
 have t0:decide (num m=0)=false:=aG oO;have t1:decide (num m=1)=false:=aG oO;have t2:decide (num o=1)=false:=aG oO;have ei:(if num m<=1\/num o<=1\/(num m-1)%num o≠0 then(13:Int)else 0)=if(num m-1)%num o=0 then 0 else 13:=by
  by_cases g:(num m-1)%num o=0
  ·rw[ae oO,ah g]
  ·rw[ah oO,ae g]
 rw[ei];refine eW call112 func112 ?_;exact Wo (aN @hb (aN @q0 (aN @q1 (aN @q2 (aN @t0 (aN @t1 (aN @t2 (hz oT)))))))) @v1 @v2 @h1 @h2
theorem oN {m:Bytes} (lm:m.length<=8) (o:Bytes) {x:Bytes} (hE:gE m o=0) (vx:aa x=true):aE 113 [G m o, .s x] (.b (jz m o x)):=by
 by_cases ho:o=[]
 ·subst ho;obtain⟨vm,-,m1,hr,-⟩:=jf hE;have hg:=hr rfl;have lx:=cW vx;have hor:=gJ (bJ vx) (bJ vm) oO oO;have hcm:=Of (vw vx) (vw vm);rw[eH vx,eH vm]at hcm;have hlt: ∀ _:True,decide (bc (num x) (num m)<0)=decide (num x<num m):=fun _=>dLt _ _
  have e:jz m [] x=(!(x==[])&&decide (num x<num m)&&decide (Nat.gcd (num x) (num m)=1)):=by
   simp[jz,zX,hg,vx]
  rw[e];generalize bc (num x) (num m)=cm at*;refine eW call113 func113 ?_;repeat' first|simp only[go_sem,seval,nn,hlt oT,Rx]|refine cP hor ?_|refine cP hcm ?_|refine oE ?_|apply xX<;>intro hc
  all_goals simp_all
  all_goals (intros;omega)
 ·have hb:(o==([]:Bytes))=false:=by simpa using ho
  have h:=Oe lm o x;unfold jz;rw[hb];simp only[bu,aq];refine eW call113 func113 ?_;exact m9 @hb @h
theorem oM {m:Bytes} (lm:m.length<=8) (lo:o.length<=8) (x:Bytes):aE 81 [G m o, .s x] (.b (jb m o x)):=by
 have h1:=jT lm lo;have hv:=aK x
 by_cases hE:gE m o=0
 ·rw[hE]at h1
  by_cases vx:aa x=true
  ·have h2:=oN lm o hE vx;rw[vx]at hv;unfold jb;rw[hE];generalize jz m o x=b at*;refine eW call81 func81 ?_;exact zs4 @h1 @hv @h2 oT
  ·have vx:aa x=false:=by simpa using vx
   rw[vx]at hv;have:jb m o x=false:=by
    rw[fz];intro g;simp only[jb,ba]at g;have:=((ct hE).1 g.2).1;rw[vx]at this;cases this
   rw[this];refine eW call81 func81 ?_;exact z2 @h1 @hv
 ·have:jb m o x=false:=by simp[jb,hE]
  rw[this];generalize gE m o=z at*;refine eW call81 func81 ?_;exact Zh @h1
theorem BN {m:Bytes} (lm:m.length<=8) {x:Nat} {ng:Bool} {e:Bytes} (hE:gE m o=0) (hx:GP m o x) (he:aa e=true) (hz:(ng&&e==[])=false):aE 115 [G m o,N x, .agg [.b ng, .s e]] (N (de (num m) x ng (num e))):=by
 obtain⟨vm,-,m1,-,-⟩:=jf hE;have hp:=KN (m:=num m) hx.lt he hz (eR lm) hx.SQ;rw[eH vm]at hp;refine eW call115 func115 ?_;exact z1 @hp
noncomputable def gI (M:Nat):Nat->List (Nat×Bool×Bytes)->Nat
 |x,[]=>x
 |x,(a,ng,e)::r=>gI M (x*de M a ng (num e)%M) r
def uF (p:Nat×Bool×Bytes):PV:= .agg [.b p.2.1, .s p.2.2]
theorem oj {m:Bytes} (lm:m.length<=8) (lo:o.length<=8) (hE:gE m o=0) (l:List (Nat×Bool×Bytes)) (hl:l.length<1000000) (h: ∀p∈l,GP m o p.1/\aa p.2.2=true/\(p.2.1&&p.2.2==[])=false):aE 53 [G m o, .sl (l.map fun p=>N p.1), .sl (l.map uF)] (.tup [N (gI (num m) 1 l),E 0]):=by
 obtain⟨vm,-,m1,-,-⟩:=jf hE;have nm:=eR lm;have hck:=jT lm lo;rw[hE]at hck;have d0:Nat×Bool×Bytes:=(0,false,[]);have l1:(l.map fun p=>N p.1).length=l.length:=aC ..
 have l2:(l.map uF).length=l.length:=aC ..;have g1: ∀{i:Nat},i<l.length->(l.map fun p=>N p.1).getD i .fn0=N (l.getD i d0).1:=fun hi=>getD_map (fun p=>N p.1) l d0 hi
 have g2: ∀{i:Nat},i<l.length->(l.map uF).getD i .fn0=uF (l.getD i d0):=fun hi=>getD_map uF l d0 hi
 refine eW call53 func53 ?_;refine qB ?_;refine af (α:=Nat) (fun i=>l.length-i) (fun i=>⟨[(1, .v (.sl (l.map fun p=>N p.1))),(2, .v (.sl (l.map uF))),(3, .p 1000 0 0),(8,E' i)],[(1000,⟨0,[.v (.s m), .v (.s o)],false,none⟩)],_⟩) (fun i=>i<=l.length) 0 (fun _=>aA _) (aI _) ?_ ?_
 ·exact lE
 ·intro i hi R hR
  by_cases hlt:i<l.length
  ·obtain⟨k1,k2,k3⟩:=h _ (an d0 hlt);have e1:=g1 hlt;have hv:=aK (aY (l.getD i d0).1);have:=k1.lt;rw[vN (show(l.getD i d0).1<(2^64) by omega)]at hv
   clear k1 k2 k3 this;have hgo:=hR (i+1) oO oO;exact gV (aN @l1 @e1) @hgo @hv
  ·obtain rfl:i=l.length:=oO;refine dH @l1 ?_;refine af (α:=Nat) (fun i=>l.length-i) (fun i=>⟨[(1, .v (.sl (l.map fun p=>N p.1))),(2, .v (.sl (l.map uF))),(3, .p 1000 0 0),(9,E' i)],[(1000,⟨0,[.v (.s m), .v (.s o)],false,none⟩)],_⟩) (fun i=>i<=l.length) 0 (fun _=>aA _) (aI _) ?_ ?_
   ·exact lE
   ·intro i hi R hR
    by_cases hlt:i<l.length
    ·obtain⟨k1,k2,k3⟩:=h _ (an d0 hlt);have e1:=g2 hlt;have hv:=jE (l.getD i d0).2.1 (l.getD i d0).2.2;rw[k2,k3]at hv;clear k1 k2 k3;have hgo:=hR (i+1) oO oO;repeat' first|simp only[go_sem,seval,l2,e1,uF]|refine cP hv ?_|refine oE ?_|apply xX<;>intro hc
     refine hgo _ ?_;exact lE
    ·obtain rfl:i=l.length:=oO;refine oZ (aN @l1 @l2) @hck ?_;refine af (α:=Nat) (fun i=>l.length-i) (fun i=>⟨[(1, .v (.sl (l.map fun p=>N p.1))),(2, .v (.sl (l.map uF))),(3, .p 1000 0 0),(11,E' i)],[(1000,⟨0,[.v (.s m), .v (.s o)],false,none⟩)],_⟩) (fun i=>i<=l.length) 0 (fun _=>aA _) (aI _) ?_ ?_
     ·exact lE
     ·intro i hi R hR
      by_cases hlt:i<l.length
      ·obtain⟨k1,k2,k3⟩:=h _ (an d0 hlt);have e1:=g1 hlt;have hh:=k1.has hE lm;have hv:=oN lm o (x:=aY (l.getD i d0).1) hE ((ct hE).1 hh).1;rw[hh]at hv;clear k1 k2 k3 hh;have hgo:=hR (i+1) oO oO;exact gV (aN @l1 @e1) @hgo @hv
      ·obtain rfl:i=l.length:=oO;refine dH @l1 ?_;refine af (α:=Nat×Nat) (fun s=>l.length-s.1) (fun s=>⟨[(1, .v (.sl (l.map fun p=>N p.1))),(2, .v (.sl (l.map uF))),(3, .p 1000 0 0),(12, .v (N s.2)),(13,E' s.1)],[(1000,⟨0,[.v (.s m), .v (.s o)],false,none⟩)],_⟩) (fun s=>s.1<=l.length/\s.2<num m/\gI (num m) s.2 (l.drop s.1)=gI (num m) 1 l) (0,1) (fun _=>aA _) ⟨aI _,m1,rfl⟩ ?_ ?_
       ·(refine AS.Le.of (by first|decide|omega) ?_ ?_<;>simp[dC,dA,aP,ay,AV.bd,AV.bd.bdL,u8,ar,au,az])
        all_goals rfl
       ·rintro⟨i,x⟩ ⟨hi,hx,hf⟩ R hR;simp only at hi hx hf
        by_cases hlt:i<l.length
        ·obtain⟨k1,k2,k3⟩:=h _ (an d0 hlt);have e1:=g1 hlt;have e2:=g2 hlt;rw[aW d0 hlt]at hf;have hraw:=BN lm hE k1 k2 k3;have hpl:de (num m) (l.getD i d0).1 (l.getD i d0).2.1 (num (l.getD i d0).2.2)<num m:=aL _ oO;have hgo:=hR (i+1,x*de (num m) (l.getD i d0).1 (l.getD i d0).2.1 (num (l.getD i d0).2.2)%num m) ⟨by show i+1<= _;omega,aL _ oO,hf⟩ (by show l.length-(i+1)<l.length-i;omega)
         clear hf hR k1 k2 k3;generalize de (num m) (l.getD i d0).1 (l.getD i d0).2.1 (num (l.getD i d0).2.2)=y at*;have hmm:=Oj (a:=x) (b:=y) (m:=num m) oO oO nm oO;rw[eH vm]at hmm;repeat' first|simp only[go_sem,seval,l1,l2,e1,e2,uF]|refine cP hraw ?_|refine cP hmm ?_|refine oE ?_|apply xX<;>intro hc
         refine hgo _ ?_;exact lE
        ·obtain rfl:i=l.length:=oO;rw[da]at hf;simp only[gI]at hf;rw[<-hf];exact gi @l1
theorem Hl {s:cU} (hs:TZ s) (hv: ∀b∈s.vars,aa b=true):aE 297 [s.pv] (.b true):=by
 obtain⟨gs,vs,es⟩:=s;obtain⟨hg,hq,ng,nv,ne⟩:=hs;simp only at hg hv hq ng nv ne;have l1:(gs.map eB).length=gs.length:=aC ..;have l2:(vs.map cO).length=vs.length:=aC ..;have l3:(es.map dx.pv).length=es.length:=aC ..;unfold cU.pv;simp only;refine eW call297 func297 ?_;refine qB ?_;refine af (α:=Nat) (fun i=>gs.length-i) (fun i=>⟨[(1, .p 1000 0 0),(3,E' i)],[(1000,⟨0,[.v (.sl (gs.map eB)), .v (.sl (vs.map cO)), .v (.sl (es.map dx.pv))],false,none⟩)],_⟩) (fun i=>i<=gs.length) 0 (fun _=>aA _) (aI _) ?_ ?_
 ·exact lE
 ·intro i hi R hR
  by_cases hlt:i<gs.length
  ·have e1:=getD_map eB gs fj hlt;have k:=hg _ (an fj hlt);have hgo:=hR (i+1) oO oO;obtain⟨x,hx⟩: ∃x,x=gs.getD i fj:=⟨_,rfl⟩;rw[<-hx]at e1 k;obtain⟨m,o⟩:=x;obtain⟨vm,vo,-⟩:=jf k.1;have v1:=aK m;have v2:=aK o;rw[vm]at v1;rw[vo]at v2;clear hR hx k vm vo;simp only[eB]at e1;exact vY (aN @l1 @e1) @hgo @v1 @v2
  ·obtain rfl:i=gs.length:=oO;refine dH @l1 ?_;refine af (α:=Nat) (fun i=>vs.length-i) (fun i=>⟨[(1, .p 1000 0 0),(4,E' i)],[(1000,⟨0,[.v (.sl (gs.map eB)), .v (.sl (vs.map cO)), .v (.sl (es.map dx.pv))],false,none⟩)],_⟩) (fun i=>i<=vs.length) 0 (fun _=>aA _) (aI _) ?_ ?_
   ·exact lE
   ·intro i hi R hR
    by_cases hlt:i<vs.length
    ·have e1:=getD_map cO vs [] hlt;have k:=hv _ (an [] hlt);have hgo:=hR (i+1) oO oO;obtain⟨x,hx⟩: ∃x,x=vs.getD i []:=⟨_,rfl⟩;rw[<-hx]at e1 k;have v1:=aK x;rw[k]at v1;clear hR hx k;simp only[cO]at e1;exact gV (aN @l2 @e1) @hgo @v1
    ·obtain rfl:i=vs.length:=oO;refine dH @l2 ?_;refine af (α:=Nat) (fun i=>es.length-i) (fun i=>⟨[(1, .p 1000 0 0),(5,E' i)],[(1000,⟨0,[.v (.sl (gs.map eB)), .v (.sl (vs.map cO)), .v (.sl (es.map dx.pv))],false,none⟩)],_⟩) (fun i=>i<=es.length) 0 (fun _=>aA _) (aI _) ?_ ?_
     ·exact lE
     ·intro i hi R hR
      by_cases hlt:i<es.length
      ·have e1:=getD_map dx.pv es hG hlt;obtain⟨q1,q2,q3,q4,q5⟩:=hq _ (an hG hlt);have hgo:=hR (i+1) oO oO;obtain⟨x,hx⟩: ∃x,x=es.getD i hG:=⟨_,rfl⟩;rw[<-hx]at e1 q1 q2 q3 q4 q5;obtain⟨gr,tg,ts⟩:=x;simp only at q1 q2 q3 q4 q5;have hgE:=(hg _ (an fj (show gr.toNat<gs.length by omega))).1
       have v1:=aK tg;rw[gO hgE q3]at v1;have l4:(ts.map eT.pv).length=ts.length:=aC ..;simp only[dx.pv]at e1;clear hR hx q3;have hd1:decide (gr<0)=false:=aG oO;have hd2:decide (gr>=(gs.length:Int))=false:=aG oO;refine oZ (aN @l1 (aN @l3 (aN @l4 (aN @e1 (aN @hd1 @hd2))))) @v1 ?_;refine af (α:=Nat) (fun i=>ts.length-i) (fun j=>⟨[(1, .p 1000 0 0),(5,E' i),(6, .p 1025 0 0),(7,E' j)],[(1000,⟨0,[.v (.sl (gs.map eB)), .v (.sl (vs.map cO)), .v (.sl (es.map dx.pv))],false,none⟩),(1025,⟨0,[.v (.i .i64 gr), .v (.s tg), .v (.sl (ts.map eT.pv))],false,some 154⟩)],_⟩) (fun i=>i<=ts.length) 0 (fun _=>aA _) (aI _) ?_ ?_
       ·exact lE
       ·intro j hj R' hR'
        by_cases hjt:j<ts.length
        ·have e2:=getD_map eT.pv ts fp hjt;obtain⟨t1,t2,t3,t4⟩:=q5 _ (an fp hjt);have hgo':=hR' (j+1) oO oO;obtain⟨y,hy⟩: ∃y,y=ts.getD j fp:=⟨_,rfl⟩;rw[<-hy]at e2 t1 t2 t3 t4;obtain⟨b,v,n,a⟩:=y;simp only at t1 t2 t3 t4;have v2:=aK b;rw[gO hgE t3]at v2;have v3:=jE n a;rw[show(aa a&& !(n&&a==[]))=true from t4]at v3
         simp only[eT.pv]at e2;clear hR' hy t3 t4 q5;have hd3:decide (v<0)=false:=aG oO;have hd4:decide (v>=(vs.length:Int))=false:=aG oO;refine qC (aN @l2 (aN @l4 (aN @e2 (aN @hd3 @hd4)))) @v2 @v3 ?_;refine hgo' _ ?_;exact lE
        ·obtain rfl:j=ts.length:=oO;exact jN (aN @l3 @l4) @hgo
      ·obtain rfl:i=es.length:=oO;exact gi @l3
theorem Ou {s:cU} (hs:TZ s):aE 399 [s.pv] (.b false):=by
 obtain⟨gs,vs,es⟩:=s;obtain⟨hg,hq,ng,nv,ne⟩:=hs;simp only at hg hq ng nv ne;have l1:(gs.map eB).length=gs.length:=aC ..;have l2:(vs.map cO).length=vs.length:=aC ..;have l3:(es.map dx.pv).length=es.length:=aC ..;unfold cU.pv;simp only;refine eW call399 func399 ?_;refine qB ?_;refine af (α:=Nat) (fun i=>es.length-i) (fun i=>⟨[(1, .p 1000 0 0),(3,E' i)],[(1000,⟨0,[.v (.sl (gs.map eB)), .v (.sl (vs.map cO)), .v (.sl (es.map dx.pv))],false,none⟩)],_⟩) (fun i=>i<=es.length) 0 (fun _=>aA _) (aI _) ?_ ?_
 ·exact lE
 ·intro i hi R hR
  by_cases hlt:i<es.length
  ·have e1:=getD_map dx.pv es hG hlt;have q4:=(hq _ (an hG hlt)).2.2.2.1;have hgo:=hR (i+1) oO oO;obtain⟨x,hx⟩: ∃x,x=es.getD i hG:=⟨_,rfl⟩;rw[<-hx]at e1 q4;obtain⟨gr,tg,ts⟩:=x;simp only at q4;have l4:(ts.map eT.pv).length=ts.length:=aC ..;simp only[dx.pv]at e1;clear hR hx;exact jN (aN @l3 (aN @l4 @e1)) @hgo
  ·obtain rfl:i=es.length:=oO;have hd:decide ((es.length:Int)>64)=false:=aG oO;exact gi (aN @l1 (aN @l2 (aN @l3 @hd)))
theorem C7 {s:cU} (hs:TZ s):aE 400 [s.pv] (.b true):=by
 obtain⟨gs,vs,es⟩:=s;obtain⟨hg,hq,ng,nv,ne⟩:=hs;simp only at hg hq ng nv ne;have l1:(gs.map eB).length=gs.length:=aC ..;have l3:(es.map dx.pv).length=es.length:=aC ..;unfold cU.pv;simp only;refine eW call400 func400 ?_;refine qB ?_;refine af (α:=Nat) (fun i=>gs.length-i) (fun i=>⟨[(1, .p 1000 0 0),(3,E' i)],[(1000,⟨0,[.v (.sl (gs.map eB)), .v (.sl (vs.map cO)), .v (.sl (es.map dx.pv))],false,none⟩)],_⟩) (fun i=>i<=gs.length) 0 (fun _=>aA _) (aI _) ?_ ?_
 ·exact lE
 ·intro i hi R hR
  by_cases hlt:i<gs.length
  ·have e1:=getD_map eB gs fj hlt;have k:=hg _ (an fj hlt);have hgo:=hR (i+1) oO oO;obtain⟨x,hx⟩: ∃x,x=gs.getD i fj:=⟨_,rfl⟩;rw[<-hx]at e1 k;obtain⟨m,o⟩:=x;have v1:=jT k.2.1 k.2.2;rw[k.1]at v1;clear hR hx k;simp only[eB]at e1;exact gV (aN @l1 @e1) @hgo @v1
  ·obtain rfl:i=gs.length:=oO;refine dH @l1 ?_;refine af (α:=Nat) (fun i=>es.length-i) (fun i=>⟨[(1, .p 1000 0 0),(4,E' i)],[(1000,⟨0,[.v (.sl (gs.map eB)), .v (.sl (vs.map cO)), .v (.sl (es.map dx.pv))],false,none⟩)],_⟩) (fun i=>i<=es.length) 0 (fun _=>aA _) (aI _) ?_ ?_
   ·exact lE
   ·intro i hi R hR
    by_cases hlt:i<es.length
    ·have e1:=getD_map dx.pv es hG hlt;obtain⟨q1,q2,q3,q4,q5⟩:=hq _ (an hG hlt);have hgo:=hR (i+1) oO oO;obtain⟨x,hx⟩: ∃x,x=es.getD i hG:=⟨_,rfl⟩;rw[<-hx]at e1 q1 q2 q3 q4 q5;obtain⟨gr,tg,ts⟩:=x;simp only at q1 q2 q3 q4 q5;have hgl:gr.toNat<gs.length:=oO;have kg:=hg _ (an fj hgl);have e3:=getD_map eB gs fj hgl;obtain⟨z,hz⟩: ∃z,z=gs.getD gr.toNat fj:=⟨_,rfl⟩;rw[<-hz]at q3 q5 kg e3;obtain⟨m,o⟩:=z;simp only at q3 q5 kg;have hIn: ∀{x:Bytes},jz m o x=true->jb m o x=true:=fun h=>by simp[jb,kg.1,h]
     have v1:=oM kg.2.1 kg.2.2 tg;rw[hIn q3]at v1;have v2:=oM kg.2.1 kg.2.2;have l4:(ts.map eT.pv).length=ts.length:=aC ..;simp only[eB]at e3;simp only[dx.pv]at e1;clear hR hx hz q3;refine oZ (aN @l1 (aN @l3 (aN @e1 @e3))) @v1 ?_;refine af (α:=Nat) (fun i=>ts.length-i) (fun j=>⟨[(1, .p 1000 0 0),(4,E' i),(5, .p 1019 0 0),(6, .p 1027 0 0),(7,E' j)],[(1000,⟨0,[.v (.sl (gs.map eB)), .v (.sl (vs.map cO)), .v (.sl (es.map dx.pv))],false,none⟩),(1019,⟨0,[.v (.i .i64 gr), .v (.s tg), .v (.sl (ts.map eT.pv))],false,some 154⟩),(1027,⟨0,[.v (.s m), .v (.s o)],false,some 24⟩)],_⟩) (fun i=>i<=ts.length) 0 (fun _=>aA _) (aI _) ?_ ?_
     ·exact lE
     ·intro j hj R' hR'
      by_cases hjt:j<ts.length
      ·have e2:=getD_map eT.pv ts fp hjt;have t3:=(q5 _ (an fp hjt)).2.2.1;have hgo':=hR' (j+1) oO oO;obtain⟨y,hy⟩: ∃y,y=ts.getD j fp:=⟨_,rfl⟩;rw[<-hy]at e2 t3;obtain⟨b,v,n,a⟩:=y;simp only at t3;have v3:=v2 b;rw[hIn t3]at v3;simp only[eT.pv]at e2;clear hR' hy t3 q5;refine jm (aN @l4 @e2) @v3 ?_;refine hgo' _ ?_;exact lE
      ·obtain rfl:j=ts.length:=oO;exact jN @l4 @hgo
    ·obtain rfl:i=es.length:=oO;exact gi @l3
theorem Fx (s:cU) (hl:s.groups.length<1000000):aE 294 [s.pv] (.s (bM s.groups)):=by
 obtain⟨gs,vs,es⟩:=s;simp only at hl;have l1:(gs.map eB).length=gs.length:=aC ..;unfold cU.pv;simp only;refine eW call294 func294 ?_;refine qB ?_;refine af (α:=Nat) (fun i=>gs.length-i) (fun i=>⟨[(1, .p 1000 0 0),(3,E' i)],[(1000,⟨0,[.v (.sl (gs.map eB)), .v (.sl (vs.map cO)), .v (.sl (es.map dx.pv))],false,none⟩)],_⟩) (fun i=>i<=gs.length/\bM (gs.drop i)=bM gs) 0 (fun _=>aA _) ⟨aI _,rfl⟩ ?_ ?_
 ·exact lE
 ·rintro i ⟨hi,hf⟩ R hR;rw[<-hf]
  by_cases hlt:i<gs.length
  ·have e1:=getD_map eB gs fj hlt;have hgo:=hR (i+1);rw[<-hf]at hgo;rw[aW fj hlt]at hgo⊢;obtain⟨x,hx⟩: ∃x,x=gs.getD i fj:=⟨_,rfl⟩;rw[<-hx]at e1 hgo⊢;clear hx hf hR;obtain⟨m,o⟩:=x;simp only[bM]at hgo⊢;simp only[eB]at e1
   by_cases ho:o=[]
   ·subst ho;simp only[ax]at hgo⊢;have hgo:=hgo ⟨oO,trivial⟩ oO;exact jN (aN @l1 (aN @e1 @nn)) @hgo
   ·have hb:(o==([]:Bytes))=false:=by simpa using ho
    rw[ae ho];exact gi (aN @l1 (aN @e1 @hb))
  ·obtain rfl:i=gs.length:=oO;rw[da];exact gi @l1
theorem I1 (b:Bool) (a:Bytes):aE 317 [.b b, .s a] (.agg [.b (b&& !(a==[])), .s a]):=by
 refine eW call317 func317 ?_;exact Y6
theorem KD (b:Bool) (a:Bytes):aE 411 [.agg [.b b, .s a]] (.agg [.b (!b&& !(a==[])), .s a]):=by
 have h:=I1 (!b) a;refine eW call411 func411 ?_;exact z1 @h
theorem nN (n1 n2:Bool) {a1 a2:Bytes} (h1:a1.length<1048576) (h2:a2.length<1048576):aE 206 [.agg [.b n1, .s a1], .agg [.b n2, .s a2]] (.agg [.b ((n1 !=n2)&& !(aY (num a1*num a2)==[])), .s (aY (num a1*num a2))]):=by
 have ht:=qS a1 a2 h1 h2;have h:=I1 (n1 !=n2) (aY (num a1*num a2));refine eW call206 func206 ?_;exact z2 @ht @h
theorem KP (l:List (Bool×Bytes)) (hl:l.length<1000000):aE 319 [.sl (l.map cT)] (.b (l.all cz)):=by
 have l5:(l.map cT).length=l.length:=aC ..;refine eW call319 func319 ?_;refine qB ?_;refine af (α:=Nat) (fun i=>l.length-i) (fun i=>⟨[(0, .v (.sl (l.map cT))),(3,E' i)],[],_⟩) (fun i=>i<=l.length/\(l.drop i).all cz=l.all cz) 0 (fun _=>aA _) ⟨aI _,rfl⟩ ?_ ?_
 ·exact lE
 ·rintro i ⟨hi,hf⟩ R hR;rw[<-hf]
  by_cases hlt:i<l.length
  ·have e1:=getD_map cT l fU hlt;have hgo:=hR (i+1);rw[<-hf]at hgo;rw[aW fU hlt,List.all_cons]at hgo⊢;obtain⟨x,hx⟩: ∃x,x=l.getD i fU:=⟨_,rfl⟩;rw[<-hx]at e1 hgo⊢;clear hx hf hR;obtain⟨n,a⟩:=x;have hv:=jE n a;have e:cz (n,a)=(aa a&& !(n&&a==[])):=rfl;rw[e]at hgo⊢;clear e;simp only[cT]at e1;generalize (aa a&& !(n&&a==[]))=b at*;cases b
   ·repeat' first|simp only[go_sem,seval,l5,e1]|refine cP hv ?_|refine oE ?_|apply xX<;>intro hc
    all_goals simp
   ·have hgo:=hgo ⟨oO,by simp⟩ oO
    exact gV (aN @l5 @e1) @hgo @hv
  ·obtain rfl:i=l.length:=oO;rw[da];exact gi @l5
end Go.Proofs.Tryz
namespace Go.Proofs.Tryz
open Go Go.Dom
def pY (l:List (Bool×Bytes)):PV:= .sl (l.map cT)
theorem yk (l:List (Bytes)) (f:FuncId) (p:Bytes->Bool) (hl:l.length<4611686018427387904) (h: ∀x,aE f [PV.s x] (.b (p x))):aE 389 [.sl (l.map PV.s), .fn (.func f)] (E (eJ p 0 l)):=by
 have hlm:(l.map PV.s).length=l.length:=aC ..;refine eW call389 func389 ?_;refine dH @hlm ?_;refine af (α:=Nat) (fun i=>l.length-i) (fun i=>⟨[(0, .v (.sl (l.map PV.s))),(1, .v (.fn (.func f))),(7, .v (.i .i64 l.length)),(8, .v (.i .i64 (i:Nat)))],[],_⟩) (fun i=>i<=l.length/\eJ p i (l.drop i)=eJ p 0 l) 0 (fun _=>aA _) ⟨aI _,rfl⟩ ?_ ?_
 ·exact lE
 ·rintro i ⟨hi,hx⟩ R hR;rw[<-hx]
  by_cases hlt:i<l.length
  ·have e1:=getD_map PV.s l [] hlt;have hf:=h (l.getD i []);have hgo:=hR (i+1);rw[<-hx,aW [] hlt]at hgo;rw[aW [] hlt];simp only[eJ]at hgo⊢;clear hx hR h;generalize p (l.getD i [])=b at*;generalize l.getD i []=x at*;cases b
   ·have hgo:=hgo ⟨oO,rfl⟩ oO;exact gV (aN @hlm @e1) @hgo @hf
   ·exact m9 (aN @hlm @e1) @hf
  ·obtain rfl:i=l.length:=oO;rw[da];repeat' first|simp only[go_sem,seval,hlm]|refine oE ?_|apply xX<;>intro hc
   all_goals simp[eJ]
theorem nj (l:List (Bytes)) (f:FuncId) (p:Bytes->Bool) (hl:l.length<4611686018427387904) (h: ∀x,aE f [PV.s x] (.b (p x))):aE 281 [.sl (l.map PV.s), .fn (.func f)] (.b (l.any p)):=by
 have hi:=yk l f p hl h;have e:decide (eJ p 0 l>=0)=l.any p:=by
  rw[ew,decide_eq_true_iff];exact jh
 refine eW call281 func281 ?_;exact m9 @e @hi
theorem Av (l:List (List (Bool×Bytes))) (f:FuncId) (c:List PV) (p:List (Bool×Bytes)->Bool) (hl:l.length<4611686018427387904) (h: ∀x∈l,aE f (pY x::c) (.b (p x))):aE 250 [.sl (l.map pY), .fc f [] c] (E (eJ p 0 l)):=by
 have hlm:(l.map pY).length=l.length:=aC ..;refine eW call250 func250 ?_;refine dH @hlm ?_;refine af (α:=Nat) (fun i=>l.length-i) (fun i=>⟨[(0, .v (.sl (l.map pY))),(1, .v (.fc f [] c)),(7, .v (.i .i64 l.length)),(8, .v (.i .i64 (i:Nat)))],[],_⟩) (fun i=>i<=l.length/\eJ p i (l.drop i)=eJ p 0 l) 0 (fun _=>aA _) ⟨aI _,rfl⟩ ?_ ?_
 ·exact lE
 ·rintro i ⟨hi,hx⟩ R hR;rw[<-hx]
  by_cases hlt:i<l.length
  ·have e1:=getD_map pY l [] hlt;have hf:=h (l.getD i []) (an [] hlt);have hgo:=hR (i+1);rw[<-hx,aW [] hlt]at hgo;rw[aW [] hlt];simp only[eJ]at hgo⊢;clear hx hR h;generalize p (l.getD i [])=b at*;generalize l.getD i []=x at*;simp only[pY]at e1 hf;cases b
   ·have hgo:=hgo ⟨oO,rfl⟩ oO;repeat' first|simp only[go_sem,seval,hlm,e1]|(refine jn hf (nM _ _) ?_)|refine oE ?_|apply xX<;>intro hc
    refine hgo _ ?_;exact lE
   ·repeat' first|simp only[go_sem,seval,hlm,e1]|(refine jn hf (nM _ _) ?_)|refine oE ?_|apply xX<;>intro hc
    all_goals rfl
  ·obtain rfl:i=l.length:=oO;rw[da];repeat' first|simp only[go_sem,seval,hlm]|refine oE ?_|apply xX<;>intro hc
   all_goals simp[eJ]
theorem ou (l:List (List (Bool×Bytes))) (f:FuncId) (c:List PV) (p:List (Bool×Bytes)->Bool) (hl:l.length<4611686018427387904) (h: ∀x∈l,aE f (pY x::c) (.b (p x))):aE 140 [.sl (l.map pY), .fc f [] c] (.b (l.any p)):=by
 have hi:=Av l f c p hl h;have e:decide (eJ p 0 l>=0)=l.any p:=by
  rw[ew,decide_eq_true_iff];exact jh
 refine eW call140 func140 ?_;exact m9 @e @hi
theorem MN (x:Bool×Bytes):aE 412 [cT x] (.b (!cz x)):=by
 obtain⟨n,a⟩:=x;have hv:=hO n a;have e:cz (n,a)=(aa a&& !(n&&a==[])):=rfl;rw[e];generalize (aa a&& !(n&&a==[]))=b at*;simp only[cT];refine eW call412 func412 ?_;exact z1 @hv
abbrev Xh:PV:= .pt (.agg [.fn (.func 412)]) 0
theorem ED (l:List (Bool×Bytes)) (hl:l.length<4611686018427387904):aE 413 [pY l,Xh] (.b (!l.all cz)):=by
 have h1:=gD l _ _ hl MN;rw[np]at h1;unfold pY;refine eW call413 func413 ?_;exact z1 @h1
theorem MO (a:Bytes):aE 414 [.s a] (.b (!aa a)):=by
 have hv:=aT a;generalize aa a=b at*;refine eW call414 func414 ?_;exact z1 @hv
theorem Zm (f:FuncId) (c:List PV):aE 281 [.sl [], .fc f [] c] (.b false):=by
 have hi:aE 389 [.sl [], .fc f [] c] (E (-1)):=by
  refine eW call389 func389 ?_;exact SA
 refine eW call281 func281 ?_;exact z1 @hi
