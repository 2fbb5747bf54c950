/- Part of the proof. -/
import Derived.Test.YtkmahpcpmgedkaaGreatDoorFC36
import Derived.Test.YtkmahpcpmgedkaaGreatDoorFC41
set_option linter.all false
set_option maxHeartbeats 16000000
set_option maxRecDepth 100000
namespace Go.Proofs.Tryz
open Go Go.Dom Go.Num
variable {A B c ch ctx d sd sl:Bytes} {a:Int} {i j x:Nat} {vs:List Bytes}
theorem YW (b:Bytes):aE 142 [cO b] (.s (if b=[]then([]:Bytes)else b)):=by
 have h:=Su b;split
 ·rename_i g;subst g;exact h
 ·exact h
theorem YX (m:Bytes) {o:Bytes} (h:o≠[]):aE 143 [.sl [G m o], .fn (.func 144)] (E 0):=by
 have hb:(o !=([]:Bytes))=true:=by simpa using h
 have hb2:(o==([]:Bytes))=false:=by simpa using h
 have h:aE 144 [G m o] (.b true):=by
  refine eW call144 func144 ?_;exact gi (aN @hb @hb2)
 refine eW call143 func143 ?_;refine qB ?_;refine ai ?_;exact z1 @h
theorem YY (b o:Bytes):aE 145 [cO b, .pt (.agg [.s o]) 0] (.s (if b=[]then o else b)):=by
 unfold cO
 by_cases h:b=[]
 ·subst h;refine eW call145 func145 ?_;exact gi @nn
 ·have hb:(b==([]:Bytes))=false:=by simpa using h
  rw[ae h];refine eW call145 func145 ?_;exact gi @hb
noncomputable def AZ (s:cU) (w:List Int) (vs:List Bytes) (a:Int):Int:=if !fQ vs a then 3 else if w.length≠s.vars.length then 6 else if !CD (bM s.groups) s.vars w then 2 else if !J6 s w then 18 else 0
theorem O9 {s:cU} (hs:Ca s) {m o:Bytes} (hg1:s.groups=[(m,o)]) {w:List Int} (hw6:w.length<1000000) (hw: ∀x∈w,x.natAbs<dZ) (hW:CD (bM s.groups) s.vars w=true->WS s w) (sd:Bytes) (hl:vs.length<1000000):aE 70 [X0 c sl s, .sl (w.map Zp), .sl [],T vs sd a] (E (AZ s w vs a)):=by
 have v1:=gD (w.map nf) _ _ (by rw[aC];omega) St
 rw[np,xp hw,Za]at v1;have v2:=ou [] 141 [.pt (.agg [.fn (.func 137)]) 0] (fun _=>true) oC (fun x hx=>by cases hx)
 rw[show(([]:List (List (Bool×Bytes))).any fun _=>true)=false from rfl]at v2
 have v3:=HS sd (a:=a) hl;have nv:=hs.nv;have hb:=hs.v;have hh:=fun h=>Kc hs (w:=w) h hw hW
 have hoV:=fa hs.g;have hnb: ∀b∈s.vars,bM s.groups=[]->b≠[]:=fun b h1 h2 h3=>CG hs (h3▸h1) h2
 obtain⟨gs,us,es⟩:=s;simp only at hg1 nv hb hh hoV hnb;subst hg1;have l2:(us.map cO).length=us.length:=aC ..;have l5:(w.map Zp).length=w.length:=aC ..;have ho:bM [(m,o)]=o:=by
  by_cases h:o=[]
  ·subst h;rfl
  ·simp[bM,h]
 rw[ho]at hh hoV hnb;unfold AZ;simp only[ho,X0,cU.pv,bC,bR,eB]at hh v2⊢;clear hs hW
 cases hg:fQ vs a with
 |false=>
  rw[hg]at v3;simp only[cv,bV,ax];refine eW call70 func70 ?_;repeat' first|simp only[go_sem,seval,aU]|refine cP v1 ?_|refine cV v2 ?_|refine cP v3 ?_|refine cP sO ?_|refine oE ?_|apply xX<;>intro hc
  all_goals rfl
 |true=>
  rw[hg]at v3;simp only[bV,bu,aq]
  by_cases hwl:w.length=us.length
  ·rw[ae (by simpa using hwl)]
   have hh:=hh hwl;have hI: ∀ _:True,((w.length:Int) !=us.length)=false:=fun _=>by rw[hwl];simp
   by_cases ho0:o=[]
   ·have v4:=Sv m;subst ho0;refine eW call70 func70 ?_;repeat' first|simp only[go_sem,seval,aU,l2,l5,hI oT]|refine cP v1 ?_|refine cV v2 ?_|refine cP v3 ?_|refine cP sO ?_|refine cP v4 ?_|refine oE ?_|apply xX<;>intro hc
    refine af (α:=Nat) (fun i=>us.length-i) (fun i=>⟨[(1, .v (.sl (w.map Zp))),(2, .v (.sl [])),(4, .p 1000 0 0),(13, .v (.fn (.func 142))),(76, .v (.sl (us.map cO))),(77,E' us.length),(78,E' i)],[(1000,⟨0,[.v (.s c), .v (.s sl), .v (.sl [G m []]), .v (.sl (us.map cO)), .v (.sl (es.map dx.pv)), .v (.sl []), .v (.sl []), .v (.s [])],false,none⟩)],_⟩) (fun i=>i<=us.length/\ ∀j,j<i->kC (us.getD j []) (w.getD j 0) (fK [] (us.getD j []))=true) 0 (fun _=>aA _) ⟨aI _,fun j hj=>oO⟩ ?_ ?_
    ·exact lE
    ·rintro i ⟨hi,hlts⟩ R hR;clear v1 v2 v3
     by_cases hlt:i<us.length
     ·have e1:=getD_map cO us [] hlt;have e2:=getD_map Zp w 0 (i:=i) oO;have kb:=hb _ (an [] hlt);have kw:=hw _ (an 0 (show i<w.length by omega))
      have hv0:=hnb _ (an [] hlt);have hgo:=fun h=>hR (i+1) ⟨oO,h⟩ oO
      have hbad:=fun h: ¬kC (us.getD i []) (w.getD i 0) (fK [] (us.getD i []))=true=>qE (p:=fun i=>kC (us.getD i []) (w.getD i 0) (fK [] (us.getD i []))) hlt (fz.2 h)
      have hnx:kC (us.getD i []) (w.getD i 0) (fK [] (us.getD i []))=true-> ∀j,j<i+1->kC (us.getD j []) (w.getD j 0) (fK [] (us.getD j []))=true:=fun h j hj=>by
       by_cases hji:j<i
       ·exact hlts j hji
       ·obtain rfl:j=i:=oO;exact h
      rw[<-CD]at hbad;clear hR hlts hh;generalize us.getD i []=b at*;generalize w.getD i 0=x at*;have hz:=u9 kw;simp only[nf,cz,ba]at hz;have hc:=sZ hz.1 (show aa (if b=[]then[]else b)=true by split;exact hoV.1;exact kb.1)
      have hbl:num (if b=[]then[]else b)=fK [] b:=by unfold fK;split<;>rfl
      rw[CQ,hbl]at hc;have h3:=YW b;have hd:decide (bc x.natAbs (fK [] b)>=0)= !decide (x.natAbs<fK [] b):=SZ _ _;have hzs:zs x=decide (x<0):=rfl;simp only[cO]at e1 h3;simp only[Zp,cT,nf]at e2;unfold kC at hbad hnx;clear hbl kb kw hz;generalize bc x.natAbs (fK [] b)=cm at*;generalize decide (x.natAbs<fK [] b)=p at*;generalize decide (x<0)=q at*;generalize (if b=[]then[]else b)=y at*
      have hbb:(b==[])=decide (b=[]):=by rw[ew,gR,cK]
      generalize decide (b=[])=b0 at*;cases p
      ·rw[hbad (by simp)]
       simp only[cv,ax];repeat' first|simp only[go_sem,seval,aU,l2,l5,e1,e2,hbb,hd,hzs]|refine cP h3 ?_|refine cV h3 ?_|refine cP hc ?_|refine oE ?_|apply xX<;>intro hc
       all_goals rfl
      ·cases b0
       ·have hgo:=hgo (hnx (by simp))
        repeat' first|simp only[go_sem,seval,aU,l2,l5,e1,e2,hbb,hd,hzs]|refine cP h3 ?_|refine cV h3 ?_|refine cP hc ?_|refine oE ?_|apply xX<;>intro hc
        refine hgo _ ?_;exact lE
       ·cases q
        ·have hgo:=hgo (hnx (by simp))
         repeat' first|simp only[go_sem,seval,aU,l2,l5,e1,e2,hbb,hd,hzs]|refine cP h3 ?_|refine cV h3 ?_|refine cP hc ?_|refine oE ?_|apply xX<;>intro hc
         refine hgo _ ?_;exact lE
        ·rw[hbad (by simp)]
         simp only[cv,ax];repeat' first|simp only[go_sem,seval,aU,l2,l5,e1,e2,hbb,hd,hzs]|refine cP h3 ?_|refine cV h3 ?_|refine cP hc ?_|refine oE ?_|apply xX<;>intro hc
         all_goals rfl
     ·obtain rfl:i=us.length:=oO;have hg:CD [] us w=true:=qf fun j hj=>hlts j hj
      rw[hg,cr]at hh;rw[hg];simp only[bV,bu,aq];clear hR hlts hb;generalize J6 ⟨[(m,[])],us,es⟩ w=b at*;cases b
      ·exact Ps @hh @yn
      ·exact Ps @hh @yn
   ·have v4:=YX m ho0;refine eW call70 func70 ?_;repeat' first|simp only[go_sem,seval,aU,l2,l5,hI oT]|refine cP v1 ?_|refine cV v2 ?_|refine cP v3 ?_|refine cP sO ?_|refine cP v4 ?_|refine oE ?_|apply xX<;>intro hc
    refine af (α:=Nat) (fun i=>us.length-i) (fun i=>⟨[(1, .v (.sl (w.map Zp))),(2, .v (.sl [])),(4, .p 1000 0 0),(13, .fn (.func 145) [] [.p 1057 0 0]),(76, .v (.sl (us.map cO))),(77,E' us.length),(78,E' i)],[(1000,⟨0,[.v (.s c), .v (.s sl), .v (.sl [G m o]), .v (.sl (us.map cO)), .v (.sl (es.map dx.pv)), .v (.sl []), .v (.sl []), .v (.s [])],false,none⟩),(1057,⟨0,[.v (.s o)],false,some 22⟩)],_⟩) (fun i=>i<=us.length/\ ∀j,j<i->kC (us.getD j []) (w.getD j 0) (fK o (us.getD j []))=true) 0 (fun _=>aA _) ⟨aI _,fun j hj=>oO⟩ ?_ ?_
    ·exact lE
    ·rintro i ⟨hi,hlts⟩ R hR;clear v1 v2 v3
     by_cases hlt:i<us.length
     ·have e1:=getD_map cO us [] hlt;have e2:=getD_map Zp w 0 (i:=i) oO;have kb:=hb _ (an [] hlt);have kw:=hw _ (an 0 (show i<w.length by omega))
      have hv0:=hnb _ (an [] hlt);have hgo:=fun h=>hR (i+1) ⟨oO,h⟩ oO
      have hbad:=fun h: ¬kC (us.getD i []) (w.getD i 0) (fK o (us.getD i []))=true=>qE (p:=fun i=>kC (us.getD i []) (w.getD i 0) (fK o (us.getD i []))) hlt (fz.2 h)
      have hnx:kC (us.getD i []) (w.getD i 0) (fK o (us.getD i []))=true-> ∀j,j<i+1->kC (us.getD j []) (w.getD j 0) (fK o (us.getD j []))=true:=fun h j hj=>by
       by_cases hji:j<i
       ·exact hlts j hji
       ·obtain rfl:j=i:=oO;exact h
      rw[<-CD]at hbad;clear hR hlts hh;generalize us.getD i []=b at*;generalize w.getD i 0=x at*;have hz:=u9 kw;simp only[nf,cz,ba]at hz;have hc:=sZ hz.1 (show aa (if b=[]then o else b)=true by split;exact hoV.1;exact kb.1)
      have hbl:num (if b=[]then o else b)=fK o b:=by unfold fK;split<;>rfl
      rw[CQ,hbl]at hc;have h3:=YY b o;have hd:decide (bc x.natAbs (fK o b)>=0)= !decide (x.natAbs<fK o b):=SZ _ _;have hzs:zs x=decide (x<0):=rfl;simp only[cO]at e1 h3;simp only[Zp,cT,nf]at e2;unfold kC at hbad hnx;clear hbl kb kw hz;generalize bc x.natAbs (fK o b)=cm at*;generalize decide (x.natAbs<fK o b)=p at*;generalize decide (x<0)=q at*;generalize (if b=[]then o else b)=y at*
      have hbb:(b==[])=decide (b=[]):=by rw[ew,gR,cK]
      generalize decide (b=[])=b0 at*;cases p
      ·rw[hbad (by simp)]
       simp only[cv,ax];repeat' first|simp only[go_sem,seval,aU,l2,l5,e1,e2,hbb,hd,hzs]|refine cP h3 ?_|refine cV h3 ?_|refine cP hc ?_|refine oE ?_|apply xX<;>intro hc
       all_goals rfl
      ·cases b0
       ·have hgo:=hgo (hnx (by simp))
        repeat' first|simp only[go_sem,seval,aU,l2,l5,e1,e2,hbb,hd,hzs]|refine cP h3 ?_|refine cV h3 ?_|refine cP hc ?_|refine oE ?_|apply xX<;>intro hc
        refine hgo _ ?_;exact lE
       ·cases q
        ·have hgo:=hgo (hnx (by simp))
         repeat' first|simp only[go_sem,seval,aU,l2,l5,e1,e2,hbb,hd,hzs]|refine cP h3 ?_|refine cV h3 ?_|refine cP hc ?_|refine oE ?_|apply xX<;>intro hc
         refine hgo _ ?_;exact lE
        ·rw[hbad (by simp)]
         simp only[cv,ax];repeat' first|simp only[go_sem,seval,aU,l2,l5,e1,e2,hbb,hd,hzs]|refine cP h3 ?_|refine cV h3 ?_|refine cP hc ?_|refine oE ?_|apply xX<;>intro hc
         all_goals rfl
     ·obtain rfl:i=us.length:=oO;have hg:CD o us w=true:=qf fun j hj=>hlts j hj
      rw[hg,cr]at hh;rw[hg];simp only[bV,bu,aq];clear hR hlts hb;generalize J6 ⟨[(m,o)],us,es⟩ w=b at*;cases b
      ·exact Ps @hh @yn
      ·exact Ps @hh @yn
  ·rw[ah hwl];have e6:((w.length:Int) !=us.length)=true:=by rw[bne_iff_ne];omega
   refine eW call70 func70 ?_;repeat' first|simp only[go_sem,seval,aU,l2,l5,e6]|refine cP v1 ?_|refine cV v2 ?_|refine cP v3 ?_|refine cP sO ?_|refine oE ?_|apply xX<;>intro hc
   all_goals rfl
noncomputable def Dm (c sl ctx:Bytes) (s:cU) (w:List Int) (vs:List Bytes) (sd:Bytes):Nat->Nat->Except Int (Bytes×List Int×Nat)
 |0,_=> .error 15
 |k+1,i=>match oh (bM s.groups) c sl vs sd s.vars i []with
  | .error e=> .error e
  | .ok ms=>
   if GF (bM s.groups) c sl s.vars (gW (bM s.groups) s.vars ms w (iU (Bs ctx s (yX s ms)) c))then .ok (aY (iU (Bs ctx s (yX s ms)) c),gW (bM s.groups) s.vars ms w (iU (Bs ctx s (yX s ms)) c),i+s.vars.length)else Dm c sl ctx s w vs sd k (i+s.vars.length)
noncomputable def CZ (c sl ctx:Bytes) (s:cU) (w:List Int) (vs:List Bytes) (sd:Bytes) (a:Int):Except Int (Bytes×List Int×Nat):=
 if AZ s w vs a≠0 then .error (AZ s w vs a)else Dm c sl ctx s w vs sd 64 a.toNat
theorem Sw {s:cU} {w:List Int} (h:AZ s w vs a=0):fQ vs a=true/\w.length=s.vars.length/\CD (bM s.groups) s.vars w=true/\J6 s w=true:=by
 unfold AZ at h
 split at h
 ·cases h
 ·rename_i h1
  split at h
  ·cases h
  ·rename_i h2
   split at h
   ·cases h
   ·rename_i h3
    split at h
    ·cases h
    ·rename_i h4;exact⟨by simpa using h1,by simpa using h2,by simpa using h3,by simpa using h4⟩
theorem UP {s:cU} (hs:Ca s) (w:List Int): ∀x∈yX s w,x.length<=8/\aa x=true:=by
 intro x hx;obtain⟨q,hq,rfl⟩:=bm.1 hx;obtain⟨q1,q2,-⟩:=hs.q q hq;have hg:=hs.g _ (an fj (show q.mS.toNat<s.groups.length by omega))
 have hm:=(jf hg.1).2.2.1;have hlt:UQ s.groups w q<256^8:=by
  unfold UQ wO;exact jy (aL _ oO) (eR hg.2.1)
 exact⟨o6.2 hlt,vN hlt⟩
theorem LA {s:cU} (hp:As c sl s) (hbd:SF s) (h00:s.eqs≠[]) {m o:Bytes} (hg1:s.groups=[(m,o)]) (hx:ctx.length<=100000) {w:List Int} (hw6:w.length<1000000) (hw: ∀x∈w,x.natAbs<dZ) (hW:CD (bM s.groups) s.vars w=true->WS s w) (hl:vs.length<1000000) (hsd:sd.length<1000000):
  aE 31 [.agg [.s c, .s sl], .s ctx,s.pv, .sl (w.map Zp),C0, .sl [],T vs sd a] (XM vs sd (CZ c sl ctx s w vs sd a)):=by
 have hr:=hp.r;have hs:=hp.g;have hn:=wB hp;have hwt:=O9 (c:=c) (sl:=sl) hs hg1 hw6 hw hW sd (a:=a) hl;unfold CZ
 by_cases he:AZ s w vs a=0
 ·rw[ae (by simpa using he)]
  rw[he]at hwt;obtain⟨f2,f3,f4,-⟩:=Sw he;obtain⟨g1,g2,g3⟩:=yU f2;obtain⟨i0,rfl⟩: ∃i:Nat,a=i:=⟨a.toNat,oO⟩;rw[Int.toNat_natCast];have hCo:=fun(i:Nat) (hi:i<=2147483647)=>Jp hp (vs:=vs) (sd:=sd) (i:=i) g1 hi hl hsd
  have hRe:=fun(ms:List Int) (ch:Nat) (hml:ms.length=s.vars.length) (hch:ch<num c)=>Gf hp f3 hml hch f4
  have hMf:=fun(i:Nat) (hi:i<=2147483647) (ms:List Int)=>zx hp (sd:=sd) (i:=i) g1 hi hl (ms:=ms)
  have hCh:=fun(fs:List Bytes)=>yC hr hbd hx (fs:=fs)
  have hB:=fun(i:Nat) (hi:i<=2147483647)=>PB (vs:=vs) (a:=i) sd (yT g1 hi) hl
  have hmI:=UP hs;have hii: ∀ms:List Int,yX s ms≠[]/\(yX s ms).length<=900:=fun ms=>by
   have:=CB s ms;have ne:=hs.ne;exact⟨fun h=>h00 (gb.1 (by rw[<-this,h];rfl)),oO⟩
  obtain⟨R0,hR0⟩: ∃R0,R0=Dm c sl ctx s w vs sd 64 i0:=⟨_,rfl⟩;rw[<-hR0];obtain⟨gs,us,es⟩:=s;simp only[X0,cU.pv]at hn hwt hCo hRe hCh hMf hg1⊢;subst hg1;obtain⟨oq,hoq⟩: ∃oq,oq=bM [(m,o)]:=⟨_,rfl⟩;simp only[bC,bR,eB,<-hoq]at hn hwt hCo hRe hCh hMf f4⊢;refine eW call31 func31 ?_;refine zl2 @hn @hwt ?_;refine af (α:=Nat×Nat) (fun p=>64-p.1) (fun p=>⟨[(1, .v (.s ctx)),(3, .v (.sl (w.map Zp))),(5, .v (.sl [])),(7, .p 1000 0 0),(9, .p 1001 0 0),(11, .p 1002 0 0),(13, .p 1003 0 0),(14, .p 1004 0 0),(15, .p 1005 0 0),(17, .p 1014 0 0),(50,E' p.1)],[(1000,⟨0,[.v (.s c), .v (.s sl)],false,none⟩),(1001,⟨0,[.v (.sl [G m o]), .v (.sl (us.map cO)), .v (.sl (es.map dx.pv))],false,none⟩),(1002,⟨0,[.v (.sl []), .v (.sl [])],false,none⟩),(1003,⟨0,[.v (.sl (vs.map .s)), .v (.s sd), .v (.i .i64 ((p.2:Nat):Int))],false,none⟩),(1004,⟨0,[.v (.s []), .sn, .sn, .sn],false,some 45⟩),(1005,⟨0,[.sn, .v (.s []), .v (.i .i64 0)],false,some 37⟩),(1014,⟨0,[.v (.s c), .v (.s sl), .v (.sl [G m o]), .v (.sl (us.map cO)), .v (.sl (es.map dx.pv)), .v (.sl []), .v (.sl []), .v (.s [])],false,some 129⟩)],1028⟩) (fun p=>p.1<=64/\p.2<=2147483647/\R0=Dm c sl ctx ⟨[(m,o)],us,es⟩ w vs sd (64-p.1) p.2) (0,i0) (fun _=>bQ rfl) ⟨aI _,oO,hR0⟩ ?_ ?_
  ·exact lE
  ·clear hn hwt hR0 he f2;rintro⟨k,i⟩ ⟨hk,hi,hR0⟩ R hR;simp only at hk hi hR0
   by_cases hlt:k<64
   ·obtain⟨q,hq⟩: ∃q,64-k=q+1:=⟨63-k,oO⟩;rw[hq,Dm]at hR0;simp only[<-hoq]at hR0;have hCo:=hCo i hi
    cases hM:oh oq c sl vs sd us i []with
    |error e=>
     simp only[hM]at hR0 hCo;subst hR0;have he:(e !=0)=true:=by rcases ET hM with rfl|rfl<;>rfl
     simp only[Mm]at hCo;clear hR;exact m9 @he @hCo
    |ok ms=>
     simp only[hM]at hR0 hCo;simp only[Mm]at hCo;obtain⟨m1,m2,m3,m4⟩:=hMf i hi ms hM;have hii:=hii ms;have hCh:=hCh (yX ⟨[(m,o)],us,es⟩ ms) hii.1 hii.2 (fun x hx=>by have:=(hmI _ x hx).1;omega)
     have hlc:=B4 (Bs ctx ⟨[(m,o)],us,es⟩ (yX ⟨[(m,o)],us,es⟩ ms)) hr.c2;have hRe:=hRe ms _ m1 hlc m2;generalize iU (Bs ctx ⟨[(m,o)],us,es⟩ (yX ⟨[(m,o)],us,es⟩ ms)) c=z at*;have hB:=hB (i+us.length) m3;generalize yX ⟨[(m,o)],us,es⟩ ms=L at*;unfold Hn at hRe
     by_cases hin:GF oq c sl us (gW oq us ms w z)=true
     ·rw[ah hin]at hR0 hRe;subst hR0;generalize gW oq us ms w z=rs at*;clear hR hMf m2 m4 hmI hM f4;exact z4 @hCo @hB @hCh @hRe
     ·rw[ae hin]at hR0 hRe;have hgo:=hR (k+1,i+us.length) ⟨oO,m3,by rw[show 64-(k+1)=q by omega];exact hR0⟩ (by simp only;omega)
      clear hR hMf m2 m4 hmI hM f4;exact zg4 @hgo @hCo @hB @hCh @hRe
   ·obtain rfl:k=64:=oO;simp only[fC,Dm]at hR0;subst hR0;clear hR hRe hCh hCo hMf hB;exact z0
 ·rw[ah he];have hb:(AZ s w vs a==0)=false:=by simpa using he
  have hb2:(AZ s w vs a !=0)=true:=by simpa using he
  generalize AZ s w vs a=e at*;obtain⟨gs,us,es⟩:=s;simp only[X0,cU.pv]at hn hwt⊢;refine eW call31 func31 ?_;exact B8 (aN @hb @hb2) @hn @hwt
structure Tz (c:CK):Prop where
 e:gE c.m c.o=0
 o0:c.o≠[]
 p:eY (num c.o)=true
 vg:aa c.g=true
 gg:GP c.m c.o (num c.g)
 vy:aa c.y=true
 gy:GP c.m c.o (num c.y)
 hs: ∀x∈c.sh,aa x=true/\GP c.m c.o (num x)
 n1:1<=c.need
 n2:c.need<=c.sh.length
 nq:c.sh.length<num c.o
 cmb:JJ c=true
theorem lO {c:CK} (h:dP c=0):Tz c:=by
 unfold dP at h
 split at h
 ·cases h
 rename_i h1
 split at h
 ·cases h
 split at h
 ·rename_i h3;exact aM h h3
 rename_i h3
 split at h
 ·cases h
 rename_i h4
 split at h
 ·cases h
 rename_i h5
 split at h
 ·cases h
 rename_i h6
 split at h
 case isFalse=>cases h
 rename_i h7;obtain⟨hE,ho,vg,gg,-,vy,gy,-⟩:=Db (by simpa using h3)
 refine⟨hE,ho,by simpa using h4,vg,gg,vy,gy,fun x hx=> ?_,oO,oO,oO,h7⟩
 have h8:c.sh.all (jb c.m c.o)=true:=by simpa using h6
 have:=bH.1 h8 x hx;unfold jb at this;rw[ba]at this;exact(ct hE).1 this.2
theorem JQ {c:CK} (k:Tz c) (lo:c.o.length<=8):sP c.o [2]:=by
 obtain⟨-,vo,-,-,hq⟩:=jf k.e;have:=(hq k.o0).1;exact⟨vo,rfl,lo,by decide,oO,by decide⟩
theorem yJ {c:CK} (k:Tz c) (lm:c.m.length<=8) (lo:c.o.length<=8) {a:Bytes} (hi:jz c.m c.o (c.sh.getD (i-1) [])=true) (ha:jz c.m c.o a=true) (hd:jz c.m c.o d=true):As c.o [2] (ey c i a d):=by
 have hg:jz c.m c.o c.g=true:=(ct k.e).2 ⟨k.vg,k.gg⟩;have ho:=k.o0;have hor:bM [(c.m,c.o)]=c.o:=by simp[bM,ho]
 refine⟨JQ k lo,⟨⟨?_,?_,?_,?_,?_,?_⟩,?_,?_,?_,?_,?_,?_,?_⟩,?_⟩
 ·intro p hp;simp only[ey,cR]at hp;subst hp;exact⟨lm,lo⟩
 ·intro b hb;simp only[ey,cR]at hb;subst hb;decide
 ·intro q hq;simp only[ey,cb,iD,or_false]at hq;rcases hq with rfl|rfl<;>simp[Al]
 ·simp[ey]
 ·simp[ey]
 ·simp[ey]
 ·intro p hp;simp only[ey,cR]at hp;subst hp;exact⟨k.e,lm,lo⟩
 ·intro b hb;simp only[ey,cR]at hb;subst hb;exact⟨rfl,by decide⟩
 ·intro q hq;simp only[ey,cb,iD,or_false]at hq;rcases hq with rfl|rfl
  ·refine⟨mB _,by simp[ey],hi,by simp,fun t ht=> ?_⟩
   simp only[cR]at ht;subst ht;exact⟨by simp[Al],by simp[Al,ey],hg,rfl⟩
  ·refine⟨mB _,by simp[ey],hd,by simp,fun t ht=> ?_⟩
   simp only[cR]at ht;subst ht;exact⟨by simp[Al],by simp[Al,ey],ha,rfl⟩
 ·simp[ey]
 ·simp[ey]
 ·simp[ey]
 ·simp[EP,ey,hor,GS,Jw,ho]
 ·intro b hb _;show num c.o<=num (bM [(c.m,c.o)]);rw[hor];exact aA _
theorem yI (c:CK) (lm:c.m.length<=8) (lo:c.o.length<=8) {a:Bytes} (lg:c.g.length<=128) (li:(c.sh.getD (i-1) []).length<=128) (la:a.length<=128) (ld:d.length<=128):SF (ey c i a d):=by
 refine⟨⟨c.m,c.o,rfl,oO,oO⟩,by simp[ey],by simp[ey],fun b hb=> ?_,by simp[ey],fun q hq=> ?_⟩
 ·simp only[ey,cR]at hb;subst hb;decide
 ·simp only[ey,cb,iD,or_false]at hq;rcases hq with rfl|rfl
  ·refine⟨mB _,by simp,by show(c.sh.getD (i-1) []).length<=1000;omega,by simp,fun t ht=> ?_⟩
   simp only[cR]at ht;subst ht;exact⟨by simp[Al],by simp[Al],by show c.g.length<=1000;omega,by simp[Al]⟩
  ·refine⟨mB _,by simp,by show d.length<=1000;omega,by simp,fun t ht=> ?_⟩
   simp only[cR]at ht;subst ht;exact⟨by simp[Al],by simp[Al],by show a.length<=1000;omega,by simp[Al]⟩
theorem QB (c:CK) {a:Bytes} (hx:x<(2^64)):WS (ey c i a d) [(x:Int)]:=by
 have hL:=nR;intro q hq;simp only[ey,cb,iD,or_false]at hq;rcases hq with rfl|rfl
 all_goals
  intro t ht;simp only[cR]at ht;subst ht;refine⟨by simp[Al],by simp[Al],rfl,?_,?_⟩
  ·show((x:Int)).natAbs<dZ;omega
  ·show(1:Nat)*((x:Int)).natAbs<dZ;omega
abbrev HM (a b:Bytes):PV:= .agg [.s a, .s b]
def V8 (i d:Nat) (vs:List Bytes) (sd:Bytes):Except Int (Bytes×List Int×Nat)->PV
 | .ok (ch,rs,j)=> .tup [.agg [E i,N d, .s ch, .sl (rs.map Zp), .sl [], .sl []],T vs sd (j:Nat),E 0]
 | .error e=> .tup [.agg [E 0, .s [], .s [], .sl [], .sl [], .sl []],T [] [] 0,E e]
theorem Bl (c:CK) (ln:c.name.length<=60) (lm:c.m.length<=8) (lo:c.o.length<=8) (ls:c.sh.length<=8) (hc:dP c=0) (h1:1<=i) (hi:i<=c.sh.length) {x:Bytes} (hl:vs.length<1000000) (hsd:sd.length<1000000)
  (hv:[x,A,B].all aa=true) (hg:fQ vs a=true) (hA:jb c.m c.o A=true) (hB:jb c.m c.o B=true) (hx:num x<num c.o) (hy:num c.g^num x%num c.m=num (c.sh.getD (i-1) [])) {d:Nat} (hd:d=num A^num x%num c.m) {R:Except Int (Bytes×List Int×Nat)} (hp:CZ c.o [2] (mP c i) (ey c i A (aY d)) [(num x:Int)] vs sd a=R) (h0: ∀e,R= .error e->e≠0):
  aE 9 [c.pv,E i, .s x,HM A B,T vs sd a] (V8 i d vs sd R):=by
 have k:=lO hc;have v1:=mF c ln lm lo ls;rw[hc]at v1;have v2:=mE [x,A,B] (by simp)
 rw[hv]at v2;simp only[bC,bR]at v2;have v3:=Et vs sd a hl;rw[hg]at v3;have v4:=Cm c lm lo oO i (xs:=[A,B]) (by simp)
 have e4:qi c (i:Nat) [A,B]=0:=by
  unfold qi;rw[ae oO];simp[hA,hB]
 rw[e4]at v4;simp only[bC,bR]at v4;simp only[List.all_cons,List.all_nil,jK,ba]at hv;obtain⟨vx,vA,vB⟩:=hv;obtain⟨vm,vo,m1,-,-⟩:=jf k.e;have hqW:=eR lo;have hmW:=eR lm;have hW:=jo;have v5:=qD vx;have hAg:jz c.m c.o A=true:=by unfold jb at hA;rw[ba]at hA;exact hA.2
 obtain⟨-,gA⟩:=(ct k.e).1 hAg;have v6:=lh lm lo (ng:=false) k.e k.gg vx rfl;rw[eH k.vg,show de (num c.m) (num c.g) false (num x)=num c.g^num x%num c.m from rfl,hy]at v6
 have hj:=an ([]:Bytes) (show i-1<c.sh.length by omega)
 obtain⟨vj,gj⟩:=k.hs _ hj;rw[eH vj]at v6;have v7:=lh lm lo (ng:=false) k.e gA vx rfl;rw[eH vA,show de (num c.m) (num A) false (num x)=num A^num x%num c.m from rfl,<-hd]at v7
 have hdl:d<num c.m:=by rw[hd];exact aL _ oO
 have vd:aa (aY d)=true:=vN oO;have gd:jz c.m c.o (aY d)=true:=(ct k.e).2 ⟨vd,by rw[aQ,hd];exact gA.pow _⟩
 have v8:=Es c;have v9:=H0 c oO (i:=i) oO;have w1:=H7 c h1 hi oO A (aY d);have hS:=yJ k lm lo (i:=i) (a:=A) (d:=aY d) ((ct k.e).2 ⟨vj,gj⟩) hAg gd;have hB2:=yI c lm lo (i:=i) (a:=A) (d:=aY d) (cW k.vg) (cW vj) (cW vA) (cW vd);have hxl:(mP c i).length<=100000:=by
  have: ∀i,i<100->(Lib.decDigits i).length<=2:=by decide+kernel
  have:=this i oO;simp[mP];omega
 have w2:=LA hS hB2 (by simp[ey]) rfl hxl (w:=[(num x:Int)]) (by simp) (fun z hz=>by simp at hz;subst hz;have:=EZ (o:=x);have:=nR;omega) (fun _=>QB c oO) (vs:=vs) (sd:=sd) (a:=a) hl hsd
 rw[hp]at w2;simp only[bC,bR]at w2;rw[show Zp (num x:Int)= .agg [.b false, .s x] by show cT (nf (num x:Int))= _;rw[CE vx];rfl]at w2
 obtain⟨r,rfl⟩: ∃r,i=r+1:=⟨i-1,oO⟩;rw[iO]at v6 hy vj;have e1:=eN (l:=c.sh) (x:=r) oO;have l1:(c.sh.map PV.s).length=c.sh.length:=aC ..;have hw: ∀ _:True,IntKind.i64.wrap (((r+1:Nat):Int)-1)=(r:Int):=fun _=>by rw[IntWalk.i64_in _ oO];omega
 have c1:=sZ vx vo;have hcg:=SZ (num x) (num c.o);rw[aJ hx]at hcg;have hrl:r<c.sh.length:=oO;generalize bc (num x) (num c.o)=cm at*;generalize c.sh.getD r []=y at*;generalize mP c (r+1)=cx at*;generalize ey c (r+1) A (aY d)=S at*;clear hp hS hB2 k hy hd hc hj;obtain⟨sg,sv,se⟩:=S;obtain⟨name,m,o,g,yy,need,sh⟩:=c;simp only[CK.pv,cU.pv]at*;rcases R with e|⟨ch,rs,j⟩
 all_goals
  first|have h0:=h0 _ rfl|skip
  simp only[XM,V8]at w2⊢;refine eW call9 func9 ?_;repeat' first|simp only[go_sem,seval,l1,e1,hw oT,hcg,iq,lF]|refine cP v1 ?_|refine cP v2 ?_|refine cP v3 ?_|refine cP v4 ?_|refine cP v5 ?_|refine cP v6 ?_|refine cP v7 ?_|refine cP c1 ?_|refine cP v8 ?_|refine cP v9 ?_|refine cP w1 ?_|refine cP w2 ?_|refine oE ?_|apply xX<;>intro hc
  all_goals rfl
theorem Ci (c:CK) (ln:c.name.length<=60) (lm:c.m.length<=8) (lo:c.o.length<=8) (ls:c.sh.length<=8) (k:Tz c) (h1:1<=i) (hi:i<=c.sh.length) (hv:[A,B,d].all aa=true) (hA:jb c.m c.o A=true) (hB:jb c.m c.o B=true) (hd:jb c.m c.o d=true) {rs:List (Bool×Bytes)} {gs:List Bytes} {ls':List (List (Bool×Bytes))} (n1:rs.length<1000000) (n2:gs.length<=1000) (n3:ls'.length<=1000) (n4: ∀l∈ls',l.length<4611686018427387904):
  aE 47 [c.pv,HM A B, .agg [E i, .s d, .s ch, .sl (rs.map cT), .sl (gs.map .s), .sl (ls'.map pY)]] (E (vW c.o [2] (mP c i) (ey c i A d) ch rs gs ls')):=by
 have v2:=mE [A,B,d] (by simp)
 rw[hv]at v2;simp only[bC,bR]at v2;have v4:=Cm c lm lo oO i (xs:=[A,B,d]) (by simp)
 have e4:qi c (i:Nat) [A,B,d]=0:=by
  unfold qi;rw[ae oO];simp[hA,hB,hd]
 rw[e4]at v4;simp only[bC,bR]at v4;simp only[List.all_cons,List.all_nil,jK,ba]at hv;obtain⟨vA,vB,vd⟩:=hv;have hAg:jz c.m c.o A=true:=by unfold jb at hA;rw[ba]at hA;exact hA.2
 have hdg:jz c.m c.o d=true:=by unfold jb at hd;rw[ba]at hd;exact hd.2
 have hj:=an ([]:Bytes) (show i-1<c.sh.length by omega)
 obtain⟨vj,gj⟩:=k.hs _ hj;have v8:=Es c;have v9:=H0 c oO (i:=i) oO;have w1:=H7 c h1 hi oO A d;have hS:=yJ k lm lo (i:=i) (a:=A) (d:=d) ((ct k.e).2 ⟨vj,gj⟩) hAg hdg;have hB2:=yI c lm lo (i:=i) (a:=A) (d:=d) (cW k.vg) (cW vj) (cW vA) (cW vd);have hxl:(mP c i).length<=100000:=by
  have: ∀i,i<100->(Lib.decDigits i).length<=2:=by decide+kernel
  have:=this i oO;simp[mP];omega
 have w2:=MG hS hB2 (by simp[ey]) hxl (ch:=ch) (rs:=rs) (gs:=gs) (ls:=ls') n1 n2 n3 n4
 generalize vW c.o [2] (mP c i) (ey c i A d) ch rs gs ls'=E0 at*;generalize mP c i=cx at*;generalize ey c i A d=S at*;clear hS hB2 k hj;obtain⟨sg,sv,se⟩:=S;obtain⟨name,m,o,g,yy,need,sh⟩:=c;simp only[CK.pv,cU.pv,xz]at*;refine eW call47 func47 ?_;exact z7 @v2 @v4 @v8 @v9 @w1 @w2 oT
theorem BH (m x:Nat) (z:Int):de m x (nf z).1 (num (nf z).2)=jZ m x z:=by
 simp only[nf,CQ,zs];rfl
theorem Kz (m x z:Nat):de m x (!(aY z==[])) (num (aY z))=jZ m x (-(z:Int)):=by
 have e:(!(aY z==([]:Bytes)))=decide (-(z:Int)<0):=by
  rw[ew];simp[iJ];omega
 rw[e,aQ];unfold jZ;congr 1;omega
theorem Dn {s:cU} {w:List Int} {rs:List Int}: ∀{n i:Nat},Dm c sl ctx s w vs sd n i= .ok (ch,rs,j)-> ∃i' ms z,oh (bM s.groups) c sl vs sd s.vars i' []= .ok ms/\z=iU (Bs ctx s (yX s ms)) c/\ch=aY z/\rs=gW (bM s.groups) s.vars ms w z
 |0,i,h=>by cases h
 |n+1,i,h=>by
  rw[Dm]at h
  split at h
  ·cases h
  ·rename_i ms hms
   split at h
   ·simp only[xK,dR]at h;obtain⟨rfl,rfl,-⟩:=h;exact⟨i,ms,_,hms,rfl,rfl,rfl⟩
   ·exact Dn h
theorem Fi {s:cU} {w:List Int} {R:Bytes×List Int×Nat} (h:CZ c sl ctx s w vs sd a= .ok R):Dm c sl ctx s w vs sd 64 a.toNat= .ok R:=by
 unfold CZ at h
 split at h
 ·cases h
 ·exact h
theorem S7 {m o x y z b t:Nat} (hm:0<m) (hu:fD m b) (ho:b^o%m=1%m) (ht:b^x%m=t):jZ m t (-(z:Int))*jZ m b (((y:Int)+z*x)%o)%m=jZ m b y:=by
 have h1:jZ m b (((y:Int)+z*x)%o)=jZ m b ((y:Int)+z*x):=NY hu hm ho (by
  refine⟨-(((y:Int)+z*x)/o),?_⟩;have:=Int.mul_ediv_add_emod ((y:Int)+z*x) o
  grind)
 rw[h1,<-ht,show((z:Int)*(x:Int))=((z*x:Nat):Int)from(Int.natCast_mul _ _).symm]
 exact Fu hu hm _ _ _
theorem Ms {c:CK} (k:Tz c) (lo:c.o.length<=8) (gA:GP c.m c.o (num A)) (h1:num c.g^x%num c.m=num (c.sh.getD (i-1) [])) (h2:num A^x%num c.m=num d) {rs:List Int} (h:CZ c.o [2] ctx (ey c i A d) [(x:Int)] vs sd a= .ok (ch,rs,j)):vW c.o [2] ctx (ey c i A d) ch (rs.map nf) [] []=0:=by
 obtain⟨i',ms,z,hms,hz,rfl,rfl⟩:=Dn (Fi h);have hor:bM (ey c i A d).groups=c.o:=by simp[ey,bM,k.o0]
 have hvr:(ey c i A d).vars=[[]]:=rfl;rw[hor,hvr]at hms;rw[hor,hvr];simp only[oh,oH,ax,List.nil_append]at hms;obtain⟨vm,vo,m1,-,hq⟩:=jf k.e;have q1:=(hq k.o0).1
 split at hms
 ·cases hms
 rename_i yz hyz
 split at hyz
 ·cases hyz
 rename_i yb hyb;injection hyz with hyz
 injection hms with hms
 subst hyz;subst hms;obtain⟨y,hy⟩: ∃y,y=num yb:=⟨_,rfl⟩;rw[<-hy]at hz⊢;have hzc:z<num c.o:=by rw[hz];exact B4 _ oO
 have hr0:gW c.o [[]] [(y:Int)] [(x:Int)] z=[((y:Int)+z*x)%num c.o]:=by simp[gW,iM]
 rw[hr0];have hr1:0<=((y:Int)+z*x)%num c.o:=gU _ oO;have hr2:((y:Int)+z*x)%num c.o<num c.o:=ig _ oO;have go: ∀b,GP c.m c.o b->b^num c.o%num c.m=1%num c.m:=fun b hb=>hb.ord.resolve_left k.o0
 have hfm:o9 (ey c i A d) (aY z) ([((y:Int)+z*x)%num c.o].map nf)=yX (ey c i A d) [(y:Int)]:=by
  have e1:=S7 (o:=num c.o) (x:=x) (y:=y) (z:=z) oO k.gg.unit (go _ k.gg) h1;have e2:=S7 (o:=num c.o) (x:=x) (y:=y) (z:=z) oO gA.unit (go _ gA) h2;have p1: ∀b,GP c.m c.o b->de (num c.m) b false (num [1])=b:=fun b hb=>by
   show b^(num [1])%num c.m=b;rw[show num ([1]:Bytes)=1 from rfl,Nat.pow_one,b9 hb.lt]
  have t1: ∀b:Bytes,tz [(y:Int)] (Al b 0)=y:=fun b=>by simp[tz,Al,Jj,num]
  simp only[o9,yX,ey,bC,bR,gG,UQ,List.foldl_cons,List.foldl_nil,r9,Al,show((0:Int)).toNat=0 from rfl,Int.toNat_natCast,fY,Kz,p1 _ k.gg,p1 _ gA,BH,e1,e2]
  simp only[show∀b,tz [(y:Int)] ⟨b,((0:Nat):Int),false,[1]⟩=y from fun b=>t1 b,IN,BH]
 obtain⟨r,hr⟩: ∃r:Nat,((y:Int)+z*x)%num c.o=r:=⟨_,(lD hr1).symm⟩;rw[hr]at hfm hr2⊢;have hqW:=eR lo;have iz:nf (r:Int)=(false,aY r):=by
  have:=CE (x:=aY r) (vN oO)
  rwa[aQ]at this
 have a1:aa (aY z)=true:=vN oO;have a2:aa (aY r)=true:=vN oO;simp only[bC,bR,iz]at hfm⊢;have f1:fP c.o (ey c i A d).vars.length (aY z) [(false,aY r)] [] []=0:=by
  unfold fP;rw[a1,ae (by simp[cz,a2]),ae (by simp[ey]),ae (by rw[aQ];omega)]
 have f2:eA (bM (ey c i A d).groups) c.o [2] (ey c i A d).vars (aY z) [(false,aY r)]=0:=by
  rw[hor,hvr];have f3:E6 c.o c.o [2] [[]] [(false,aY r)]=true:=vC fun q hq=>by
   have:q=0:=by simp at hq;omega
   subst this;simp[sQ,lR,aQ];omega
  unfold eA;rw[a1,f3,ae (by simp[cz,a2]),ae (by rw[aQ];omega),ae (by simp),ae (by simp)]
 unfold vW;rw[ae (by rw[f1];simp),ae (by rw[f2];simp),hfm,<-hz,ah rfl]
