/- Part of the proof. -/
import Derived.Test.YtkmahpcpmgedkaaGreatDoorFB40
set_option linter.all false
set_option maxHeartbeats 16000000
set_option maxRecDepth 100000
namespace Go.Proofs.Tryz
open Go Go.Dom Go.Num
variable {c ctx sd sl:Bytes} {vs:List Bytes}
noncomputable def sG (c sl ctx:Bytes) (s:cG) (w:List Int) (vs:List Bytes) (sd:Bytes):Nat->Nat->Except Int (Bytes×List Int×Nat)
 |0,_=> .error 15
 |k+1,i=>match iH (bA s.groups) c sl vs sd s.vars i []with
  | .error e=> .error e
  | .ok ms=>
   if zx (bA s.groups) c sl s.vars (dT (bA s.groups) s.vars ms w (iQ (Bj ctx s (pQ s ms)) c))then .ok (aX (iQ (Bj ctx s (pQ s ms)) c),dT (bA s.groups) s.vars ms w (iQ (Bj ctx s (pQ s ms)) c),i+s.vars.length)else sG c sl ctx s w vs sd k (i+s.vars.length)
noncomputable def qn (c sl ctx:Bytes) (s:cG) (w:List Int) (vs:List Bytes) (sd:Bytes) (a:Int):Except Int (Bytes×List Int×Nat):=
 if AL s w vs a≠0 then .error (AL s w vs a)else sG c sl ctx s w vs sd 64 a.toNat
theorem SS {s:cG} {w:List Int} {a:Int} (h:AL s w vs a=0):e9 vs a=true/\w.length=s.vars.length/\tw (bA s.groups) s.vars w=true/\CZ s w=true:=by
 unfold AL at h
 split at h
 ·cases h
 ·rename_i h1
  split at h
  ·cases h
  ·rename_i h2
   split at h
   ·cases h
   ·rename_i h3
    split at h
    ·cases h
    ·rename_i h4;exact⟨by simpa using h1,by simpa using h2,by simpa using h3,by simpa using h4⟩
theorem Nk {s:cG} (hs:xf s) (w:List Int): ∀x∈pQ s w,x.length<=8/\aa x=true:=by
 intro x hx;obtain⟨q,hq,rfl⟩:=bG.1 hx;obtain⟨q1,q2,-⟩:=hs.q q hq;have hg:=hs.g _ (aq fC (show q.mT.toNat<s.groups.length by omega))
 have hm:=(jm hg.1).2.2.1;have hlt:PE s.groups w q<256^8:=by
  unfold PE B5;exact jy (aL _ oO) (eP hg.2.1)
 exact⟨oV.2 hlt,vN hlt⟩
theorem LO {s:cG} (hp:BD c sl s) (hbd:SZ s) (h00:s.eqs≠[]) {m o:Bytes} (hg1:s.groups=[(m,o)]) (hx:ctx.length<=100000) {w:List Int} (hw6:w.length<1000000) (hw: ∀x∈w,x.natAbs<cW) (hW:tw (bA s.groups) s.vars w=true->WS s w) {a:Int} (hl:vs.length<1000000) (hsd:sd.length<1000000):
  aD 31 [.agg [.s c, .s sl], .s ctx,s.pv, .sl (w.map Zp),C0, .sl [],T vs sd a] (RS vs sd (qn c sl ctx s w vs sd a)):=by
 have hr:=hp.r;have hs:=hp.g;have hn:=wS hp;have hwt:=Pg (c:=c) (sl:=sl) hs hg1 hw6 hw hW sd (a:=a) hl;unfold qn
 by_cases he:AL s w vs a=0
 ·rw[ae (by simpa using he)]
  rw[he]at hwt;obtain⟨f2,f3,f4,-⟩:=SS he;obtain⟨g1,g2,g3⟩:=tq f2;obtain⟨i0,rfl⟩: ∃i:Nat,a=i:=⟨a.toNat,oO⟩;rw[Int.toNat_natCast];have hCo:=fun(i:Nat) (hi:i<=2147483647)=>Jz hp (vs:=vs) (sd:=sd) (i:=i) g1 hi hl hsd
  have hRe:=fun(ms:List Int) (ch:Nat) (hml:ms.length=s.vars.length) (hch:ch<num c)=>Gp hp f3 hml hch f4
  have hMf:=fun(i:Nat) (hi:i<=2147483647) (ms:List Int)=>o9 hp (sd:=sd) (i:=i) g1 hi hl (ms:=ms)
  have hCh:=fun(fs:List Bytes)=>yZ hr hbd hx (fs:=fs)
  have hB:=fun(i:Nat) (hi:i<=2147483647)=>PQ (vs:=vs) (a:=i) sd (oz g1 hi) hl
  have hmI:=Nk hs;have hii: ∀ms:List Int,pQ s ms≠[]/\(pQ s ms).length<=900:=fun ms=>by
   have:=qK s ms;have ne:=hs.ne;exact⟨fun h=>h00 (gS.1 (by rw[<-this,h];rfl)),oO⟩
  obtain⟨R0,hR0⟩: ∃R0,R0=sG c sl ctx s w vs sd 64 i0:=⟨_,rfl⟩;rw[<-hR0];obtain⟨gs,us,es⟩:=s;simp only[X0,cG.pv]at hn hwt hCo hRe hCh hMf hg1⊢;subst hg1;obtain⟨oq,hoq⟩: ∃oq,oq=bA [(m,o)]:=⟨_,rfl⟩;simp only[br,bK,eu,<-hoq]at hn hwt hCo hRe hCh hMf f4⊢;refine eW call31 func31 ?_;refine zl2 @hn @hwt ?_;refine af (α:=Nat×Nat) (fun p=>64-p.1) (fun p=>⟨[(1, .v (.s ctx)),(3, .v (.sl (w.map Zp))),(5, .v (.sl [])),(7, .p 1000 0 0),(9, .p 1001 0 0),(11, .p 1002 0 0),(13, .p 1003 0 0),(14, .p 1004 0 0),(15, .p 1005 0 0),(17, .p 1014 0 0),(50,E' p.1)],[(1000,⟨0,[.v (.s c), .v (.s sl)],false,none⟩),(1001,⟨0,[.v (.sl [G m o]), .v (.sl (us.map cl)), .v (.sl (es.map da.pv))],false,none⟩),(1002,⟨0,[.v (.sl []), .v (.sl [])],false,none⟩),(1003,⟨0,[.v (.sl (vs.map .s)), .v (.s sd), .v (.i .i64 ((p.2:Nat):Int))],false,none⟩),(1004,⟨0,[.v (.s []), .sn, .sn, .sn],false,some 45⟩),(1005,⟨0,[.sn, .v (.s []), .v (.i .i64 0)],false,some 37⟩),(1014,⟨0,[.v (.s c), .v (.s sl), .v (.sl [G m o]), .v (.sl (us.map cl)), .v (.sl (es.map da.pv)), .v (.sl []), .v (.sl []), .v (.s [])],false,some 129⟩)],1028⟩) (fun p=>p.1<=64/\p.2<=2147483647/\R0=sG c sl ctx ⟨[(m,o)],us,es⟩ w vs sd (64-p.1) p.2) (0,i0) (fun _=>bZ rfl) ⟨aJ _,oO,hR0⟩ ?_ ?_
  ·exact lE
  ·clear hn hwt hR0 he f2;rintro⟨k,i⟩ ⟨hk,hi,hR0⟩ R hR;simp only at hk hi hR0
   by_cases hlt:k<64
   ·obtain⟨q,hq⟩: ∃q,64-k=q+1:=⟨63-k,oO⟩;rw[hq,sG]at hR0;simp only[<-hoq]at hR0;have hCo:=hCo i hi
    cases hM:iH oq c sl vs sd us i []with
    |error e=>
     simp only[hM]at hR0 hCo;subst hR0;have he:(e !=0)=true:=by rcases tF hM with rfl|rfl<;>rfl
     simp only[CI]at hCo;clear hR;exact mi @he @hCo
    |ok ms=>
     simp only[hM]at hR0 hCo;simp only[CI]at hCo;obtain⟨m1,m2,m3,m4⟩:=hMf i hi ms hM;have hii:=hii ms;have hCh:=hCh (pQ ⟨[(m,o)],us,es⟩ ms) hii.1 hii.2 (fun x hx=>by have:=(hmI _ x hx).1;omega)
     have hlc:=wF (Bj ctx ⟨[(m,o)],us,es⟩ (pQ ⟨[(m,o)],us,es⟩ ms)) hr.c2;have hRe:=hRe ms _ m1 hlc m2;generalize iQ (Bj ctx ⟨[(m,o)],us,es⟩ (pQ ⟨[(m,o)],us,es⟩ ms)) c=z at*;have hB:=hB (i+us.length) m3;generalize pQ ⟨[(m,o)],us,es⟩ ms=L at*;unfold xr at hRe
     by_cases hin:zx oq c sl us (dT oq us ms w z)=true
     ·rw[ah hin]at hR0 hRe;subst hR0;generalize dT oq us ms w z=rs at*;clear hR hMf m2 m4 hmI hM f4;exact z4 @hCo @hB @hCh @hRe
     ·rw[ae hin]at hR0 hRe;have hgo:=hR (k+1,i+us.length) ⟨oO,m3,by rw[show 64-(k+1)=q by omega];exact hR0⟩ (by simp only;omega)
      clear hR hMf m2 m4 hmI hM f4;exact zg4 @hgo @hCo @hB @hCh @hRe
   ·obtain rfl:k=64:=oO;simp only[fA,sG]at hR0;subst hR0;clear hR hRe hCh hCo hMf hB;exact z0
 ·rw[ah he];have hb:(AL s w vs a==0)=false:=by simpa using he
  have hb2:(AL s w vs a !=0)=true:=by simpa using he
  generalize AL s w vs a=e at*;obtain⟨gs,us,es⟩:=s;simp only[X0,cG.pv]at hn hwt⊢;refine eW call31 func31 ?_;exact AN (aN @hb @hb2) @hn @hwt
theorem I5 {i:Nat} {n:Bytes} (hv:vs.all aa=true) (hn:aa n=true) (h0:n≠[]) (hi:i<=2147483647) (hl:vs.length<1000000) (hsd:sd.length<1000000):aD 184 [T vs sd i, .s n] (jS vs sd i (gb vs sd i n)):=by
 have h1:=qt vs sd i hl;rw[oz hv hi]at h1;have h3:=aK n;rw[hn]at h3;have hb:(n==([]:Bytes))=false:=by simpa using h0
 have h2:=FC (sd:=sd) hv hn (vP hn h0) hi hl hsd;generalize gb vs sd i n=r at*
 cases r with
 |ok x=>
  unfold jS at*;refine eW call184 func184 ?_;exact yG @hb @h1 @h3 @h2 oT
 |error e=>
  unfold jS at*;refine eW call184 func184 ?_;exact yG @hb @h1 @h3 @h2 oT
theorem Hh {s:cG} (hp:BD c sl s) (hnt: ∀q∈s.eqs,q.terms≠[]) {i:Nat} (hv:vs.all aa=true) (hi:i<=2147483647) (hl:vs.length<1000000) (hsd:sd.length<1000000):
  aD 90 [.agg [.s c, .s sl],s.pv,T vs sd i] (CI s vs sd (i+s.vars.length) (iH (bA s.groups) c sl vs sd s.vars i [])):=by
 have hbo:=sk hp;have hr:=hp.r;have hb:=hp.g.v;have nv:=hp.g.nv;have ho:=tx hp.g;have hIm: ∀ms,iH (bA s.groups) c sl vs sd s.vars i []= .ok ms->aD 186 [s.pv, .sl (ms.map Zp)] (.tup [.sl ((pQ s ms).map .s),E 0]):=fun ms hR=>by
  obtain⟨f1,f2,f3,f4⟩:=o9 hp hv hi hl hR;exact Ot hp.g hnt f1 f4 (S3 hp.g f1 fun x hx=>by
   obtain⟨j,hj,rfl⟩:=ik hx;have:=(o7 (f2 j oO)).1;rw[bu,bC hj]at this;exact jy (jy this (C5 hp.r (dc hp.g.g).2 (hp.g.v _ (aq [] oO)).2)) (yD oC oC))
 have vo:=(dc hp.g.g).1;obtain⟨F,hF⟩: ∃F:List Int->List Bytes,F=fun ms=>pQ s ms:=⟨_,rfl⟩
 have hcP: ∀j R,CI s vs sd j R=match R with| .ok ms=> .tup [.sl (ms.map Zp), .sl ((F ms).map .s),T vs sd j,E 0]| .error e=> .tup [.sl [], .sl [],T [] [] 0,E e]:=fun j R=>by rw[hF];cases R<;>rfl
 have hIm: ∀ms,iH (bA s.groups) c sl vs sd s.vars i []= .ok ms->aD 186 [s.pv, .sl (ms.map Zp)] (.tup [.sl ((F ms).map .s),E 0]):=fun ms h=>by rw[hF];exact hIm ms h
 rw[hcP];clear hcP hF hp;obtain⟨gs,us,es⟩:=s;simp only at hb nv hIm ho vo hbo⊢;generalize bA gs=o at*;have l2:(us.map cl).length=us.length:=aB ..;have l3:(us.map fun b=>N (lM o c sl b)).length=us.length:=aB ..
 obtain⟨R0,hR0⟩: ∃R0,R0=iH o c sl vs sd (us.drop 0) i []:=⟨_,rfl⟩;rw[show iH o c sl vs sd us i []=iH o c sl vs sd (us.drop 0) i []from rfl,<-hR0]
 rw[show iH o c sl vs sd us i []=iH o c sl vs sd (us.drop 0) i []from rfl,<-hR0]at hIm
 simp only[cG.pv]at hbo hIm⊢
 by_cases hpos:0<us.length
 rotate_left
 ·obtain rfl:us=[]:=gS.1 oO;rw[List.drop_nil,iH]at hR0;subst hR0;have hIm:=hIm [] rfl;simp only[bK]at hIm hbo⊢;refine eW call90 func90 ?_;exact Pz @hbo @hIm
 refine eW call90 func90 ?_;refine nc @l2 @hbo ?_;refine ai ?_;have e1:=getD_map cl us [] hpos;have e2:=getD_map (fun b=>N (lM o c sl b)) us [] hpos
 have kb:=hb _ (aq [] hpos);have hdo:=fun hi z (h:iF o c sl vs sd (us.getD 0 []) i= .ok z)=>(td (i:=i) hr vo kb hv hl hi h).2
 have hcs:(us.getD 0 []=[]/\ ∀ _:i<=2147483647,aD 184 [T vs sd (i:Nat),N (lM o c sl (us.getD 0 []))] (match iF o c sl vs sd (us.getD 0 []) i with
   | .ok z=> .tup [.s (zb z),T vs sd ((i+1:Nat):Int),E 0]
   | .error e=> .tup [.s [],T [] [] 0,E e])/\ ∀z,iF o c sl vs sd (us.getD 0 []) i= .ok z->zs z=false)\/(us.getD 0 []≠[]/\ ∀ _:i<=2147483647,aD 185 [T vs sd (i:Nat),N (lM o c sl (us.getD 0 []))] (kF vs sd i (iF o c sl vs sd (us.getD 0 []) i))):=by
  by_cases h:us.getD 0 []=[]
  ·refine .inl ⟨h,fun hi=> ?_⟩
   have hbl:=I5 (sd:=sd) (n:=o) hv vo (ho (by rw[<-h];exact aq [] hpos)) hi hl hsd
   rw[lM,ah h,eE vo];unfold iF;rw[ah h]
   cases hd:gb vs sd (i) o with
   |error e=>
    rw[hd]at hbl;exact⟨hbl,fun z hz=>by cases hz⟩
   |ok x=>
    have hx:=(gG hv vo hl hi hd).1;rw[hd]at hbl;refine⟨?_,fun z hz=>by dsimp only at hz;injection hz with hz;subst hz;simp[zs]⟩
    dsimp only;rw[show zb (num x:Int)=x from by rw[zb,Int.natAbs_natCast];exact gN hx]
    exact hbl
  ·have hm:=tE hr kb.1 h kb.2;refine .inr ⟨h,fun hi=> ?_⟩
   rw[lM,ae h,iF,ae h];exact As (vs:=vs) (sd:=sd) (i:=i) hv hi hl hsd hm.1 hm.2
 rw[aT [] hpos,iH]at hR0;clear kb;generalize us.getD 0 []=u at*;simp only[cl]at e1;generalize lM o c sl u=M at*;rcases hcs with⟨hu,hg⟩|⟨hu,hg⟩
 all_goals
  have hg:=hg hi;have hbb:(u==([]:Bytes))=decide (u=[]):=by rw[dK,eT,cq]
  first|rw[aI hu]at hbb|rw[aH hu]at hbb
  cases hsg:iF o c sl vs sd u i with
  |error e=>
   rw[hsg]at hg hR0;simp only[kF]at hg hR0;have he:(e !=0)=true:=by rcases qf hsg with rfl|rfl<;>rfl
   subst hR0;clear hIm
   first
    |have hg:=hg.1
    |skip
   exact mi (aN @l2 (aN @l3 (aN @e1 (aN @e2 (aN @he @hbb))))) @hg
  |ok z=>
   have hsi:i+(0+1)<=2147483647:=hdo hi z hsg;rw[hsg]at hg hR0;simp only[kF]at hg hR0
   first
    |(have hzz:=hg.2 z rfl
      have hg:=hg.1)
    |have hzz:zs z=zs z:=rfl
   refine kz (aN @l2 (aN @l3 (aN @e1 (aN @e2 @hbb)))) @hg ?_;obtain⟨nm,hnm⟩: ∃nm,nm=(if u=[]then 1056 else 1055):=⟨_,rfl⟩
   first|rw[ah hu]at hnm|rw[ae hu]at hnm
   clear e1 e2 hg hdo hu hbb;refine af (α:=(Nat×List Int)⊕List Int) (fun p=>match p with| .inl p=>us.length-p.1| .inr _=>0) (fun p=>match p with| .inl p=>⟨[(4, .p 1001 0 0),(5, .p 1002 0 0),(8, .p 1005 0 0),(10, .v (.sl (us.map fun b=>N (lM o c sl b)))),(13, .rs nm p.1 0 (p.1+1) 2),(14,E' (p.1+1))],[(1001,⟨0,[.v (.sl (gs.map eu)), .v (.sl (us.map cl)), .v (.sl (es.map da.pv))],false,none⟩),(1002,⟨0,[.v (.sl (vs.map .s)), .v (.s sd), .v (.i .i64 ((i+(p.1+1):Nat):Int))],false,none⟩),(1005,⟨0,[.sn, .v (.s []), .v (.i .i64 0)],false,some 37⟩),(nm,⟨p.1,bj Zp p.2,true,some 77⟩)],nm+5⟩| .inr ms=>⟨(13, .v (.sl (ms.map Zp)))::[(4, .p 1001 0 0),(5, .p 1002 0 0),(8, .p 1005 0 0),(10, .v (.sl (us.map fun b=>N (lM o c sl b)))),(14,E' us.length)],[(1001,⟨0,[.v (.sl (gs.map eu)), .v (.sl (us.map cl)), .v (.sl (es.map da.pv))],false,none⟩),(1002,⟨0,[.v (.sl (vs.map .s)), .v (.s sd), .v (.i .i64 ((i+us.length:Nat):Int))],false,none⟩),(1005,⟨0,[.sn, .v (.s []), .v (.i .i64 0)],false,some 37⟩)],nm+5⟩) (fun p=>match p with| .inl p=>p.1+1<us.length/\p.2.length=p.1+1/\i+(p.1+1)<=2147483647/\R0=iH o c sl vs sd (us.drop (p.1+1)) (i+(p.1+1)) p.2| .inr ms=>R0= .ok ms) (if 1<us.length then .inl (0,[z])else .inr [z]) (fun p=>by cases p<;>(show _<=nm+5;rw[hnm];exact bZ rfl)) ?_ ?_ ?_<;>subst hnm
   ·by_cases h:1<us.length
    ·rw[ah h];exact⟨h,rfl,hsi,hR0⟩
    ·rw[ae h];rw[gU oO]at hR0;exact hR0
   ·by_cases h:1<us.length
    ·rw[ah h];refine lG ?_;all_goals exact⟨by first|rfl|(rw[<-hzz];rfl),fun c hc=>cR hc⟩
    ·rw[ae h];have h1:us.length=1:=oO
     first
      |rw[<-hzz]
      |skip
     refine leZ ru (ver:=0) (len:=1) (gr:=true) (el:=some 77) (l:=[z]) rfl (by simp[az,bj,Zp,dI,gW,PV.cells]) rfl ?_ ?_
     ·simp[dy,aO,AV.bd,h1]
     ·simp[dx,az,AV.bd,h1]
   ·clear hzz hR0 hsi;rintro(⟨j,ms⟩|ms) hok R hR
    ·obtain⟨hj,hlm,hij,hR0⟩:=hok;simp only at hj hlm hij hR0;have q1:=cz ru ms;have q2:=cM ru ms;rw[hlm]at q1 q2;have e1:=getD_map cl us [] hj;have e2:=getD_map (fun b=>N (lM o c sl b)) us [] hj
     have kb:=hb _ (aq [] hj);have hdo:=fun hi z (h:iF o c sl vs sd (us.getD (j+1) []) (i+(j+1))= .ok z)=>(td (i:=(i+(j+1))) hr vo kb hv hl hi h).2
     have hcs:(us.getD (j+1) []=[]/\ ∀ _:(i+(j+1))<=2147483647,aD 184 [T vs sd ((i+(j+1)):Nat),N (lM o c sl (us.getD (j+1) []))] (match iF o c sl vs sd (us.getD (j+1) []) (i+(j+1))with
       | .ok z=> .tup [.s (zb z),T vs sd (((i+(j+1))+1:Nat):Int),E 0]
       | .error e=> .tup [.s [],T [] [] 0,E e])/\ ∀z,iF o c sl vs sd (us.getD (j+1) []) (i+(j+1))= .ok z->zs z=false)\/(us.getD (j+1) []≠[]/\ ∀ _:(i+(j+1))<=2147483647,aD 185 [T vs sd ((i+(j+1)):Nat),N (lM o c sl (us.getD (j+1) []))] (kF vs sd (i+(j+1)) (iF o c sl vs sd (us.getD (j+1) []) (i+(j+1))))):=by
      by_cases h:us.getD (j+1) []=[]
      ·refine .inl ⟨h,fun hi=> ?_⟩
       have hbl:=I5 (sd:=sd) (n:=o) hv vo (ho (by rw[<-h];exact aq [] hj)) hi hl hsd
       rw[lM,ah h,eE vo];unfold iF;rw[ah h]
       cases hd:gb vs sd ((i+(j+1))) o with
       |error e=>
        rw[hd]at hbl;exact⟨hbl,fun z hz=>by cases hz⟩
       |ok x=>
        have hx:=(gG hv vo hl hi hd).1;rw[hd]at hbl;refine⟨?_,fun z hz=>by dsimp only at hz;injection hz with hz;subst hz;simp[zs]⟩
        dsimp only;rw[show zb (num x:Int)=x from by rw[zb,Int.natAbs_natCast];exact gN hx]
        exact hbl
      ·have hm:=tE hr kb.1 h kb.2;refine .inr ⟨h,fun hi=> ?_⟩
       rw[lM,ae h,iF,ae h];exact As (vs:=vs) (sd:=sd) (i:=(i+(j+1))) hv hi hl hsd hm.1 hm.2
     rw[aT [] hj,iH]at hR0;clear kb;generalize us.getD (j+1) []=u at*;simp only[cl]at e1;generalize lM o c sl u=M at*;rcases hcs with⟨hu,hg⟩|⟨hu,hg⟩
     all_goals
      have hg:=hg hij;have hbb:(u==([]:Bytes))=decide (u=[]):=by rw[dK,eT,cq]
      first|rw[aI hu]at hbb|rw[aH hu]at hbb
      cases hsg:iF o c sl vs sd u (i+(j+1))with
      |error e=>
       rw[hsg]at hg hR0;simp only[kF]at hg hR0;have he:(e !=0)=true:=by rcases qf hsg with rfl|rfl<;>rfl
       subst hR0;clear hR hIm
       first
        |have hg:=hg.1
        |skip
       exact mi (aN @l2 (aN @l3 (aN @e1 (aN @e2 (aN @he (aN @q1 (aN @q2 @hbb))))))) @hg
      |ok y=>
       have hsi:i+(j+1+1)<=2147483647:=hdo hij y hsg;rw[hsg]at hg hR0;simp only[kF]at hg hR0
       first
        |(have hzz:=hg.2 y rfl
          have hg:=hg.1)
        |have hzz:zs y=zs y:=rfl
       by_cases hlt:j+1+1<us.length
       ·have hgo:=hR (.inl (j+1,ms++[y])) ⟨hlt,by simp[hlm],hsi,hR0⟩ (by simp only;omega)
        simp only[uW]at hgo;rw[hzz]at hgo;clear hR;refine kz (aN @l2 (aN @l3 (aN @e1 (aN @e2 (aN @q1 (aN @q2 @hbb)))))) @hg ?_;refine hgo _ ?_;refine lG ?_;all_goals exact⟨oO,fun c hc=>by rcases hc with hc|rfl|rfl<;>first|exact cR hc|rfl⟩
       ·rw[gU oO]at hR0;have hgo:=hR (.inr (ms++[y])) hR0 (by simp only;omega)
        clear hR;refine kz (aN @l2 (aN @l3 (aN @e1 (aN @e2 (aN @q1 (aN @q2 @hbb)))))) @hg ?_;refine hgo _ ?_;have h1:us.length=j+1+1:=oO;refine leZ ru (ver:=j+1) (len:=j+1+1) (gr:=true) (el:=some 77) (l:=ms++[y]) rfl (by simp[az,uW,hzz]) (by simp[hlm]) ?_ ?_
        ·simp[dy,aO,AV.bd,h1]
        ·simp[dx,az,AV.bd,h1]
         try omega
    ·have hR0:R0= .ok ms:=hok;subst hR0;have hIm:=hIm ms rfl;clear hR;exact mi @l2 @hIm
theorem KR {s:cG} (hp:BD c sl s) (hbd:SZ s) (h00:s.eqs≠[]) (hnt: ∀q∈s.eqs,q.terms≠[]) {m o:Bytes} (hg1:s.groups=[(m,o)]) (hx:ctx.length<=100000) {w:List Int} (hw6:w.length<1000000) (hw: ∀x∈w,x.natAbs<cW) (hW:tw (bA s.groups) s.vars w=true->WS s w) {a:Int} (hl:vs.length<1000000) (hsd:sd.length<1000000):
  aD 41 [.agg [.s c, .s sl], .s ctx,s.pv, .sl (w.map Zp),C0, .sl [],T vs sd a] (RS vs sd (qn c sl ctx s w vs sd a)):=by
 have hr:=hp.r;have hs:=hp.g;have hn:=Ch hp;have hv1:=Hm (w.map gW) (by rw[aB];omega)
 rw[P7,mz hw]at hv1;have hgd:=qt vs sd a hl;have hh:=fun h=>Sd hs hnt (w:=w) h hw hW
 have nv:=hs.nv;have hv:=hs.v;have l5:(w.map Zp).length=w.length:=aB ..;have hCo:=fun(g1:vs.all aa=true) (i:Nat) (hi:i<=2147483647)=>Hh hp hnt (vs:=vs) (sd:=sd) (i:=i) g1 hi hl hsd
 have hRe:=fun(f3:w.length=s.vars.length) (f4:tw (bA s.groups) s.vars w=true) (ms:List Int) (ch:Nat) (hml:ms.length=s.vars.length) (hch:ch<num c)=>KS hp f3 hml hch f4
 have hMf:=fun(g1:vs.all aa=true) (i:Nat) (hi:i<=2147483647) (ms:List Int)=>o9 hp (sd:=sd) (i:=i) g1 hi hl (ms:=ms)
 have hCh:=fun(fs:List Bytes)=>Bq hp hbd hx (fs:=fs)
 have hB:=fun(g1:vs.all aa=true) (i:Nat) (hi:i<=2147483647)=>Fv (vs:=vs) (a:=i) sd (oz g1 hi) hl
 have hmI:=Nk hs;have hor:=qv s (by have:=hs.ng;omega)
 have hoV:=dc hs.g;have hii: ∀ms:List Int,pQ s ms≠[]/\(pQ s ms).length=s.eqs.length:=fun ms=>by
  have:=qK s ms;exact⟨fun h=>h00 (gS.1 (by rw[<-this,h];rfl)),this⟩
 unfold qn AL;obtain⟨gs,us,es⟩:=s;simp only at hg1;subst hg1;simp only at nv hv hh hRe hii;simp only[cG.pv,br,bK,eu]at hn hh hCo hRe hCh hor⊢;have l2:(us.map cl).length=us.length:=aB ..;obtain⟨oq,hoq⟩: ∃oq,oq=bA [(m,o)]:=⟨_,rfl⟩;simp only[<-hoq]at hh hCo hRe hMf hor hoV⊢
 cases hg:e9 vs a with
 |false=>
  rw[hg]at hgd;clear hCo hRe hMf hCh hB hii hh;simp only[ca,au,ne_eq,show¬(3:Int)=0 by decide,lH]
  refine eW call41 func41 ?_;exact Y7 @hn @hv1 @hgd
 |true=>
  rw[hg]at hgd;obtain⟨g1,g2,g3⟩:=tq hg;obtain⟨i0,rfl⟩: ∃i:Nat,a=i:=⟨a.toNat,oO⟩;simp only[bQ,bm,an,Int.toNat_natCast];have hCo:=hCo g1;have hMf:=hMf g1;have hB:=hB g1
  by_cases hwl:w.length=us.length
  ·rw[ae (show¬w.length≠us.length by simpa using hwl)]
   have hh:=hh hwl;have hI: ∀ _:True,((w.length:Int) !=us.length)=false:=fun _=>by rw[hwl];simp
   refine eW call41 func41 ?_;refine uV (aN @l2 (aN @l5 (hI oT))) @hn @hv1 @hgd oT ?_;refine ai ?_;refine cU (aN @l2 (aN @l5 (hI oT))) ?_;refine af (α:=Nat) (fun i=>us.length-i) (fun i=>⟨[(1, .v (.s ctx)),(3, .v (.sl (w.map Zp))),(5, .v (.sl [])),(7, .p 1000 0 0),(9, .p 1001 0 0),(11, .p 1002 0 0),(13, .p 1003 0 0),(14, .p 1004 0 0),(15, .p 1005 0 0),(17, .p 1009 0 0),(18, .p 1010 0 0),(22,E' i)],[(1000,⟨0,[.v (.s c), .v (.s sl)],false,none⟩),(1001,⟨0,[.v (.sl [G m o]), .v (.sl (us.map cl)), .v (.sl (es.map da.pv))],false,none⟩),(1002,⟨0,[.v (.sl []), .v (.sl [])],false,none⟩),(1003,⟨0,[.v (.sl (vs.map .s)), .v (.s sd), .v (.i .i64 ((i0:Nat):Int))],false,none⟩),(1004,⟨0,[.v (.s []), .sn, .sn, .sn],false,some 45⟩),(1005,⟨0,[.sn, .v (.s []), .v (.i .i64 0)],false,some 37⟩),(1009,⟨0,[.v (.s []), .sn, .sn, .sn],false,some 45⟩),(1010,⟨0,[.sn, .v (.s []), .v (.i .i64 0)],false,some 37⟩)],_⟩) (fun i=>i<=us.length/\ ∀j,j<i->fU (us.getD j []) (w.getD j 0) (dS oq (us.getD j []))=true) 0 (fun _=>ay _) ⟨aJ _,fun j hj=>oO⟩ ?_ ?_
   ·exact lE
   ·rintro i ⟨hi,hlts⟩ R hR
    by_cases hlt:i<us.length
    ·have e1:=getD_map cl us [] hlt;have e2:=getD_map Zp w 0 (i:=i) oO;obtain⟨b1,b2⟩:=hv _ (aq [] hlt);have kw:=hw _ (aq 0 (show i<w.length by omega))
     have hgo:=fun h=>hR (i+1) ⟨oO,h⟩ oO
     have hbad:=fun h: ¬fU (us.getD i []) (w.getD i 0) (dS oq (us.getD i []))=true=>kY (p:=fun i=>fU (us.getD i []) (w.getD i 0) (dS oq (us.getD i []))) hlt (fy.2 h)
     have hnx:fU (us.getD i []) (w.getD i 0) (dS oq (us.getD i []))=true-> ∀j,j<i+1->fU (us.getD j []) (w.getD j 0) (dS oq (us.getD j []))=true:=fun h j hj=>by
      by_cases hji:j<i
      ·exact hlts j hji
      ·obtain rfl:j=i:=oO;exact h
     rw[<-tw]at hbad;clear hR hlts hh hCo hRe hMf hCh hB hii;have hc:=Cf (us.getD i []) b1 hoV.1 kw;generalize hp1:fU (us.getD i []) (w.getD i 0) (dS oq (us.getD i []))=p at*;generalize us.getD i []=b at*;generalize w.getD i 0=x at*;simp only[cl]at e1 hc;simp only[Zp,dI,gW]at e2 hc;cases p
     ·rw[hbad (by simp)]
      simp only[ca,au,ne_eq,show¬(2:Int)=0 by decide,lH]
      exact AN (aN @l2 (aN @l5 (aN @e1 @e2))) @hor @hc
     ·have hgo:=hgo (hnx rfl);exact rv (aN @l2 (aN @l5 (aN @e1 @e2))) @hgo @hor @hc
    ·obtain rfl:i=us.length:=oO;have hg:tw oq us w=true:=lO fun j hj=>hlts j hj
     rw[hg,cj]at hh;rw[hg];simp only[bQ,bm,an];clear hR hlts;have hRe:=hRe hwl hg
     cases hq:CZ ⟨[(m,o)],us,es⟩ w with
     |false=>
      rw[hq]at hh;simp only[ca,au,ne_eq,show¬(18:Int)=0 by decide,lH]
      clear hCo hRe hMf hCh hB hii;exact aaC (aN @l5 @hwl) @hh
     |true=>
      rw[hq]at hh;simp only[bQ,bm,an,ne_eq,uU];obtain⟨R0,hR0⟩: ∃R0,R0=sG c sl ctx ⟨[(m,o)],us,es⟩ w vs sd 64 i0:=⟨_,rfl⟩;rw[<-hR0];refine nc (aN @l5 @hwl) @hh ?_;refine ai ?_;repeat' first|simp only[go_sem,seval,l5,hwl]|refine cV Sc ?_|refine oE ?_|apply xX<;>intro hc
      refine af (α:=Nat×Nat) (fun p=>64-p.1) (fun p=>⟨[(1, .v (.s ctx)),(3, .v (.sl (w.map Zp))),(5, .v (.sl [])),(7, .p 1000 0 0),(9, .p 1001 0 0),(11, .p 1002 0 0),(13, .p 1003 0 0),(14, .p 1004 0 0),(15, .p 1005 0 0),(17, .p 1009 0 0),(18, .p 1010 0 0),(29,E' p.1)],[(1000,⟨0,[.v (.s c), .v (.s sl)],false,none⟩),(1001,⟨0,[.v (.sl [G m o]), .v (.sl (us.map cl)), .v (.sl (es.map da.pv))],false,none⟩),(1002,⟨0,[.v (.sl []), .v (.sl [])],false,none⟩),(1003,⟨0,[.v (.sl (vs.map .s)), .v (.s sd), .v (.i .i64 ((p.2:Nat):Int))],false,none⟩),(1004,⟨0,[.v (.s []), .sn, .sn, .sn],false,some 45⟩),(1005,⟨0,[.sn, .v (.s []), .v (.i .i64 0)],false,some 37⟩),(1009,⟨0,[.v (.s []), .sn, .sn, .sn],false,some 45⟩),(1010,⟨0,[.sn, .v (.s []), .v (.i .i64 0)],false,some 37⟩)],_⟩) (fun p=>p.1<=64/\p.2<=2147483647/\R0=sG c sl ctx ⟨[(m,o)],us,es⟩ w vs sd (64-p.1) p.2) (0,i0) (fun _=>ay _) ⟨aJ _,oO,hR0⟩ ?_ ?_
      ·exact lE
      ·clear hn hv1 hgd hh hR0;rintro⟨k,i⟩ ⟨hk,hi,hR0⟩ R hR;simp only at hk hi hR0
       by_cases hlt:k<64
       ·obtain⟨q,hq⟩: ∃q,64-k=q+1:=⟨63-k,oO⟩;rw[hq,sG]at hR0;simp only[<-hoq]at hR0;have hCo:=hCo i hi
        cases hM:iH oq c sl vs sd us i []with
        |error e=>
         simp only[hM]at hR0 hCo;subst hR0;have he:(e !=0)=true:=by rcases tF hM with rfl|rfl<;>rfl
         simp only[CI]at hCo;clear hR hRe hMf hCh hB hii;exact mi @he @hCo
        |ok ms=>
         simp only[hM]at hR0 hCo;simp only[CI]at hCo;obtain⟨m1,m2,m3,m4⟩:=hMf i hi ms hM;have hii:=hii ms;have hCh:=hCh (pQ ⟨[(m,o)],us,es⟩ ms) hii.1 hii.2 (fun x hx=>(hmI _ x hx).1) (bM.2 fun x hx=>(hmI _ x hx).2)
         have hlc:=wF (Bj ctx ⟨[(m,o)],us,es⟩ (pQ ⟨[(m,o)],us,es⟩ ms)) hr.c2;have hRe:=hRe ms _ m1 hlc m2;generalize iQ (Bj ctx ⟨[(m,o)],us,es⟩ (pQ ⟨[(m,o)],us,es⟩ ms)) c=z at*;have hB:=hB (i+us.length) m3;generalize pQ ⟨[(m,o)],us,es⟩ ms=L at*;unfold xr at hRe
         by_cases hin:zx oq c sl us (dT oq us ms w z)=true
         ·rw[ah hin]at hR0 hRe;subst hR0;generalize dT oq us ms w z=rs at*;clear hR hMf m2 m4 hmI hM;exact z4 @hCo @hB @hCh @hRe
         ·rw[ae hin]at hR0 hRe;have hgo:=hR (k+1,i+us.length) ⟨oO,m3,by rw[show 64-(k+1)=q by omega];exact hR0⟩ (by simp only;omega)
          clear hR hMf m2 m4 hmI hM;exact zg4 @hgo @hCo @hB @hCh @hRe
       ·obtain rfl:k=64:=oO;simp only[fA,sG]at hR0;subst hR0;clear hR hRe hCh hCo hMf hB hii;exact z0
  ·rw[ah hwl];clear hCo hRe hMf hCh hB hii hh;simp only[ne_eq,show¬(6:Int)=0 by decide,lH,au]
   have e6:((w.length:Int) !=us.length)=true:=by rw[uT];omega
   refine eW call41 func41 ?_;exact aaD (aN @l2 (aN @l5 @e6)) @hn @hv1 @hgd
