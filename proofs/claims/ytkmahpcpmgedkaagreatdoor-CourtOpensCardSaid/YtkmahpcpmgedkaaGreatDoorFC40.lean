/- Part of the proof. -/
import Derived.Test.YtkmahpcpmgedkaaGreatDoorFC39
import Derived.Test.YtkmahpcpmgedkaaGreatDoorFC38
set_option linter.all false
set_option maxHeartbeats 16000000
set_option maxRecDepth 100000
namespace Go.Proofs.Tryz
open Go Go.Dom
theorem Gy {a b:Bytes} (ha:aa a=true) (hb:aa b=true) (h0:0<num b):aE 357 [.s a, .s b] (.tup [N (num a/num b),N (num a%num b)]):=by
 by_cases h:a.length<=8\/num a<num b
 ·exact uU ha hb h0 h
 ·exact JT ha hb h0 oO oO
theorem PC {a b:Nat} (ha:a<dZ) (hb:b<dZ) (h0:0<b):aE 232 [N a,N b] (.tup [N (a/b),N (a%b),E 0]):=by
 have va:=qT ha;have vb:=qT hb;have hd:=Gy va vb (by rw[aQ];exact h0)
 have v1:=aT (aY a);have v2:=aT (aY b);have hz:=si (n:=b) oO;rw[va]at v1;rw[vb]at v2;rw[aQ,aQ]at hd;refine eW call232 func232 ?_;exact wJ @hz @v1 @v2 @hd oT
end Go.Proofs.Tryz
namespace Go.Proofs.Tryz
open Go Go.Dom Go.Num
variable {L ch i:Nat} {b c o sd sl:Bytes} {e x:Int} {us vs:List Bytes}
def oH (o c sl:Bytes) (vs:List Bytes) (sd b:Bytes) (i:Nat):Except Int Int:=
 if b=[]then(match jd vs sd i o with
  | .error e=> .error e
  | .ok x=> .ok (num x:Int))else Ae vs sd i (qk c sl b)
def oh (o c sl:Bytes) (vs:List Bytes) (sd:Bytes):List Bytes->Nat->List Int->Except Int (List Int)
 |[],_,acc=> .ok acc
 |b::us,i,acc=>match oH o c sl vs sd b i with
  | .error e=> .error e
  | .ok z=>oh o c sl vs sd us (i+1) (acc++[z])
theorem yN (h:oH o c sl vs sd b i= .error e):e=2\/e=14:=by
 unfold oH at h
 split at h
 ·split at h
  ·rename_i e' he;injection h with h
   subst h;exact oG he
  ·cases h
 ·exact Lc h
theorem ET: ∀{us:List Bytes} {i:Nat} {acc:List Int},oh o c sl vs sd us i acc= .error e->e=2\/e=14:=by
 intro us
 induction us with
 |nil=>intro i acc h;cases h
 |cons b us ih=>
  intro i acc h;rw[oh]at h
  split at h
  ·rename_i e' he;injection h with h
   subst h;exact yN he
  ·exact ih h
theorem EZ (h:o.length<=8):num o<dZ:=bE (eR h) (by unfold dZ;decide+kernel)
theorem S6 (hr:sP c sl) (lo:o.length<=8) (lb:b.length<=16):lM o c sl b<dZ:=by
 unfold lM;split
 ·exact EZ lo
 ·exact xh hr lb
theorem Ct {z:Int} (hr:sP c sl) (vo:aa o=true) (hb:aa b=true/\b.length<=16) (hv:vs.all aa=true) (hl:vs.length<1000000) (hi:i<=2147483647) (h:oH o c sl vs sd b i= .ok z):kC b z (lM o c sl b)=true/\i+1<=2147483647:=by
 unfold oH at h
 split at h
 ·rename_i hb0
  split at h
  ·cases h
  ·rename_i x hx;injection h with h
   subst h;obtain⟨-,h2,h3⟩:=je hv vo hl hi hx;refine⟨?_,h3⟩;simp only[kC,lM,hb0,ax,ba,cK,fJ,cr,pQ,decide_true];omega
 ·rename_i hb0;have hm:=CH hr hb.1 hb0 hb.2;obtain⟨h2,h3⟩:=OO hv hm.1 oO hl hi h;refine⟨?_,h3⟩;simp only[kC,lM,hb0,aq,decide_false,dK,cv,jK,cK];exact h2
theorem Rk (hr:sP c sl) (vo:aa o=true) (hv:vs.all aa=true) (hl:vs.length<1000000): ∀(us:List Bytes) (i:Nat) (acc l:List Int),(∀b∈us,aa b=true/\b.length<=16)->i<=2147483647->oh o c sl vs sd us i acc= .ok l-> ∃r,l=acc++r/\r.length=us.length/\(∀j,j<us.length->kC (us.getD j []) (r.getD j 0) (lM o c sl (us.getD j []))=true)/\i+us.length<=2147483647:=by
 intro us
 induction us with
 |nil=>intro i acc l _ hi h;injection h with h;exact⟨[],by simp[h],rfl,(fun j hj=>(pE _ hj).elim),hi⟩
 |cons b us ih=>
  intro i acc l hb hi h;rw[oh]at h
  split at h
  ·cases h
  ·rename_i z hz;obtain⟨h3,h4⟩:=Ct hr vo (hb b (.head _)) hv hl hi hz;obtain⟨r,h5,h6,h7,h8⟩:=ih _ _ _ (fun b' hm=>hb b' (.tail _ hm)) h4 h
   refine⟨z::r,by rw[h5];simp,by simp[h6],?_,by simp;omega⟩
   intro j hj
   cases j with
   |zero=>exact h3
   |succ j=>exact h7 j (by simpa using hj)
theorem CC (h:kC b x L=true):x.natAbs<L/\(b=[]->0<=x):=by
 simp only[kC,ba,cK,fJ,Bool.and_eq_false_imp,pQ]at h;exact⟨h.1,fun hb=>by have:=h.2 hb;omega⟩
theorem zx {s:cU} (hp:As c sl s) (hv:vs.all aa=true) (hi:i<=2147483647) (hl:vs.length<1000000) {ms:List Int} (h:oh (bM s.groups) c sl vs sd s.vars i []= .ok ms):
  ms.length=s.vars.length/\(∀j,j<s.vars.length->kC (s.vars.getD j []) (ms.getD j 0) (lM (bM s.groups) c sl (s.vars.getD j []))=true)/\i+s.vars.length<=2147483647/\ ∀x∈ms,x.natAbs<dZ:=by
 have ho:=fa hp.g.g;obtain⟨r,h1,h2,h3,h4⟩:=Rk hp.r ho.1 hv hl _ _ _ _ hp.g.v hi h;rw[List.nil_append]at h1;subst h1;refine⟨h2,h3,h4,fun x hx=> ?_⟩
 obtain⟨j,hj,rfl⟩:=iG hx;have:=(CC (h3 j oO)).1;rw[br,bw hj]at this;exact jy this (S6 hp.r ho.2 (hp.g.v _ (an [] oO)).2)
theorem U8 {a:Bytes} (h:a.length<=16):num a<256^16:=bE (cC a) (dc oC h)
theorem W0 {s:cU} (hs:Ca s) {w:List Int} (hwl:w.length=s.vars.length) (hw: ∀x∈w,x.natAbs<256^100):WS s w:=by
 intro q hq t ht;obtain⟨t1,t2,t3,t4⟩:=(hs.q q hq).2.2.2.2 t ht;have hl:=((hs.b.q q hq).2 t ht);have hx:=hw _ (an 0 (show t.var.toNat<w.length by omega))
 refine⟨t1,oO,t4,jy hx (by unfold dZ;exact DY oC oC),?_⟩
 rw[D6];refine eX (iP (kX (U8 hl)) (kX hx)) ?_;unfold dZ;rw[<-cY];exact DY oC oC
theorem Nj (hr:sP c sl) (lo:o.length<=8) (lb:b.length<=16):lM o c sl b<256^33:=by
 unfold lM;split
 ·exact bE (eR lo) (by decide+kernel)
 ·have h1:num sl*num c<(2^64)*(2^64):=ga (eR hr.ls) (eR hr.lc);have h2:qk c sl b<(2^64)*(2^64)*dT:=ga h1 (EY lb);exact bE h2 (by unfold dT;decide+kernel)
theorem QJ {s:cU} (hp:As c sl s) (ho:[]∈s.vars->bM s.groups≠[]) (hv:vs.all aa=true) (hi:i<=2147483647) (hl:vs.length<1000000) (hsd:sd.length<1000000):
  aE 149 [s.pv, .sl (s.vars.map (lP (bM s.groups) c sl)),T vs sd i] (Nu vs sd (i+s.vars.length) (oh (bM s.groups) c sl vs sd s.vars i [])):=by
 have hb:=hp.g.v;have nv:=hp.g.nv;have hr:=hp.r;have vo:=(fa hp.g.g).1;obtain⟨gs,us,es⟩:=s;simp only at hb nv ho vo⊢;clear hp;generalize bM gs=o at*;have l2:(us.map cO).length=us.length:=aC ..;have l3:(us.map (lP o c sl)).length=us.length:=aC ..;obtain⟨R0,hR0⟩: ∃R0,R0=oh o c sl vs sd (us.drop 0) i []:=⟨_,rfl⟩;rw[show oh o c sl vs sd us i []=oh o c sl vs sd (us.drop 0) i []from rfl,<-hR0]
 unfold cU.pv;simp only
 by_cases hpos:0<us.length
 rotate_left
 ·obtain rfl:us=[]:=gb.1 oO;rw[List.drop_nil,oh]at hR0;subst hR0;refine eW call149 func149 ?_;exact SA
 refine eW call149 func149 ?_;refine dH @l2 ?_;refine ai ?_;have hz0:0<us.length:=hpos;have e1:=getD_map cO us [] hpos;have e2:=getD_map (lP o c sl) us [] hpos;have kb:=hb _ (an [] hpos);have hk:=pA (us.getD 0 []);have hdo:=fun hi z (h:oH o c sl vs sd (us.getD 0 []) i= .ok z)=>(Ct (i:=i) hr vo kb hv hl hi h).2
 have hcs:(us.getD 0 []=[]/\ ∀ _:i<=2147483647,aE 122 [T vs sd (i:Nat),N (lM o c sl (us.getD 0 []))] (match oH o c sl vs sd (us.getD 0 []) i with
   | .ok z=> .tup [.s (zb z),T vs sd ((i+1:Nat):Int),E 0]
   | .error e=> .tup [.s [],T [] [] 0,E e])/\ ∀z,oH o c sl vs sd (us.getD 0 []) i= .ok z->zs z=false)\/(us.getD 0 []≠[]/\ ∀ _:i<=2147483647,aE 259 [T vs sd (i:Nat),N (lM o c sl (us.getD 0 []))] (tS vs sd i (oH o c sl vs sd (us.getD 0 []) i))):=by
  by_cases h:us.getD 0 []=[]
  ·refine .inl ⟨h,fun hi=> ?_⟩
   have hbl:=uG (sd:=sd) (n:=o) hv vo (ho (by rw[<-h];exact an [] hpos)) hi hl hsd
   rw[lM,ah h,eH vo];unfold oH;rw[ah h]
   cases hd:jd vs sd (i) o with
   |error e=>
    rw[hd]at hbl;exact⟨hbl,fun z hz=>by cases hz⟩
   |ok x=>
    have hx:=(je hv vo hl hi hd).1;rw[hd]at hbl;refine⟨?_,fun z hz=>by dsimp only at hz;injection hz with hz;subst hz;simp[zs]⟩
    dsimp only;rw[show zb (num x:Int)=x from by rw[zb,Int.natAbs_natCast];exact iu hx]
    exact hbl
  ·have hm:=CH hr kb.1 h kb.2;refine .inr ⟨h,fun hi=> ?_⟩
   rw[lM,ae h,oH,ae h];exact Be (vs:=vs) (sd:=sd) (i:=i) hv hi hl hsd hm.1 hm.2
 rw[aW [] hpos,oh]at hR0;clear kb;generalize us.getD 0 []=u at*;simp only[cO]at e1 hk;simp only[lP]at e2;generalize lM o c sl u=M at*;generalize lR o c sl u=Rr at*;rcases hcs with⟨hu,hg⟩|⟨hu,hg⟩
 all_goals
  first|rw[ah hu]at hk|rw[ae hu]at hk
  have hg:=hg hi
  cases hsg:oH o c sl vs sd u i with
  |error e=>
   rw[hsg]at hg hR0;simp only[tS]at hg hR0;have he:(e !=0)=true:=by rcases yN hsg with rfl|rfl<;>rfl
   subst hR0
   first
    |have hg:=hg.1
    |skip
   exact B8 (aN @l2 (aN @l3 (aN @e1 (aN @e2 @he)))) @hk @hg
  |ok z=>
   have hsi:i+(0+1)<=2147483647:=hdo hi z hsg;rw[hsg]at hg hR0;simp only[tS]at hg hR0
   first
    |(have hzz:=hg.2 z rfl
      have hg:=hg.1)
    |have hzz:zs z=zs z:=rfl
   refine qC (aN @l2 (aN @l3 (aN @e1 @e2))) @hk @hg ?_;obtain⟨nm,hnm⟩: ∃nm,nm=(if u=[]then 1042 else 1041):=⟨_,rfl⟩
   first|rw[ah hu]at hnm|rw[ae hu]at hnm
   clear e1 e2 hk hg hdo hu;refine af (α:=Nat×List Int) (fun p=>us.length-(p.1+1)) (fun p=>⟨[(1, .v (.sl (us.map (lP o c sl)))),(3, .p 1000 0 0),(5, .p 1001 0 0),(7, .p 1003 0 0),(9, .rs nm p.1 0 (p.1+1) 2),(15, .v (.sl (us.map cO))),(16,E' us.length),(17,E' (p.1+1))],[(1000,⟨0,[.v (.sl (gs.map eB)), .v (.sl (us.map cO)), .v (.sl (es.map dx.pv))],false,none⟩),(1001,⟨0,[.v (.sl (vs.map .s)), .v (.s sd), .v (.i .i64 ((i+(p.1+1):Nat):Int))],false,none⟩),(1003,⟨0,[.sn, .v (.s []), .v (.i .i64 0)],false,some 37⟩),(nm,⟨p.1,aX Zp p.2,true,some 77⟩)],1045⟩) (fun p=>p.1+1<=us.length/\p.2.length=p.1+1/\i+(p.1+1)<=2147483647/\R0=oh o c sl vs sd (us.drop (p.1+1)) (i+(p.1+1)) p.2) (0,[z]) (fun _=>bQ rfl) ⟨hpos,rfl,hsi,hR0⟩ ?_ ?_<;>subst hnm
   ·refine lG ?_;all_goals exact⟨by first|rfl|(rw[<-hzz];rfl),fun c hc=>cL hc⟩
   ·clear hzz hR0 hsi;rintro⟨j,ms⟩ ⟨hj,hlm,hij,hR0⟩ R hR;simp only at hj hlm hij hR0;have q1:=cj Ga ms;have q2:=cq Ga ms;rw[hlm]at q1 q2
    by_cases hlt:j+1<us.length
    ·have e1:=getD_map cO us [] hlt;have e2:=getD_map (lP o c sl) us [] hlt;have kb:=hb _ (an [] hlt);have hk:=pA (us.getD (j+1) []);have hdo:=fun hi z (h:oH o c sl vs sd (us.getD (j+1) []) (i+(j+1))= .ok z)=>(Ct (i:=(i+(j+1))) hr vo kb hv hl hi h).2
     have hcs:(us.getD (j+1) []=[]/\ ∀ _:(i+(j+1))<=2147483647,aE 122 [T vs sd ((i+(j+1)):Nat),N (lM o c sl (us.getD (j+1) []))] (match oH o c sl vs sd (us.getD (j+1) []) (i+(j+1))with
       | .ok z=> .tup [.s (zb z),T vs sd (((i+(j+1))+1:Nat):Int),E 0]
       | .error e=> .tup [.s [],T [] [] 0,E e])/\ ∀z,oH o c sl vs sd (us.getD (j+1) []) (i+(j+1))= .ok z->zs z=false)\/(us.getD (j+1) []≠[]/\ ∀ _:(i+(j+1))<=2147483647,aE 259 [T vs sd ((i+(j+1)):Nat),N (lM o c sl (us.getD (j+1) []))] (tS vs sd (i+(j+1)) (oH o c sl vs sd (us.getD (j+1) []) (i+(j+1))))):=by
      by_cases h:us.getD (j+1) []=[]
      ·refine .inl ⟨h,fun hi=> ?_⟩
       have hbl:=uG (sd:=sd) (n:=o) hv vo (ho (by rw[<-h];exact an [] hlt)) hi hl hsd
       rw[lM,ah h,eH vo];unfold oH;rw[ah h]
       cases hd:jd vs sd ((i+(j+1))) o with
       |error e=>
        rw[hd]at hbl;exact⟨hbl,fun z hz=>by cases hz⟩
       |ok x=>
        have hx:=(je hv vo hl hi hd).1;rw[hd]at hbl;refine⟨?_,fun z hz=>by dsimp only at hz;injection hz with hz;subst hz;simp[zs]⟩
        dsimp only;rw[show zb (num x:Int)=x from by rw[zb,Int.natAbs_natCast];exact iu hx]
        exact hbl
      ·have hm:=CH hr kb.1 h kb.2;refine .inr ⟨h,fun hi=> ?_⟩
       rw[lM,ae h,oH,ae h];exact Be (vs:=vs) (sd:=sd) (i:=(i+(j+1))) hv hi hl hsd hm.1 hm.2
     rw[aW [] hlt,oh]at hR0;clear kb;generalize us.getD (j+1) []=u at*;simp only[cO]at e1 hk;simp only[lP]at e2;generalize lM o c sl u=M at*;generalize lR o c sl u=Rr at*;rcases hcs with⟨hu,hg⟩|⟨hu,hg⟩
     all_goals
      first|rw[ah hu]at hk|rw[ae hu]at hk
      have hg:=hg hij
      cases hsg:oH o c sl vs sd u (i+(j+1))with
      |error e=>
       rw[hsg]at hg hR0;simp only[tS]at hg hR0;have he:(e !=0)=true:=by rcases yN hsg with rfl|rfl<;>rfl
       subst hR0;clear hR
       first
        |have hg:=hg.1
        |skip
       exact B8 (aN @l2 (aN @l3 (aN @e1 (aN @e2 (aN @he (aN @q1 @q2)))))) @hk @hg
      |ok y=>
       have hsi:i+(j+1+1)<=2147483647:=hdo hij y hsg;rw[hsg]at hg hR0;simp only[tS]at hg hR0;have hgo:=hR (j+1,ms++[y]) ⟨oO,by simp[hlm],hsi,hR0⟩ (by simp only;omega)
       simp only[Jm]at hgo
       first
        |(have hzz:=hg.2 y rfl
          have hg:=hg.1;rw[hzz]at hgo)
        |skip
       clear hR;refine qC (aN @l2 (aN @l3 (aN @e1 (aN @e2 (aN @q1 @q2))))) @hk @hg ?_;refine hgo _ ?_;refine lG ?_;all_goals exact⟨oO,fun c hc=>by rcases hc with hc|rfl|rfl<;>first|exact cL hc|rfl⟩
    ·have hjl:us.length=j+1:=oO;rw[il oO]at hR0;simp only[oh]at hR0;subst hR0;have q3:=dQ Ga ms;have q4:=cJ Ga ms;rw[hlm]at q4;rw[hjl];clear hR;exact gi (aN @l2 (aN @hjl (aN @q1 (aN @q2 (aN @q3 (aN @q4 @ec))))))
noncomputable def Mm (s:cU) (vs:List Bytes) (sd:Bytes) (j:Nat):Except Int (List Int)->PV
 | .ok ms=> .tup [.sl (ms.map Zp), .sl ((yX s ms).map .s),T vs sd j,E 0]
 | .error e=> .tup [.sl [], .sl [],T [] [] 0,E e]
theorem CG {s:cU} (h:Ca s) (hv:[]∈s.vars):bM s.groups≠[]:=by
 have hk:=h.k;unfold EP at hk;rw[List.any_eq_true.2 ⟨[],hv,rfl⟩]at hk;simp only[bV,lA,ba,fJ,fk]at hk;exact hk.1.1
theorem Jp {s:cU} (hp:As c sl s) (hv:vs.all aa=true) (hi:i<=2147483647) (hl:vs.length<1000000) (hsd:sd.length<1000000):
  aE 71 [.agg [.s c, .s sl],s.pv,T vs sd i] (Mm s vs sd (i+s.vars.length) (oh (bM s.groups) c sl vs sd s.vars i [])):=by
 have hb:=Ab hp;have hd:=QJ hp (CG hp.g) (vs:=vs) (sd:=sd) (i:=i) hv hi hl hsd
 cases hR:oh (bM s.groups) c sl vs sd s.vars i []with
 |error e=>
  have he:(e !=0)=true:=by rcases ET hR with rfl|rfl<;>rfl
  rw[hR]at hd;obtain⟨gs,us,es⟩:=s;simp only[Nu,Mm,cU.pv]at hb hd⊢;refine eW call71 func71 ?_;exact B8 @he @hb @hd
 |ok ms=>
  obtain⟨f1,f2,f3,f4⟩:=zx hp hv hi hl hR;have hm:=PE hp.g f1 f4 (W0 hp.g f1 fun x hx=>by
   obtain⟨j,hj,rfl⟩:=iG hx;have:=(CC (f2 j oO)).1;rw[br,bw hj]at this;exact jy (jy this (Nj hp.r (fa hp.g.g).2 (hp.g.v _ (an [] oO)).2)) (DY oC oC))
  rw[hR]at hd;simp only[Nu,Mm]at hd⊢;generalize yX s ms=L at*;obtain⟨gs,us,es⟩:=s;simp only[cU.pv]at hb hd hm⊢;refine eW call71 func71 ?_;exact z4 @hb @hd @hm oT
theorem Rp {a m:Nat} (hm:0<m):(-(a:Int))%m=if a%m=0 then 0 else((m-a%m:Nat):Int):=by
 have h1:=iC a m;have h2:=aL a hm;split
 ·rename_i h;refine((DQ (a:= -(a:Int)) (b:=m) (r:=0) (q:= -((a/m:Nat):Int)) oO).2 ⟨?_,oO,oO⟩).2;have:(a:Int)=m*(a/m:Nat):=by rw[<-Int.natCast_mul];omega
  rw[pN,<-this];omega
 ·rename_i h;refine((DQ (a:= -(a:Int)) (b:=m) (r:=((m-a%m:Nat):Int)) (q:= -((a/m:Nat):Int)-1) oO).2 ⟨?_,oO,oO⟩).2;have:(m:Int)*(a/m:Nat)+(a%m:Nat)=a:=by rw[<-Int.natCast_mul];omega
  rw[pH,pN,Int.mul_one];omega
theorem S1 {m:Nat} (hx:x.natAbs<dZ) (hm:m<dZ) (h0:0<m):aE 279 [Z x,N m] (.tup [N (x%m).toNat,E 0]):=by
 have v1:=Dr hx;have v2:=aT (aY m);rw[vB hm]at v2;have hd:=PC hx hm h0;have hlt:=aL x.natAbs h0;have hs:=wT (a:=m) (b:=x.natAbs%m) oO hm;have hmb:(aY m==([]:Bytes))=false:=by
  rw[fk,ne_eq,iJ];omega
 have hr:(x%m).toNat=if x<0/\x.natAbs%m≠0 then m-x.natAbs%m else x.natAbs%m:=by
  by_cases hn:x<0
  ·have e:x= -(x.natAbs:Int):=oO;have h:=Rp (a:=x.natAbs) h0;rw[<-e]at h;rw[h];split
   ·rename_i g;rw[ae (by simp[g])];omega
   ·rename_i g;rw[ah ⟨hn,g⟩];omega
  ·rw[ae (by simp[hn])]
   have e:x=(x.natAbs:Int):=oO
   conv=>lhs;rw[e]
   rw[<-Int.natCast_emod,Int.toNat_natCast]
 rw[hr];have hbb: ∀ _:True,(aY (x.natAbs%m)==([]:Bytes))=decide (x.natAbs%m=0):=fun _=>by
  rw[ew,gR,iJ,cK]
 generalize x.natAbs%m=r at*;have hzs:zs x=decide (x<0):=rfl;clear hx hlt hr;unfold Z at v1⊢
 by_cases h1:x<0
 ·rw[aJ h1]at hzs;rw[hzs]at v1⊢
  by_cases h2:r=0
  ·rw[aJ h2]at hbb;rw[ae (by simp[h2])]
   refine eW call279 func279 ?_;exact wJ (aN @hmb (hbb oT)) @v1 @v2 @hd @hs
  ·rw[aG h2]at hbb;rw[ah ⟨h1,h2⟩];refine eW call279 func279 ?_;exact wJ (aN @hmb (hbb oT)) @v1 @v2 @hd @hs
 ·rw[aG h1]at hzs;rw[hzs]at v1⊢;rw[ae (by simp[h1])]
  refine eW call279 func279 ?_;exact wJ @hmb @v1 @v2 @hd @hs
theorem xw (b:Bytes) (hx:x.natAbs<dZ) (hL:L<dZ):aE 163 [cO b,Zp x,N L] (.b (kC b x L)):=by
 have hk:=pA b;have hc:=sY hx hL;have hd: ∀ _:True,decide (bc x.natAbs L<0)=decide (x.natAbs<L):=fun _=>by rw[ew];simp only[cK];exact fM
 generalize bc x.natAbs L=cm at*;have hzs:zs x=decide (x<0):=rfl;rw[show N x.natAbs= .s (zb x)from rfl]at hc
 unfold kC;generalize decide (x.natAbs<L)=p at*;generalize decide (x<0)=q at*;simp only[Zp,cT,nf]
 by_cases hb:b=[]
 ·rw[ah hb]at hk;rw[aJ hb,cr];unfold cO at hk⊢;refine eW call163 func163 ?_;exact Wn (aN (hd oT) @hzs) @hc @hk
 ·rw[ae hb]at hk;rw[aG hb,dK];unfold cO at hk⊢;refine eW call163 func163 ?_;exact Wn (aN (hd oT) @hzs) @hc @hk
theorem Se {s:cU} (hs:Ca s) {w:List Int} (hwl:w.length=s.vars.length) (hw: ∀x∈w,x.natAbs<dZ):aE 162 [s.pv, .sl (w.map Zp)] (.b (CD (bM s.groups) s.vars w)):=by
 have hv:=hs.v;have nv:=hs.nv;have hor:=B1 s (by have:=hs.ng;omega)
 have hoV:=fa hs.g;obtain⟨gs,vs,es⟩:=s;simp only at hv hwl nv hor hoV⊢;have l2:(vs.map cO).length=vs.length:=aC ..;have l5:(w.map Zp).length=vs.length:=by rw[aC];exact hwl
 generalize bM gs=oq at*;unfold cU.pv at*;simp only at*;refine eW call162 func162 ?_;refine oZ @l2 @hor ?_;refine af (α:=Nat) (fun i=>vs.length-i) (fun i=>⟨[(1, .v (.sl (w.map Zp))),(2, .p 1000 0 0),(5, .v (.s oq)),(12, .v (.sl (vs.map cO))),(13,E' vs.length),(14,E' i)],[(1000,⟨0,[.v (.sl (gs.map eB)), .v (.sl (vs.map cO)), .v (.sl (es.map dx.pv))],false,none⟩)],_⟩) (fun i=>i<=vs.length/\ ∀j,j<i->kC (vs.getD j []) (w.getD j 0) (fK oq (vs.getD j []))=true) 0 (fun _=>aA _) ⟨aI _,fun j hj=>oO⟩ ?_ ?_
 ·exact lE
 ·rintro i ⟨hi,hall⟩ R hR
  by_cases hlt:i<vs.length
  ·have e1:=getD_map cO vs [] hlt;have e2:=getD_map Zp w 0 (i:=i) oO;have kb:=hv _ (an [] hlt);have kw:=hw _ (an 0 (show i<w.length by omega))
   have hgo:=fun h=>hR (i+1) ⟨oO,h⟩ oO
   have hbad:=fun h: ¬kC (vs.getD i []) (w.getD i 0) (fK oq (vs.getD i []))=true=>qE (p:=fun i=>kC (vs.getD i []) (w.getD i 0) (fK oq (vs.getD i []))) hlt (fz.2 h)
   have hnx:kC (vs.getD i []) (w.getD i 0) (fK oq (vs.getD i []))=true-> ∀j,j<i+1->kC (vs.getD j []) (w.getD j 0) (fK oq (vs.getD j []))=true:=fun h j hj=>by
    by_cases hji:j<i
    ·exact hall j hji
    ·obtain rfl:j=i:=oO;exact h
   rw[<-CD]at hbad;clear hR hall;generalize vs.getD i []=b at*;generalize w.getD i 0=x at*;have hz:=(u9 kw);simp only[nf,cz,ba]at hz;clear hz;have hk:=pA b;have hlm:fK oq b<dZ:=by unfold fK;split;exact EZ hoV.2;exact vw kb.1
   have hc:=xw b kw hlm;have hbl:(b=[]/\N (fK oq b)= .s oq)\/(b≠[]/\N (fK oq b)= .s b):=by
    by_cases h:b=[]
    ·exact .inl ⟨h,by rw[fK,ah h];exact eH hoV.1⟩
    ·exact .inr ⟨h,by rw[fK,ae h];exact eH kb.1⟩
   clear kb kw hlm;generalize hp:kC b x (fK oq b)=p at*;simp only[cO]at e1 hk hc;simp only[Zp,cT,nf]at e2 hc;rcases hbl with⟨hb,hL⟩|⟨hb,hL⟩
   all_goals
    first|rw[ah hb]at hk|rw[ae hb]at hk
    rw[hL]at hc;cases p
    ·rw[hbad (by simp)]
     exact B8 (aN @l2 (aN @l5 (aN @e1 @e2))) @hk @hc
    ·have hgo:=hgo (hnx rfl);exact vY (aN @l2 (aN @l5 (aN @e1 @e2))) @hgo @hk @hc
  ·obtain rfl:i=vs.length:=oO;have hg:CD oq vs w=true:=qf fun j hj=>hall j hj
   rw[hg];exact z0
def iM (o b:Bytes) (m w:Int) (c:Nat):Int:=if b=[]then(m+c*w)%num o else m+c*w
def gW (o:Bytes) (us:List Bytes) (ms w:List Int) (c:Nat):List Int:=(List.range us.length).map fun i=>iM o (us.getD i []) (ms.getD i 0) (w.getD i 0) c
theorem FB (o:Bytes) (us:List Bytes) (ms w:List Int) (c:Nat):(gW o us ms w c).length=us.length:=by simp[gW]
theorem FA {ms w:List Int} {c:Nat} (h:i<us.length):(gW o us ms w c).getD i 0=iM o (us.getD i []) (ms.getD i 0) (w.getD i 0) c:=by
 simp[gW,br,h]
def GF (o c sl:Bytes) (us:List Bytes) (rs:List Int):Bool:=(List.range us.length).all fun i=>kC (us.getD i []) (rs.getD i 0) (lR o c sl (us.getD i []))
def Hn (o c sl:Bytes) (us:List Bytes) (rs:List Int):PV:=if GF o c sl us rs then .tup [.sl (rs.map Zp),E 0]else .tup [.sl [],E 15]
theorem Iu (hr:sP c sl) (lo:o.length<=8) (lb:b.length<=16):lR o c sl b<dZ:=by
 unfold lR;split
 ·exact EZ lo
 ·exact Ra hr lb
theorem I5 {m w:Int} (hol:num o<dZ) (h64:num o<(2^64)) (h0:0<num o) (h:b=[]) (hx:m.natAbs+((ch:Int)*w).natAbs+(2^64)<dZ):
  kC b (iM o b m w ch) (lR o c sl b)=true/\ ∃k:Nat,aE 279 [Z ((ch:Int)*w),N (lM o c sl b)] (.tup [N k,E 0])/\aE 28 [N k] (Z k)/\aE 280 [Z m,Z k] (.tup [Z (m+k),E 0])/\ ∃k2:Nat,aE 279 [Z (m+k),N (lM o c sl b)] (.tup [N k2,E 0])/\aE 28 [N k2] (Z (iM o b m w ch)):=by
 subst h;have g1:=gU ((ch:Int)*w) (b:=num o) oO;have g2:=ig ((ch:Int)*w) (b:=num o) oO;have g3:=gU (m+ch*w) (b:=num o) oO;have g4:=ig (m+ch*w) (b:=num o) oO;simp only[lM,lR,iM,ax];refine⟨?_,((ch:Int)*w%num o).toNat,S1 oO hol h0,Bd oO,EM oO,((m+ch*w)%num o).toNat,?_,?_⟩
 ·simp only[kC,ba,cK,decide_true,cr,fJ,pQ];omega
 ·have:=S1 (x:=m+(((ch:Int)*w%num o).toNat:Int)) (m:=num o) oO hol h0;rw[lD g1,Int.add_emod_emod]at this;rw[lD g1];exact this
 ·have:=Bd (n:=((m+ch*w)%num o).toNat) oO
  rwa[lD g3]at this
theorem Oo {s:cU} (hp:As c sl s) {w ms:List Int} (hwl:w.length=s.vars.length) (hml:ms.length=s.vars.length) (hch:ch<dT) (hI: ∀i,i<s.vars.length->(w.getD i 0).natAbs<dT/\(ms.getD i 0).natAbs+((ch:Int)*w.getD i 0).natAbs+(2^64)<dZ):
  aE 164 [s.pv, .sl (s.vars.map (lP (bM s.groups) c sl)), .sl (w.map Zp), .sl (ms.map Zp),N ch] (Hn (bM s.groups) c sl s.vars (gW (bM s.groups) s.vars ms w ch)):=by
 have hb:=hp.g.v;have nv:=hp.g.nv;have hr:=hp.r;have hov:=fa hp.g.g;have lo:=hov.2;have ho:[]∈s.vars->0<num (bM s.groups):=fun h=>Nat.pos_of_ne_zero (CO hov.1 (CG hp.g h))
 obtain⟨gs,us,es⟩:=s;simp only at hb nv hwl hml hI lo ho⊢;clear hp hov;generalize bM gs=o at*;have h64:=eR lo;have hol:=EZ lo;have l2:(us.map cO).length=us.length:=aC ..;have l3:(us.map (lP o c sl)).length=us.length:=aC ..;have l4:(w.map Zp).length=us.length:=by rw[aC];exact hwl
 have l5:(ms.map Zp).length=us.length:=by rw[aC];exact hml
 have hF:=Bd (n:=ch) (bE hch AY);have hrl:=FB o us ms w ch;have rS: ∀{j:Nat},j<us.length->aX Zp ((gW o us ms w ch).take (j+1))=aX Zp ((gW o us ms w ch).take j)++[.v (.b (zs ((gW o us ms w ch).getD j 0))), .v (.s (zb ((gW o us ms w ch).getD j 0)))]:=fun h=>by
  rw[aS 0 oO,Jm]
 unfold cU.pv;simp only
 by_cases hpos:0<us.length
 rotate_left
 ·obtain rfl:us=[]:=gb.1 oO;refine eW call164 func164 ?_;exact SA
 refine eW call164 func164 ?_;refine dH @l2 ?_;refine ai ?_;have e1:=getD_map cO us [] hpos;have e2:=getD_map (lP o c sl) us [] hpos;have e3:=getD_map Zp w 0 (i:=0) oO;have e4:=getD_map Zp ms 0 (i:=0) oO;have kb:=hb _ (an [] hpos);have hk:=pA (us.getD 0 []);have hx:=hI 0 hpos;have hp:=Na (x:=(ch:Int)) (y:=w.getD 0 0) (by simpa using hch) hx.1
 have hgr:=FA (o:=o) (ms:=ms) (w:=w) (c:=ch) hpos;have hgk: ∀k,k<0+1->(∀q,q<0->kC (us.getD q []) ((gW o us ms w ch).getD q 0) (lR o c sl (us.getD q []))=true)->kC (us.getD 0 []) ((gW o us ms w ch).getD 0 0) (lR o c sl (us.getD 0 []))=true->kC (us.getD k []) ((gW o us ms w ch).getD k 0) (lR o c sl (us.getD k []))=true:=fun k hk h1 h2=>by
  by_cases hkj:k<0
  ·exact h1 k hkj
  ·obtain rfl:k=0:=oO;exact h2
 rw[hgr]at hgk;have hbad:=fun h: ¬kC (us.getD 0 []) ((gW o us ms w ch).getD 0 0) (lR o c sl (us.getD 0 []))=true=>qE (p:=fun i=>kC (us.getD i []) ((gW o us ms w ch).getD i 0) (lR o c sl (us.getD i []))) hpos (fz.2 h)
 rw[<-GF,hgr]at hbad;have r1:=rS hpos;rw[hgr]at r1;have hcs:(us.getD 0 []≠[]/\kC (us.getD 0 []) (iM o (us.getD 0 []) (ms.getD 0 0) (w.getD 0 0) ch) (lR o c sl (us.getD 0 []))=false/\aE 280 [Z (ms.getD 0 0),Z ((ch:Int)*w.getD 0 0)] (.tup [Z (iM o (us.getD 0 []) (ms.getD 0 0) (w.getD 0 0) ch),E 0])/\aE 163 [cO (us.getD 0 []),Zp (iM o (us.getD 0 []) (ms.getD 0 0) (w.getD 0 0) ch),N (lR o c sl (us.getD 0 []))] (.b false))\/
   (us.getD 0 []=[]/\kC (us.getD 0 []) (iM o (us.getD 0 []) (ms.getD 0 0) (w.getD 0 0) ch) (lR o c sl (us.getD 0 []))=true/\ ∃k:Nat,aE 279 [Z ((ch:Int)*w.getD 0 0),N (lM o c sl (us.getD 0 []))] (.tup [N k,E 0])/\aE 28 [N k] (Z k)/\aE 280 [Z (ms.getD 0 0),Z k] (.tup [Z (ms.getD 0 0+k),E 0])/\ ∃k2:Nat,aE 279 [Z (ms.getD 0 0+k),N (lM o c sl (us.getD 0 []))] (.tup [N k2,E 0])/\aE 28 [N k2] (Z (iM o (us.getD 0 []) (ms.getD 0 0) (w.getD 0 0) ch)))\/
   (us.getD 0 []≠[]/\kC (us.getD 0 []) (iM o (us.getD 0 []) (ms.getD 0 0) (w.getD 0 0) ch) (lR o c sl (us.getD 0 []))=true/\aE 280 [Z (ms.getD 0 0),Z ((ch:Int)*w.getD 0 0)] (.tup [Z (iM o (us.getD 0 []) (ms.getD 0 0) (w.getD 0 0) ch),E 0])/\aE 163 [cO (us.getD 0 []),Zp (iM o (us.getD 0 []) (ms.getD 0 0) (w.getD 0 0) ch),N (lR o c sl (us.getD 0 []))] (.b true)):=by
  by_cases h:us.getD 0 []=[]
  ·exact .inr (.inl ⟨h,I5 hol h64 (ho (by rw[<-h];exact an [] hpos)) h hx.2⟩)
  ·have h1:aE 280 [Z (ms.getD 0 0),Z ((ch:Int)*w.getD 0 0)] (.tup [Z (iM o (us.getD 0 []) (ms.getD 0 0) (w.getD 0 0) ch),E 0]):=by
    rw[iM,ae h];exact EM oO
   have h2:=xw (us.getD 0 []) (x:=iM o (us.getD 0 []) (ms.getD 0 0) (w.getD 0 0) ch) (L:=lR o c sl (us.getD 0 [])) (by rw[iM,ae h];have:=Int.natAbs_add_le (ms.getD 0 0) (ch*w.getD 0 0);omega) (Iu hr lo kb.2)
   cases hin:kC (us.getD 0 []) (iM o (us.getD 0 []) (ms.getD 0 0) (w.getD 0 0) ch) (lR o c sl (us.getD 0 []))
   ·rw[hin]at h2;exact .inl ⟨h,rfl,h1,h2⟩
   ·rw[hin]at h2;exact .inr (.inr ⟨h,rfl,h1,h2⟩)
 clear hx kb;generalize iM o (us.getD 0 []) (ms.getD 0 0) (w.getD 0 0) ch=z at*;generalize hu0:us.getD 0 []=u at*;simp only[cO]at e1 hk hcs;simp only[lP]at e2;generalize lM o c sl u=M at*;generalize lR o c sl u=Rr at*;simp only[Zp,cT,nf]at e3 e4 hcs;rcases hcs with⟨hu,hgd,m1,m2⟩|⟨hu,hgd,k,m1,m2,m3,k2,m4,m5⟩|⟨hu,hgd,m1,m2⟩
 ·rw[ae hu]at hk;rw[Hn,hbad (by simp[hgd])]
  exact Jl (aN @l2 (aN @l3 (aN @l4 (aN @l5 (aN @e1 (aN @e2 (aN @e3 @e4))))))) @hk @hF @hp @m1 @m2 oT oT
 all_goals
  first|rw[ah hu]at hk|rw[ae hu]at hk
  repeat' first|simp only[go_sem,seval,l2,l3,l4,l5,e1,e2,e3,e4]|refine cP hk ?_|refine cP hF ?_|refine cP hp ?_|refine cP m1 ?_|refine cP m2 ?_|refine cP m3 ?_|refine cP m4 ?_|refine cP m5 ?_|refine oE ?_|apply xX<;>intro hc
  obtain⟨nm,hnm⟩: ∃nm,nm=(if u=[]then 1074 else 1059):=⟨_,rfl⟩
  first|rw[ah hu]at hnm|rw[ae hu]at hnm
  refine af (α:=Nat) (fun j=>us.length-(j+1)) (fun j=>⟨[(1, .v (.sl (us.map (lP o c sl)))),(2, .v (.sl (w.map Zp))),(3, .v (.sl (ms.map Zp))),(4, .v (N ch)),(5, .p 1000 0 0),(12, .rs nm j 0 (j+1) 2),(28, .v (.sl (us.map cO))),(29,E' us.length),(30,E' (j+1))],[(1000,⟨0,[.v (.sl (gs.map eB)), .v (.sl (us.map cO)), .v (.sl (es.map dx.pv))],false,none⟩),(nm,⟨j,aX Zp ((gW o us ms w ch).take (j+1)),true,some 77⟩)],nm+4⟩) (fun j=>j+1<=us.length/\ ∀k,k<j+1->kC (us.getD k []) ((gW o us ms w ch).getD k 0) (lR o c sl (us.getD k []))=true) 0 (fun _=>by show _<=nm+4;rw[hnm];exact bQ rfl) ⟨hpos,fun k hk=>hgk k hk (fun j hj=>oO) hgd⟩ ?_ ?_<;>subst hnm
  ·rw[r1,List.take_zero,show aX Zp ([]:List Int)=[]from rfl,List.nil_append]
   exact lE
  ·clear e1 e2 e3 e4 hk hgr hbad r1 hgk hgd m1 m2 hu0 hp
   first|clear m3 m4 m5|skip
   rintro j ⟨hj,hall⟩ R hR;have hlm:((gW o us ms w ch).take (j+1)).length=j+1:=by rw[bL];omega
   have q1:=cj Ga ((gW o us ms w ch).take (j+1));have q2:=cq Ga ((gW o us ms w ch).take (j+1));rw[hlm]at q1 q2
   by_cases hlt:j+1<us.length
   ·have e1:=getD_map cO us [] hlt;have e2:=getD_map (lP o c sl) us [] hlt;have e3:=getD_map Zp w 0 (i:=(j+1)) oO;have e4:=getD_map Zp ms 0 (i:=(j+1)) oO;have kb:=hb _ (an [] hlt);have hk:=pA (us.getD (j+1) []);have hx:=hI (j+1) hlt;have hp:=Na (x:=(ch:Int)) (y:=w.getD (j+1) 0) (by simpa using hch) hx.1
    have hgr:=FA (o:=o) (ms:=ms) (w:=w) (c:=ch) hlt;have hgk: ∀k,k<(j+1)+1->(∀q,q<(j+1)->kC (us.getD q []) ((gW o us ms w ch).getD q 0) (lR o c sl (us.getD q []))=true)->kC (us.getD (j+1) []) ((gW o us ms w ch).getD (j+1) 0) (lR o c sl (us.getD (j+1) []))=true->kC (us.getD k []) ((gW o us ms w ch).getD k 0) (lR o c sl (us.getD k []))=true:=fun k hk h1 h2=>by
     by_cases hkj:k<(j+1)
     ·exact h1 k hkj
     ·obtain rfl:k=(j+1):=oO;exact h2
    rw[hgr]at hgk;have hbad:=fun h: ¬kC (us.getD (j+1) []) ((gW o us ms w ch).getD (j+1) 0) (lR o c sl (us.getD (j+1) []))=true=>qE (p:=fun i=>kC (us.getD i []) ((gW o us ms w ch).getD i 0) (lR o c sl (us.getD i []))) hlt (fz.2 h)
    rw[<-GF,hgr]at hbad;have r1:=rS hlt;rw[hgr]at r1;have hcs:(us.getD (j+1) []≠[]/\kC (us.getD (j+1) []) (iM o (us.getD (j+1) []) (ms.getD (j+1) 0) (w.getD (j+1) 0) ch) (lR o c sl (us.getD (j+1) []))=false/\aE 280 [Z (ms.getD (j+1) 0),Z ((ch:Int)*w.getD (j+1) 0)] (.tup [Z (iM o (us.getD (j+1) []) (ms.getD (j+1) 0) (w.getD (j+1) 0) ch),E 0])/\aE 163 [cO (us.getD (j+1) []),Zp (iM o (us.getD (j+1) []) (ms.getD (j+1) 0) (w.getD (j+1) 0) ch),N (lR o c sl (us.getD (j+1) []))] (.b false))\/
      (us.getD (j+1) []=[]/\kC (us.getD (j+1) []) (iM o (us.getD (j+1) []) (ms.getD (j+1) 0) (w.getD (j+1) 0) ch) (lR o c sl (us.getD (j+1) []))=true/\ ∃k:Nat,aE 279 [Z ((ch:Int)*w.getD (j+1) 0),N (lM o c sl (us.getD (j+1) []))] (.tup [N k,E 0])/\aE 28 [N k] (Z k)/\aE 280 [Z (ms.getD (j+1) 0),Z k] (.tup [Z (ms.getD (j+1) 0+k),E 0])/\ ∃k2:Nat,aE 279 [Z (ms.getD (j+1) 0+k),N (lM o c sl (us.getD (j+1) []))] (.tup [N k2,E 0])/\aE 28 [N k2] (Z (iM o (us.getD (j+1) []) (ms.getD (j+1) 0) (w.getD (j+1) 0) ch)))\/
      (us.getD (j+1) []≠[]/\kC (us.getD (j+1) []) (iM o (us.getD (j+1) []) (ms.getD (j+1) 0) (w.getD (j+1) 0) ch) (lR o c sl (us.getD (j+1) []))=true/\aE 280 [Z (ms.getD (j+1) 0),Z ((ch:Int)*w.getD (j+1) 0)] (.tup [Z (iM o (us.getD (j+1) []) (ms.getD (j+1) 0) (w.getD (j+1) 0) ch),E 0])/\aE 163 [cO (us.getD (j+1) []),Zp (iM o (us.getD (j+1) []) (ms.getD (j+1) 0) (w.getD (j+1) 0) ch),N (lR o c sl (us.getD (j+1) []))] (.b true)):=by
     by_cases h:us.getD (j+1) []=[]
     ·exact .inr (.inl ⟨h,I5 hol h64 (ho (by rw[<-h];exact an [] hlt)) h hx.2⟩)
     ·have h1:aE 280 [Z (ms.getD (j+1) 0),Z ((ch:Int)*w.getD (j+1) 0)] (.tup [Z (iM o (us.getD (j+1) []) (ms.getD (j+1) 0) (w.getD (j+1) 0) ch),E 0]):=by
       rw[iM,ae h];exact EM oO
      have h2:=xw (us.getD (j+1) []) (x:=iM o (us.getD (j+1) []) (ms.getD (j+1) 0) (w.getD (j+1) 0) ch) (L:=lR o c sl (us.getD (j+1) [])) (by rw[iM,ae h];have:=Int.natAbs_add_le (ms.getD (j+1) 0) (ch*w.getD (j+1) 0);omega) (Iu hr lo kb.2)
      cases hin:kC (us.getD (j+1) []) (iM o (us.getD (j+1) []) (ms.getD (j+1) 0) (w.getD (j+1) 0) ch) (lR o c sl (us.getD (j+1) []))
      ·rw[hin]at h2;exact .inl ⟨h,rfl,h1,h2⟩
      ·rw[hin]at h2;exact .inr (.inr ⟨h,rfl,h1,h2⟩)
    clear hx kb;generalize iM o (us.getD (j+1) []) (ms.getD (j+1) 0) (w.getD (j+1) 0) ch=z at*;generalize hu0:us.getD (j+1) []=u at*;simp only[cO]at e1 hk hcs;simp only[lP]at e2;generalize lM o c sl u=M at*;generalize lR o c sl u=Rr at*;simp only[Zp,cT,nf]at e3 e4 hcs;rcases hcs with⟨hu,hgd,m1,m2⟩|⟨hu,hgd,k,m1,m2,m3,k2,m4,m5⟩|⟨hu,hgd,m1,m2⟩
    ·rw[ae hu]at hk;rw[Hn,hbad (by simp[hgd])]
     clear hR hall hgk;exact Jl (aN @l2 (aN @l3 (aN @l4 (aN @l5 (aN @e1 (aN @e2 (aN @e3 (aN @e4 (aN @q1 @q2))))))))) @hk @hF @hp @m1 @m2 oT oT
    all_goals
     have hgo:=hR (j+1) ⟨oO,fun k hk=>hgk k hk hall hgd⟩ oO
     rw[r1]at hgo;clear hR hall hgk
     first|rw[ah hu]at hk|rw[ae hu]at hk
     repeat' first|simp only[go_sem,seval,l2,l3,l4,l5,e1,e2,e3,e4,q1,q2]|refine cP hk ?_|refine cP hF ?_|refine cP hp ?_|refine cP m1 ?_|refine cP m2 ?_|refine cP m3 ?_|refine cP m4 ?_|refine cP m5 ?_|refine oE ?_|apply xX<;>intro hc
     refine hgo _ ?_;refine lG ?_;all_goals exact fun c hc=>by rcases hc with hc|rfl|rfl<;>first|exact cL hc|rfl
   ·have hjl:us.length=j+1:=oO;have hgood2:GF o c sl us (gW o us ms w ch)=true:=qf fun k hk=>hall k oO
    rw[Hn,hgood2];have hT:(gW o us ms w ch).take (j+1)=gW o us ms w ch:=cl oO;rw[hT]at q1 q2⊢;have q3:=dQ Ga (gW o us ms w ch);have q4:=cJ Ga (gW o us ms w ch);rw[hrl,hjl]at q4;rw[hjl];clear hR;exact gi (aN @l2 (aN @hjl (aN @q1 (aN @q2 (aN @q3 (aN @q4 @ec))))))
theorem Nv {w:List Int} {n:Nat} {P:Int->Prop} (hwl:w.length=n) (h: ∀i,i<n->P (w.getD i 0)): ∀x∈w,P x:=fun x hx=>by
 obtain⟨j,hj,rfl⟩:=iG hx;have:=h j oO
 rwa[br,bw hj]at this
theorem UR {w:List Int} (h:CD o us w=true) (hi:i<us.length):kC (us.getD i []) (w.getD i 0) (fK o (us.getD i []))=true:=bH.1 h i (dW.2 hi)
theorem L7 (lo:o.length<=8) (lb:b.length<=16):fK o b<=dT:=by
 unfold fK;split
 ·exact kX (bE (eR lo) tX)
 ·exact kX (EY lb)
theorem Gf {s:cU} (hp:As c sl s) {w ms:List Int} (hwl:w.length=s.vars.length) (hml:ms.length=s.vars.length) (hch:ch<num c) (hW:CD (bM s.groups) s.vars w=true) (hM: ∀i,i<s.vars.length->kC (s.vars.getD i []) (ms.getD i 0) (lM (bM s.groups) c sl (s.vars.getD i []))=true):
  aE 74 [.agg [.s c, .s sl],s.pv, .sl (w.map Zp), .sl (ms.map Zp),N ch] (Hn (bM s.groups) c sl s.vars (gW (bM s.groups) s.vars ms w ch)):=by
 have hr:=hp.r;have hb:=hp.g.v;have nv:=hp.g.nv;have lo:=(fa hp.g.g).2;have hbo:=Ab hp;have c8:=eR hr.lc;have h64:=nR;have h128:=tX;have hwb: ∀i,i<s.vars.length->(w.getD i 0).natAbs<dT:=fun i hi=>bE (CC (UR hW hi)).1 (L7 lo (hb _ (an [] hi)).2)
 have hmb: ∀i,i<s.vars.length->(ms.getD i 0).natAbs<256^33:=fun i hi=>jy (CC (hM i hi)).1 (Nj hr lo (hb _ (an [] hi)).2)
 have h33:256^33+(2^64)*dT+(2^64)<dZ:=by unfold dZ dT;decide+kernel
 have hwA: ∀x∈w,x.natAbs<dZ:=Nv hwl fun i hi=>bE (hwb i hi) AY
 have hmA: ∀x∈ms,x.natAbs<dZ:=Nv hml fun i hi=>by have:=hmb i hi;omega
 have hv1:=B2 (w.map nf) (by rw[aC];omega)
 have hv2:=B2 (ms.map nf) (by rw[aC];omega)
 have hrg:=Se hp.g hwl hwA;rw[Za,xp hwA]at hv1;rw[Za,xp hmA]at hv2;rw[hW]at hrg;have hn:=aT (aY ch);rw[vB oO]at hn;have hcm:=sY (a:=ch) (b:=num c) oO oO;rw[eH hr.vc]at hcm;have hd: ∀ _:True,decide (bc ch (num c)>=0)=false:=fun _=>by rw[SZ,aJ hch];rfl
 have hre:=Oo hp hwl hml (ch:=ch) oO (fun i hi=>by
  refine⟨hwb i hi,?_⟩;have h1:=hmb i hi;have h2:((ch:Int)*w.getD i 0).natAbs<=(2^64)*dT:=by
   rw[mC,Int.natAbs_natCast];exact iP oO (kX (hwb i hi))
  omega)
 have hmL: ∀i,i<s.vars.length->aE 163 [cO (s.vars.getD i []),Zp (ms.getD i 0),N (lM (bM s.groups) c sl (s.vars.getD i []))] (.b true):=fun i hi=>by
  have:=xw (s.vars.getD i []) (x:=ms.getD i 0) (L:=lM (bM s.groups) c sl (s.vars.getD i [])) (by have:=hmb i hi;omega) (S6 hr lo (hb _ (an [] hi)).2)
  rwa[hM i hi]at this
 generalize bc ch (num c)=cm at*;generalize gW (bM s.groups) s.vars ms w ch=rs at*;unfold Hn at*;obtain⟨gs,us,es⟩:=s;simp only at nv hwl hml hmL hre hbo⊢;generalize bM gs=o at*;have l2:(us.map cO).length=us.length:=aC ..;have l3:(us.map (lP o c sl)).length=us.length:=aC ..;have l4:(w.map Zp).length=us.length:=by rw[aC];exact hwl
 have l5:(ms.map Zp).length=us.length:=by rw[aC];exact hml
 clear hW hwb hmb hM hwA hmA h33 h64 hb hp hr;unfold cU.pv at*;simp only at*;refine eW call74 func74 ?_;refine HI (aN @l2 (aN @l4 (aN @l5 (hd oT)))) @hbo @hv1 @hv2 @hn @hcm @hrg oT ?_;refine af (α:=Nat) (fun i=>us.length-i) (fun i=>⟨[(2, .v (.sl (w.map Zp))),(3, .v (.sl (ms.map Zp))),(4, .v (N ch)),(6, .p 1001 0 0),(12, .v (.sl (us.map (lP o c sl)))),(68, .v (.sl (us.map cO))),(69,E' us.length),(70,E' i)],[(1001,⟨0,[.v (.sl (gs.map eB)), .v (.sl (us.map cO)), .v (.sl (es.map dx.pv))],false,none⟩)],_⟩) (fun i=>i<=us.length) 0 (fun _=>aA _) (aI _) ?_ ?_
 ·exact lE
 ·intro i hi R hR
  by_cases hlt:i<us.length
  ·have hgo:=hR (i+1) oO oO;have e1:=getD_map cO us [] hlt;have e2:=getD_map (lP o c sl) us [] hlt;have e4:=getD_map Zp ms 0 (i:=i) oO;have hc:=hmL i hlt;clear hR hmL hre hv1 hv2;simp only[lP]at e2;generalize lM o c sl (us.getD i [])=M at*;generalize us.getD i []=u at*;generalize ms.getD i 0=x at*;simp only[cO]at e1 hc;simp only[Zp,cT,nf]at e4 hc;exact gV (aN @l2 (aN @l3 (aN @l5 (aN @e1 (aN @e2 @e4))))) @hgo @hc
  ·obtain rfl:i=us.length:=oO;clear hR hmL;generalize GF o c sl us rs=b at*;cases b
   ·exact z1 @hre
   ·exact z1 @hre
