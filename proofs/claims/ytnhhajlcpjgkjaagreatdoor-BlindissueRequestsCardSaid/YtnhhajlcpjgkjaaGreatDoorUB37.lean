/- Part of the proof. -/
import Derived.Test.YtnhhajlcpjgkjaaGreatDoorUB36
import Derived.Test.YtnhhajlcpjgkjaaGreatDoorUB33
import Derived.Test.YtnhhajlcpjgkjaaGreatDoorUB35
set_option linter.all false
set_option maxHeartbeats 16000000
set_option maxRecDepth 100000
namespace Go.Proofs.Tryz
open Go Go.Dom
theorem Hd {a b:Bytes} (ha:aa a=true) (hb:aa b=true) (h0:0<num b):aE 288 [.s a, .s b] (.tup [N (num a/num b),N (num a%num b)]):=by
 by_cases h:a.length<=8\/num a<num b
 ·exact vD ha hb h0 h
 ·exact Ky ha hb h0 oO oO
theorem Qv {a b:Nat} (ha:a<da) (hb:b<da) (h0:0<b):aE 162 [N a,N b] (.tup [N (a/b),N (a%b),E 0]):=by
 have va:=kI ha;have vb:=kI hb;have hd:=Hd va vb (by rw[ba];exact h0)
 have v1:=aI (bQ a);have v2:=aI (bQ b);have hz:=qD (n:=b) oO;rw[va]at v1;rw[vb]at v2;rw[ba,ba]at hd;refine eW call162 func162 ?_;exact wO @hz @v1 @v2 @hd oT
end Go.Proofs.Tryz
namespace Go.Proofs.Tryz
open Go Go.Dom Go.Num
variable {L ch i:Nat} {b c o sd sl:Bytes} {e x:Int} {us vs:List Bytes}
def iS (o c sl:Bytes) (vs:List Bytes) (sd b:Bytes) (i:Nat):Except Int Int:=
 if b=[]then(match ij vs sd i o with
  | .error e=> .error e
  | .ok x=> .ok (num x:Int))else ux vs sd i (qA c sl b)
def iO (o c sl:Bytes) (vs:List Bytes) (sd:Bytes):List Bytes->Nat->List Int->Except Int (List Int)
 |[],_,acc=> .ok acc
 |b::us,i,acc=>match iS o c sl vs sd b i with
  | .error e=> .error e
  | .ok z=>iO o c sl vs sd us (i+1) (acc++[z])
theorem qw (h:iS o c sl vs sd b i= .error e):e=2\/e=14:=by
 unfold iS at h
 split at h
 ·split at h
  ·rename_i e' he;injection h with h
   subst h;exact kq he
  ·cases h
 ·exact LS h
theorem uf: ∀{us:List Bytes} {i:Nat} {acc:List Int},iO o c sl vs sd us i acc= .error e->e=2\/e=14:=by
 intro us
 induction us with
 |nil=>intro i acc h;cases h
 |cons b us ih=>
  intro i acc h;rw[iO]at h
  split at h
  ·rename_i e' he;injection h with h
   subst h;exact qw he
  ·exact ih h
theorem zR (h:o.length<=8):num o<da:=br (dS h) (by unfold da;decide+kernel)
theorem N9 (hr:tF c sl) (lo:o.length<=8) (lb:b.length<=16):lM o c sl b<da:=by
 unfold lM;split
 ·exact zR lo
 ·exact xM hr lb
theorem tQ {z:Int} (hr:tF c sl) (vo:aa o=true) (hb:aa b=true/\b.length<=16) (hv:vs.all aa=true) (hl:vs.length<1000000) (hi:i<=2147483647) (h:iS o c sl vs sd b i= .ok z):fM b z (lM o c sl b)=true/\i+1<=2147483647:=by
 unfold iS at h
 split at h
 ·rename_i hb0
  split at h
  ·cases h
  ·rename_i x hx;injection h with h
   subst h;obtain⟨-,h2,h3⟩:=iX hv vo hl hi hx;refine⟨?_,h3⟩;simp only[fM,lM,hb0,aB,aZ,bw,ey,cq,mw,decide_true];omega
 ·rename_i hb0;have hm:=ue hr hb.1 hb0 hb.2;obtain⟨h2,h3⟩:=Px hv hm.1 oO hl hi h;refine⟨?_,h3⟩;simp only[fM,lM,hb0,az,decide_false,cY,cC,gi,bw];exact h2
theorem R6 (hr:tF c sl) (vo:aa o=true) (hv:vs.all aa=true) (hl:vs.length<1000000): ∀(us:List Bytes) (i:Nat) (acc l:List Int),(∀b∈us,aa b=true/\b.length<=16)->i<=2147483647->iO o c sl vs sd us i acc= .ok l-> ∃r,l=acc++r/\r.length=us.length/\(∀j,j<us.length->fM (us.getD j []) (r.getD j 0) (lM o c sl (us.getD j []))=true)/\i+us.length<=2147483647:=by
 intro us
 induction us with
 |nil=>intro i acc l _ hi h;injection h with h;exact⟨[],by simp[h],rfl,(fun j hj=>(rL _ hj).elim),hi⟩
 |cons b us ih=>
  intro i acc l hb hi h;rw[iO]at h
  split at h
  ·cases h
  ·rename_i z hz;obtain⟨h3,h4⟩:=tQ hr vo (hb b (.head _)) hv hl hi hz;obtain⟨r,h5,h6,h7,h8⟩:=ih _ _ _ (fun b' hm=>hb b' (.tail _ hm)) h4 h
   refine⟨z::r,by rw[h5];simp,by simp[h6],?_,by simp;omega⟩
   intro j hj
   cases j with
   |zero=>exact h3
   |succ j=>exact h7 j (by simpa using hj)
theorem po (h:fM b x L=true):x.natAbs<L/\(b=[]->0<=x):=by
 simp only[fM,aZ,bw,ey,Bool.and_eq_false_imp,mw]at h;exact⟨h.1,fun hb=>by have:=h.2 hb;omega⟩
theorem pq {s:cG} (hp:u7 c sl s) (hv:vs.all aa=true) (hi:i<=2147483647) (hl:vs.length<1000000) {ms:List Int} (h:iO (bj s.groups) c sl vs sd s.vars i []= .ok ms):
  ms.length=s.vars.length/\(∀j,j<s.vars.length->fM (s.vars.getD j []) (ms.getD j 0) (lM (bj s.groups) c sl (s.vars.getD j []))=true)/\i+s.vars.length<=2147483647/\ ∀x∈ms,x.natAbs<da:=by
 have ho:=dc hp.g.g;obtain⟨r,h1,h2,h3,h4⟩:=R6 hp.r ho.1 hv hl _ _ _ _ hp.g.v hi h;rw[List.nil_append]at h1;subst h1;refine⟨h2,h3,h4,fun x hx=> ?_⟩
 obtain⟨j,hj,rfl⟩:=ia hx;have:=(po (h3 j oO)).1;rw[b9,cb hj]at this;exact jn this (N9 hp.r ho.2 (hp.g.v _ (au [] oO)).2)
theorem VT {a:Bytes} (h:a.length<=16):num a<256^16:=br (cF a) (cQ oC h)
theorem Tt {s:cG} (hs:xl s) {w:List Int} (hwl:w.length=s.vars.length) (hw: ∀x∈w,x.natAbs<256^100):WS s w:=by
 intro q hq t ht;obtain⟨t1,t2,t3,t4⟩:=(hs.q q hq).2.2.2.2 t ht;have hl:=((hs.b.q q hq).2 t ht);have hx:=hw _ (au 0 (show t.var.toNat<w.length by omega))
 refine⟨t1,oO,t4,jn hx (by unfold da;exact yw oC oC),?_⟩
 rw[pR];refine eR (jZ (jV (VT hl)) (jV hx)) ?_;unfold da;rw[<-dk];exact yw oC oC
theorem C5 (hr:tF c sl) (lo:o.length<=8) (lb:b.length<=16):lM o c sl b<256^33:=by
 unfold lM;split
 ·exact br (dS lo) (by decide+kernel)
 ·have h1:num sl*num c<(2^64)*(2^64):=fO (dS hr.ls) (dS hr.lc);have h2:qA c sl b<(2^64)*(2^64)*dP:=fO h1 (Fz lb);exact br h2 (by unfold dP;decide+kernel)
theorem Rv {s:cG} (hp:u7 c sl s) (ho:[]∈s.vars->bj s.groups≠[]) (hv:vs.all aa=true) (hi:i<=2147483647) (hl:vs.length<1000000) (hsd:sd.length<1000000):
  aE 198 [s.pv, .sl (s.vars.map (lP (bj s.groups) c sl)),T vs sd i] (Og vs sd (i+s.vars.length) (iO (bj s.groups) c sl vs sd s.vars i [])):=by
 have hb:=hp.g.v;have nv:=hp.g.nv;have hr:=hp.r;have vo:=(dc hp.g.g).1;obtain⟨gs,us,es⟩:=s;simp only at hb nv ho vo⊢;clear hp;generalize bj gs=o at*;have l2:(us.map cz).length=us.length:=aG ..;have l3:(us.map (lP o c sl)).length=us.length:=aG ..;obtain⟨R0,hR0⟩: ∃R0,R0=iO o c sl vs sd (us.drop 0) i []:=⟨_,rfl⟩;rw[show iO o c sl vs sd us i []=iO o c sl vs sd (us.drop 0) i []from rfl,<-hR0]
 unfold cG.pv;simp only
 by_cases hpos:0<us.length
 rotate_left
 ·obtain rfl:us=[]:=eH.1 oO;rw[List.drop_nil,iO]at hR0;subst hR0;refine eW call198 func198 ?_;exact Qc
 refine eW call198 func198 ?_;refine dH @l2 ?_;refine aj ?_;have hz0:0<us.length:=hpos;have e1:=getD_map cz us [] hpos;have e2:=getD_map (lP o c sl) us [] hpos;have kb:=hb _ (au [] hpos);have hk:=pG (us.getD 0 []);have hdo:=fun hi z (h:iS o c sl vs sd (us.getD 0 []) i= .ok z)=>(tQ (i:=i) hr vo kb hv hl hi h).2
 have hcs:(us.getD 0 []=[]/\ ∀ _:i<=2147483647,aE 37 [T vs sd (i:Nat),N (lM o c sl (us.getD 0 []))] (match iS o c sl vs sd (us.getD 0 []) i with
   | .ok z=> .tup [.s (zb z),T vs sd ((i+1:Nat):Int),E 0]
   | .error e=> .tup [.s [],T [] [] 0,E e])/\ ∀z,iS o c sl vs sd (us.getD 0 []) i= .ok z->zs z=false)\/(us.getD 0 []≠[]/\ ∀ _:i<=2147483647,aE 323 [T vs sd (i:Nat),N (lM o c sl (us.getD 0 []))] (j9 vs sd i (iS o c sl vs sd (us.getD 0 []) i))):=by
  by_cases h:us.getD 0 []=[]
  ·refine .inl ⟨h,fun hi=> ?_⟩
   have hbl:=ou (sd:=sd) (n:=o) hv vo (ho (by rw[<-h];exact au [] hpos)) hi hl hsd
   rw[lM,ah h,dN vo];unfold iS;rw[ah h]
   cases hd:ij vs sd (i) o with
   |error e=>
    rw[hd]at hbl;exact⟨hbl,fun z hz=>by cases hz⟩
   |ok x=>
    have hx:=(iX hv vo hl hi hd).1;rw[hd]at hbl;refine⟨?_,fun z hz=>by dsimp only at hz;injection hz with hz;subst hz;simp[zs]⟩
    dsimp only;rw[show zb (num x:Int)=x from by rw[zb,Int.natAbs_natCast];exact fk hx]
    exact hbl
  ·have hm:=ue hr kb.1 h kb.2;refine .inr ⟨h,fun hi=> ?_⟩
   rw[lM,af h,iS,af h];exact Bx (vs:=vs) (sd:=sd) (i:=i) hv hi hl hsd hm.1 hm.2
 rw[aY [] hpos,iO]at hR0;clear kb;generalize us.getD 0 []=u at*;simp only[cz]at e1 hk;simp only[lP]at e2;generalize lM o c sl u=M at*;generalize lR o c sl u=Rr at*;rcases hcs with⟨hu,hg⟩|⟨hu,hg⟩
 all_goals
  first|rw[ah hu]at hk|rw[af hu]at hk
  have hg:=hg hi
  cases hsg:iS o c sl vs sd u i with
  |error e=>
   rw[hsg]at hg hR0;simp only[j9]at hg hR0;have he:(e !=0)=true:=by rcases qw hsg with rfl|rfl<;>rfl
   subst hR0
   first
    |have hg:=hg.1
    |skip
   exact xi (aN @l2 (aN @l3 (aN @e1 (aN @e2 @he)))) @hk @hg
  |ok z=>
   have hsi:i+(0+1)<=2147483647:=hdo hi z hsg;rw[hsg]at hg hR0;simp only[j9]at hg hR0
   first
    |(have hzz:=hg.2 z rfl
      have hg:=hg.1)
    |have hzz:zs z=zs z:=rfl
   refine tu (aN @l2 (aN @l3 (aN @e1 @e2))) @hk @hg ?_;obtain⟨nm,hnm⟩: ∃nm,nm=(if u=[]then 1042 else 1041):=⟨_,rfl⟩
   first|rw[ah hu]at hnm|rw[af hu]at hnm
   clear e1 e2 hk hg hdo hu;refine ak (α:=Nat×List Int) (fun p=>us.length-(p.1+1)) (fun p=>⟨[(1, .v (.sl (us.map (lP o c sl)))),(3, .p 1000 0 0),(5, .p 1001 0 0),(7, .p 1003 0 0),(9, .rs nm p.1 0 (p.1+1) 2),(15, .v (.sl (us.map cz))),(16,E' us.length),(17,E' (p.1+1))],[(1000,⟨0,[.v (.sl (gs.map dO)), .v (.sl (us.map cz)), .v (.sl (es.map c9.pv))],false,none⟩),(1001,⟨0,[.v (.sl (vs.map .s)), .v (.s sd), .v (.i .i64 ((i+(p.1+1):Nat):Int))],false,none⟩),(1003,⟨0,[.sn, .v (.s []), .v (.i .i64 0)],false,some 41⟩),(nm,⟨p.1,aT Zp p.2,true,some 94⟩)],1045⟩) (fun p=>p.1+1<=us.length/\p.2.length=p.1+1/\i+(p.1+1)<=2147483647/\R0=iO o c sl vs sd (us.drop (p.1+1)) (i+(p.1+1)) p.2) (0,[z]) (fun _=>dr rfl) ⟨hpos,rfl,hsi,hR0⟩ ?_ ?_<;>subst hnm
   ·refine lG ?_;all_goals exact⟨by first|rfl|(rw[<-hzz];rfl),fun c hc=>cv hc⟩
   ·clear hzz hR0 hsi;rintro⟨j,ms⟩ ⟨hj,hlm,hij,hR0⟩ R hR;simp only at hj hlm hij hR0;have q1:=cf rX ms;have q2:=ct rX ms;rw[hlm]at q1 q2
    by_cases hlt:j+1<us.length
    ·have e1:=getD_map cz us [] hlt;have e2:=getD_map (lP o c sl) us [] hlt;have kb:=hb _ (au [] hlt);have hk:=pG (us.getD (j+1) []);have hdo:=fun hi z (h:iS o c sl vs sd (us.getD (j+1) []) (i+(j+1))= .ok z)=>(tQ (i:=(i+(j+1))) hr vo kb hv hl hi h).2
     have hcs:(us.getD (j+1) []=[]/\ ∀ _:(i+(j+1))<=2147483647,aE 37 [T vs sd ((i+(j+1)):Nat),N (lM o c sl (us.getD (j+1) []))] (match iS o c sl vs sd (us.getD (j+1) []) (i+(j+1))with
       | .ok z=> .tup [.s (zb z),T vs sd (((i+(j+1))+1:Nat):Int),E 0]
       | .error e=> .tup [.s [],T [] [] 0,E e])/\ ∀z,iS o c sl vs sd (us.getD (j+1) []) (i+(j+1))= .ok z->zs z=false)\/(us.getD (j+1) []≠[]/\ ∀ _:(i+(j+1))<=2147483647,aE 323 [T vs sd ((i+(j+1)):Nat),N (lM o c sl (us.getD (j+1) []))] (j9 vs sd (i+(j+1)) (iS o c sl vs sd (us.getD (j+1) []) (i+(j+1))))):=by
      by_cases h:us.getD (j+1) []=[]
      ·refine .inl ⟨h,fun hi=> ?_⟩
       have hbl:=ou (sd:=sd) (n:=o) hv vo (ho (by rw[<-h];exact au [] hlt)) hi hl hsd
       rw[lM,ah h,dN vo];unfold iS;rw[ah h]
       cases hd:ij vs sd ((i+(j+1))) o with
       |error e=>
        rw[hd]at hbl;exact⟨hbl,fun z hz=>by cases hz⟩
       |ok x=>
        have hx:=(iX hv vo hl hi hd).1;rw[hd]at hbl;refine⟨?_,fun z hz=>by dsimp only at hz;injection hz with hz;subst hz;simp[zs]⟩
        dsimp only;rw[show zb (num x:Int)=x from by rw[zb,Int.natAbs_natCast];exact fk hx]
        exact hbl
      ·have hm:=ue hr kb.1 h kb.2;refine .inr ⟨h,fun hi=> ?_⟩
       rw[lM,af h,iS,af h];exact Bx (vs:=vs) (sd:=sd) (i:=(i+(j+1))) hv hi hl hsd hm.1 hm.2
     rw[aY [] hlt,iO]at hR0;clear kb;generalize us.getD (j+1) []=u at*;simp only[cz]at e1 hk;simp only[lP]at e2;generalize lM o c sl u=M at*;generalize lR o c sl u=Rr at*;rcases hcs with⟨hu,hg⟩|⟨hu,hg⟩
     all_goals
      first|rw[ah hu]at hk|rw[af hu]at hk
      have hg:=hg hij
      cases hsg:iS o c sl vs sd u (i+(j+1))with
      |error e=>
       rw[hsg]at hg hR0;simp only[j9]at hg hR0;have he:(e !=0)=true:=by rcases qw hsg with rfl|rfl<;>rfl
       subst hR0;clear hR
       first
        |have hg:=hg.1
        |skip
       exact xi (aN @l2 (aN @l3 (aN @e1 (aN @e2 (aN @he (aN @q1 @q2)))))) @hk @hg
      |ok y=>
       have hsi:i+(j+1+1)<=2147483647:=hdo hij y hsg;rw[hsg]at hg hR0;simp only[j9]at hg hR0;have hgo:=hR (j+1,ms++[y]) ⟨oO,by simp[hlm],hsi,hR0⟩ (by simp only;omega)
       simp only[u6]at hgo
       first
        |(have hzz:=hg.2 y rfl
          have hg:=hg.1;rw[hzz]at hgo)
        |skip
       clear hR;refine tu (aN @l2 (aN @l3 (aN @e1 (aN @e2 (aN @q1 @q2))))) @hk @hg ?_;refine hgo _ ?_;refine lG ?_;all_goals exact⟨oO,fun c hc=>by rcases hc with hc|rfl|rfl<;>first|exact cv hc|rfl⟩
    ·have hjl:us.length=j+1:=oO;rw[iu oO]at hR0;simp only[iO]at hR0;subst hR0;have q3:=dY rX ms;have q4:=de rX ms;rw[hlm]at q4;rw[hjl];clear hR;exact fP (aN @l2 (aN @hjl (aN @q1 (aN @q2 (aN @q3 (aN @q4 @ek))))))
noncomputable def CJ (s:cG) (vs:List Bytes) (sd:Bytes) (j:Nat):Except Int (List Int)->PV
 | .ok ms=> .tup [.sl (ms.map Zp), .sl ((oJ s ms).map .s),T vs sd j,E 0]
 | .error e=> .tup [.sl [], .sl [],T [] [] 0,E e]
theorem ua {s:cG} (h:xl s) (hv:[]∈s.vars):bj s.groups≠[]:=by
 have hk:=h.k;unfold C4 at hk;rw[rC.2 ⟨[],hv,rfl⟩]at hk;simp only[cr,jX,aZ,ey,dL]at hk;exact hk.1.1
theorem J2 {s:cG} (hp:u7 c sl s) (hv:vs.all aa=true) (hi:i<=2147483647) (hl:vs.length<1000000) (hsd:sd.length<1000000):
  aE 101 [.agg [.s c, .s sl],s.pv,T vs sd i] (CJ s vs sd (i+s.vars.length) (iO (bj s.groups) c sl vs sd s.vars i [])):=by
 have hb:=Az hp;have hd:=Rv hp (ua hp.g) (vs:=vs) (sd:=sd) (i:=i) hv hi hl hsd
 cases hR:iO (bj s.groups) c sl vs sd s.vars i []with
 |error e=>
  have he:(e !=0)=true:=by rcases uf hR with rfl|rfl<;>rfl
  rw[hR]at hd;obtain⟨gs,us,es⟩:=s;simp only[Og,CJ,cG.pv]at hb hd⊢;refine eW call101 func101 ?_;exact xi @he @hb @hd
 |ok ms=>
  obtain⟨f1,f2,f3,f4⟩:=pq hp hv hi hl hR;have hm:=Qz hp.g f1 f4 (Tt hp.g f1 fun x hx=>by
   obtain⟨j,hj,rfl⟩:=ia hx;have:=(po (f2 j oO)).1;rw[b9,cb hj]at this;exact jn (jn this (C5 hp.r (dc hp.g.g).2 (hp.g.v _ (au [] oO)).2)) (yw oC oC))
  rw[hR]at hd;simp only[Og,CJ]at hd⊢;generalize oJ s ms=L at*;obtain⟨gs,us,es⟩:=s;simp only[cG.pv]at hb hd hm⊢;refine eW call101 func101 ?_;exact z4 @hb @hd @hm oT
theorem R8 {a m:Nat} (hm:0<m):(-(a:Int))%m=if a%m=0 then 0 else((m-a%m:Nat):Int):=by
 have h1:=iJ a m;have h2:=aQ a hm;split
 ·rename_i h;refine((El (a:= -(a:Int)) (b:=m) (r:=0) (q:= -((a/m:Nat):Int)) oO).2 ⟨?_,oO,oO⟩).2;have:(a:Int)=m*(a/m:Nat):=by rw[<-Int.natCast_mul];omega
  rw[nW,<-this];omega
 ·rename_i h;refine((El (a:= -(a:Int)) (b:=m) (r:=((m-a%m:Nat):Int)) (q:= -((a/m:Nat):Int)-1) oO).2 ⟨?_,oO,oO⟩).2;have:(m:Int)*(a/m:Nat)+(a%m:Nat)=a:=by rw[<-Int.natCast_mul];omega
  rw[pK,nW,Int.mul_one];omega
theorem TJ {m:Nat} (hx:x.natAbs<da) (hm:m<da) (h0:0<m):aE 343 [Z x,N m] (.tup [N (x%m).toNat,E 0]):=by
 have v1:=DK hx;have v2:=aI (bQ m);rw[vB hm]at v2;have hd:=Qv hx hm h0;have hlt:=aQ x.natAbs h0;have hs:=Bo (a:=m) (b:=x.natAbs%m) oO hm;have hmb:(bQ m==([]:Bytes))=false:=by
  rw[dL,ne_eq,fS];omega
 have hr:(x%m).toNat=if x<0/\x.natAbs%m≠0 then m-x.natAbs%m else x.natAbs%m:=by
  by_cases hn:x<0
  ·have e:x= -(x.natAbs:Int):=oO;have h:=R8 (a:=x.natAbs) h0;rw[<-e]at h;rw[h];split
   ·rename_i g;rw[af (by simp[g])];omega
   ·rename_i g;rw[ah ⟨hn,g⟩];omega
  ·rw[af (by simp[hn])]
   have e:x=(x.natAbs:Int):=oO
   conv=>lhs;rw[e]
   rw[<-Int.natCast_emod,Int.toNat_natCast]
 rw[hr];have hbb: ∀ _:True,(bQ (x.natAbs%m)==([]:Bytes))=decide (x.natAbs%m=0):=fun _=>by
  rw[cX,eD,fS,bw]
 generalize x.natAbs%m=r at*;have hzs:zs x=decide (x<0):=rfl;clear hx hlt hr;unfold Z at v1⊢
 by_cases h1:x<0
 ·rw[aU h1]at hzs;rw[hzs]at v1⊢
  by_cases h2:r=0
  ·rw[aU h2]at hbb;rw[af (by simp[h2])]
   refine eW call343 func343 ?_;exact wO (aN @hmb (hbb oT)) @v1 @v2 @hd @hs
  ·rw[bu h2]at hbb;rw[ah ⟨h1,h2⟩];refine eW call343 func343 ?_;exact wO (aN @hmb (hbb oT)) @v1 @v2 @hd @hs
 ·rw[bu h1]at hzs;rw[hzs]at v1⊢;rw[af (by simp[h1])]
  refine eW call343 func343 ?_;exact wO @hmb @v1 @v2 @hd @hs
theorem xY (b:Bytes) (hx:x.natAbs<da) (hL:L<da):aE 212 [cz b,Zp x,N L] (.b (fM b x L)):=by
 have hk:=pG b;have hc:=EY hx hL;have hd: ∀ _:True,decide (aW x.natAbs L<0)=decide (x.natAbs<L):=fun _=>by rw[cX];simp only[bw];exact fx
 generalize aW x.natAbs L=cm at*;have hzs:zs x=decide (x<0):=rfl;rw[show N x.natAbs= .s (zb x)from rfl]at hc
 unfold fM;generalize decide (x.natAbs<L)=p at*;generalize decide (x<0)=q at*;simp only[Zp,cI,fQ]
 by_cases hb:b=[]
 ·rw[ah hb]at hk;rw[aU hb,cq];unfold cz at hk⊢;refine eW call212 func212 ?_;exact Tj (aN (hd oT) @hzs) @hc @hk
 ·rw[af hb]at hk;rw[bu hb,cY];unfold cz at hk⊢;refine eW call212 func212 ?_;exact Tj (aN (hd oT) @hzs) @hc @hk
theorem S4 {s:cG} (hs:xl s) {w:List Int} (hwl:w.length=s.vars.length) (hw: ∀x∈w,x.natAbs<da):aE 211 [s.pv, .sl (w.map Zp)] (.b (tY (bj s.groups) s.vars w)):=by
 have hv:=hs.v;have nv:=hs.nv;have hor:=Cq s (by have:=hs.ng;omega)
 have hoV:=dc hs.g;obtain⟨gs,vs,es⟩:=s;simp only at hv hwl nv hor hoV⊢;have l2:(vs.map cz).length=vs.length:=aG ..;have l5:(w.map Zp).length=vs.length:=by rw[aG];exact hwl
 generalize bj gs=oq at*;unfold cG.pv at*;simp only at*;refine eW call211 func211 ?_;refine m9 @l2 @hor ?_;refine ak (α:=Nat) (fun i=>vs.length-i) (fun i=>⟨[(1, .v (.sl (w.map Zp))),(2, .p 1000 0 0),(5, .v (.s oq)),(12, .v (.sl (vs.map cz))),(13,E' vs.length),(14,E' i)],[(1000,⟨0,[.v (.sl (gs.map dO)), .v (.sl (vs.map cz)), .v (.sl (es.map c9.pv))],false,none⟩)],_⟩) (fun i=>i<=vs.length/\ ∀j,j<i->fM (vs.getD j []) (w.getD j 0) (dV oq (vs.getD j []))=true) 0 (fun _=>aD _) ⟨aO _,fun j hj=>oO⟩ ?_ ?_
 ·exact lE
 ·rintro i ⟨hi,hall⟩ R hR
  by_cases hlt:i<vs.length
  ·have e1:=getD_map cz vs [] hlt;have e2:=getD_map Zp w 0 (i:=i) oO;have kb:=hv _ (au [] hlt);have kw:=hw _ (au 0 (show i<w.length by omega))
   have hgo:=fun h=>hR (i+1) ⟨oO,h⟩ oO
   have hbad:=fun h: ¬fM (vs.getD i []) (w.getD i 0) (dV oq (vs.getD i []))=true=>kS (p:=fun i=>fM (vs.getD i []) (w.getD i 0) (dV oq (vs.getD i []))) hlt (dn.2 h)
   have hnx:fM (vs.getD i []) (w.getD i 0) (dV oq (vs.getD i []))=true-> ∀j,j<i+1->fM (vs.getD j []) (w.getD j 0) (dV oq (vs.getD j []))=true:=fun h j hj=>by
    by_cases hji:j<i
    ·exact hall j hji
    ·obtain rfl:j=i:=oO;exact h
   rw[<-tY]at hbad;clear hR hall;generalize vs.getD i []=b at*;generalize w.getD i 0=x at*;have hz:=(og kw);simp only[fQ,cg,aZ]at hz;clear hz;have hk:=pG b;have hlm:dV oq b<da:=by unfold dV;split;exact zR hoV.2;exact jL kb.1
   have hc:=xY b kw hlm;have hbl:(b=[]/\N (dV oq b)= .s oq)\/(b≠[]/\N (dV oq b)= .s b):=by
    by_cases h:b=[]
    ·exact .inl ⟨h,by rw[dV,ah h];exact dN hoV.1⟩
    ·exact .inr ⟨h,by rw[dV,af h];exact dN kb.1⟩
   clear kb kw hlm;generalize hp:fM b x (dV oq b)=p at*;simp only[cz]at e1 hk hc;simp only[Zp,cI,fQ]at e2 hc;rcases hbl with⟨hb,hL⟩|⟨hb,hL⟩
   all_goals
    first|rw[ah hb]at hk|rw[af hb]at hk
    rw[hL]at hc;cases p
    ·rw[hbad (by simp)]
     exact xi (aN @l2 (aN @l5 (aN @e1 @e2))) @hk @hc
    ·have hgo:=hgo (hnx rfl);exact uZ (aN @l2 (aN @l5 (aN @e1 @e2))) @hgo @hk @hc
  ·obtain rfl:i=vs.length:=oO;have hg:tY oq vs w=true:=lu fun j hj=>hall j hj
   rw[hg];exact z0
def gv (o b:Bytes) (m w:Int) (c:Nat):Int:=if b=[]then(m+c*w)%num o else m+c*w
def dA (o:Bytes) (us:List Bytes) (ms w:List Int) (c:Nat):List Int:=(List.range us.length).map fun i=>gv o (us.getD i []) (ms.getD i 0) (w.getD i 0) c
theorem qO (o:Bytes) (us:List Bytes) (ms w:List Int) (c:Nat):(dA o us ms w c).length=us.length:=by simp[dA]
theorem qN {ms w:List Int} {c:Nat} (h:i<us.length):(dA o us ms w c).getD i 0=gv o (us.getD i []) (ms.getD i 0) (w.getD i 0) c:=by
 simp[dA,b9,h]
def vL (o c sl:Bytes) (us:List Bytes) (rs:List Int):Bool:=(List.range us.length).all fun i=>fM (us.getD i []) (rs.getD i 0) (lR o c sl (us.getD i []))
def xz (o c sl:Bytes) (us:List Bytes) (rs:List Int):PV:=if vL o c sl us rs then .tup [.sl (rs.map Zp),E 0]else .tup [.sl [],E 15]
theorem zC (hr:tF c sl) (lo:o.length<=8) (lb:b.length<=16):lR o c sl b<da:=by
 unfold lR;split
 ·exact zR lo
 ·exact RT hr lb
theorem JG {m w:Int} (hol:num o<da) (h64:num o<(2^64)) (h0:0<num o) (h:b=[]) (hx:m.natAbs+((ch:Int)*w).natAbs+(2^64)<da):
  fM b (gv o b m w ch) (lR o c sl b)=true/\ ∃k:Nat,aE 343 [Z ((ch:Int)*w),N (lM o c sl b)] (.tup [N k,E 0])/\aE 38 [N k] (Z k)/\aE 304 [Z m,Z k] (.tup [Z (m+k),E 0])/\ ∃k2:Nat,aE 343 [Z (m+k),N (lM o c sl b)] (.tup [N k2,E 0])/\aE 38 [N k2] (Z (gv o b m w ch)):=by
 subst h;have g1:=lg ((ch:Int)*w) (b:=num o) oO;have g2:=nY ((ch:Int)*w) (b:=num o) oO;have g3:=lg (m+ch*w) (b:=num o) oO;have g4:=nY (m+ch*w) (b:=num o) oO;simp only[lM,lR,gv,aB];refine⟨?_,((ch:Int)*w%num o).toNat,TJ oO hol h0,Bv oO,Fu oO,((m+ch*w)%num o).toNat,?_,?_⟩
 ·simp only[fM,aZ,bw,decide_true,cq,ey,mw];omega
 ·have:=TJ (x:=m+(((ch:Int)*w%num o).toNat:Int)) (m:=num o) oO hol h0;rw[pP g1,Int.add_emod_emod]at this;rw[pP g1];exact this
 ·have:=Bv (n:=((m+ch*w)%num o).toNat) oO
  rwa[pP g3]at this
theorem Pa {s:cG} (hp:u7 c sl s) {w ms:List Int} (hwl:w.length=s.vars.length) (hml:ms.length=s.vars.length) (hch:ch<dP) (hI: ∀i,i<s.vars.length->(w.getD i 0).natAbs<dP/\(ms.getD i 0).natAbs+((ch:Int)*w.getD i 0).natAbs+(2^64)<da):
  aE 213 [s.pv, .sl (s.vars.map (lP (bj s.groups) c sl)), .sl (w.map Zp), .sl (ms.map Zp),N ch] (xz (bj s.groups) c sl s.vars (dA (bj s.groups) s.vars ms w ch)):=by
 have hb:=hp.g.v;have nv:=hp.g.nv;have hr:=hp.r;have hov:=dc hp.g.g;have lo:=hov.2;have ho:[]∈s.vars->0<num (bj s.groups):=fun h=>Nat.pos_of_ne_zero (zU hov.1 (ua hp.g h))
 obtain⟨gs,us,es⟩:=s;simp only at hb nv hwl hml hI lo ho⊢;clear hp hov;generalize bj gs=o at*;have h64:=dS lo;have hol:=zR lo;have l2:(us.map cz).length=us.length:=aG ..;have l3:(us.map (lP o c sl)).length=us.length:=aG ..;have l4:(w.map Zp).length=us.length:=by rw[aG];exact hwl
 have l5:(ms.map Zp).length=us.length:=by rw[aG];exact hml
 have hF:=Bv (n:=ch) (br hch xD);have hrl:=qO o us ms w ch;have rS: ∀{j:Nat},j<us.length->aT Zp ((dA o us ms w ch).take (j+1))=aT Zp ((dA o us ms w ch).take j)++[.v (.b (zs ((dA o us ms w ch).getD j 0))), .v (.s (zb ((dA o us ms w ch).getD j 0)))]:=fun h=>by
  rw[aL 0 oO,u6]
 unfold cG.pv;simp only
 by_cases hpos:0<us.length
 rotate_left
 ·obtain rfl:us=[]:=eH.1 oO;refine eW call213 func213 ?_;exact Qc
 refine eW call213 func213 ?_;refine dH @l2 ?_;refine aj ?_;have e1:=getD_map cz us [] hpos;have e2:=getD_map (lP o c sl) us [] hpos;have e3:=getD_map Zp w 0 (i:=0) oO;have e4:=getD_map Zp ms 0 (i:=0) oO;have kb:=hb _ (au [] hpos);have hk:=pG (us.getD 0 []);have hx:=hI 0 hpos;have hp:=NG (x:=(ch:Int)) (y:=w.getD 0 0) (by simpa using hch) hx.1
 have hgr:=qN (o:=o) (ms:=ms) (w:=w) (c:=ch) hpos;have hgk: ∀k,k<0+1->(∀q,q<0->fM (us.getD q []) ((dA o us ms w ch).getD q 0) (lR o c sl (us.getD q []))=true)->fM (us.getD 0 []) ((dA o us ms w ch).getD 0 0) (lR o c sl (us.getD 0 []))=true->fM (us.getD k []) ((dA o us ms w ch).getD k 0) (lR o c sl (us.getD k []))=true:=fun k hk h1 h2=>by
  by_cases hkj:k<0
  ·exact h1 k hkj
  ·obtain rfl:k=0:=oO;exact h2
 rw[hgr]at hgk;have hbad:=fun h: ¬fM (us.getD 0 []) ((dA o us ms w ch).getD 0 0) (lR o c sl (us.getD 0 []))=true=>kS (p:=fun i=>fM (us.getD i []) ((dA o us ms w ch).getD i 0) (lR o c sl (us.getD i []))) hpos (dn.2 h)
 rw[<-vL,hgr]at hbad;have r1:=rS hpos;rw[hgr]at r1;have hcs:(us.getD 0 []≠[]/\fM (us.getD 0 []) (gv o (us.getD 0 []) (ms.getD 0 0) (w.getD 0 0) ch) (lR o c sl (us.getD 0 []))=false/\aE 304 [Z (ms.getD 0 0),Z ((ch:Int)*w.getD 0 0)] (.tup [Z (gv o (us.getD 0 []) (ms.getD 0 0) (w.getD 0 0) ch),E 0])/\aE 212 [cz (us.getD 0 []),Zp (gv o (us.getD 0 []) (ms.getD 0 0) (w.getD 0 0) ch),N (lR o c sl (us.getD 0 []))] (.b false))\/
   (us.getD 0 []=[]/\fM (us.getD 0 []) (gv o (us.getD 0 []) (ms.getD 0 0) (w.getD 0 0) ch) (lR o c sl (us.getD 0 []))=true/\ ∃k:Nat,aE 343 [Z ((ch:Int)*w.getD 0 0),N (lM o c sl (us.getD 0 []))] (.tup [N k,E 0])/\aE 38 [N k] (Z k)/\aE 304 [Z (ms.getD 0 0),Z k] (.tup [Z (ms.getD 0 0+k),E 0])/\ ∃k2:Nat,aE 343 [Z (ms.getD 0 0+k),N (lM o c sl (us.getD 0 []))] (.tup [N k2,E 0])/\aE 38 [N k2] (Z (gv o (us.getD 0 []) (ms.getD 0 0) (w.getD 0 0) ch)))\/
   (us.getD 0 []≠[]/\fM (us.getD 0 []) (gv o (us.getD 0 []) (ms.getD 0 0) (w.getD 0 0) ch) (lR o c sl (us.getD 0 []))=true/\aE 304 [Z (ms.getD 0 0),Z ((ch:Int)*w.getD 0 0)] (.tup [Z (gv o (us.getD 0 []) (ms.getD 0 0) (w.getD 0 0) ch),E 0])/\aE 212 [cz (us.getD 0 []),Zp (gv o (us.getD 0 []) (ms.getD 0 0) (w.getD 0 0) ch),N (lR o c sl (us.getD 0 []))] (.b true)):=by
  by_cases h:us.getD 0 []=[]
  ·exact .inr (.inl ⟨h,JG hol h64 (ho (by rw[<-h];exact au [] hpos)) h hx.2⟩)
  ·have h1:aE 304 [Z (ms.getD 0 0),Z ((ch:Int)*w.getD 0 0)] (.tup [Z (gv o (us.getD 0 []) (ms.getD 0 0) (w.getD 0 0) ch),E 0]):=by
    rw[gv,af h];exact Fu oO
   have h2:=xY (us.getD 0 []) (x:=gv o (us.getD 0 []) (ms.getD 0 0) (w.getD 0 0) ch) (L:=lR o c sl (us.getD 0 [])) (by rw[gv,af h];have:=yb (ms.getD 0 0) (ch*w.getD 0 0);omega) (zC hr lo kb.2)
   cases hin:fM (us.getD 0 []) (gv o (us.getD 0 []) (ms.getD 0 0) (w.getD 0 0) ch) (lR o c sl (us.getD 0 []))
   ·rw[hin]at h2;exact .inl ⟨h,rfl,h1,h2⟩
   ·rw[hin]at h2;exact .inr (.inr ⟨h,rfl,h1,h2⟩)
 clear hx kb;generalize gv o (us.getD 0 []) (ms.getD 0 0) (w.getD 0 0) ch=z at*;generalize hu0:us.getD 0 []=u at*;simp only[cz]at e1 hk hcs;simp only[lP]at e2;generalize lM o c sl u=M at*;generalize lR o c sl u=Rr at*;simp only[Zp,cI,fQ]at e3 e4 hcs;rcases hcs with⟨hu,hgd,m1,m2⟩|⟨hu,hgd,k,m1,m2,m3,k2,m4,m5⟩|⟨hu,hgd,m1,m2⟩
 ·rw[af hu]at hk;rw[xz,hbad (by simp[hgd])]
  exact P7 (aN @l2 (aN @l3 (aN @l4 (aN @l5 (aN @e1 (aN @e2 (aN @e3 @e4))))))) @hk @hF @hp @m1 @m2 oT oT
 all_goals
  first|rw[ah hu]at hk|rw[af hu]at hk
  repeat' first|simp only[go_sem,seval,l2,l3,l4,l5,e1,e2,e3,e4]|refine cP hk ?_|refine cP hF ?_|refine cP hp ?_|refine cP m1 ?_|refine cP m2 ?_|refine cP m3 ?_|refine cP m4 ?_|refine cP m5 ?_|refine oE ?_|apply xX<;>intro hc
  obtain⟨nm,hnm⟩: ∃nm,nm=(if u=[]then 1074 else 1059):=⟨_,rfl⟩
  first|rw[ah hu]at hnm|rw[af hu]at hnm
  refine ak (α:=Nat) (fun j=>us.length-(j+1)) (fun j=>⟨[(1, .v (.sl (us.map (lP o c sl)))),(2, .v (.sl (w.map Zp))),(3, .v (.sl (ms.map Zp))),(4, .v (N ch)),(5, .p 1000 0 0),(12, .rs nm j 0 (j+1) 2),(28, .v (.sl (us.map cz))),(29,E' us.length),(30,E' (j+1))],[(1000,⟨0,[.v (.sl (gs.map dO)), .v (.sl (us.map cz)), .v (.sl (es.map c9.pv))],false,none⟩),(nm,⟨j,aT Zp ((dA o us ms w ch).take (j+1)),true,some 94⟩)],nm+4⟩) (fun j=>j+1<=us.length/\ ∀k,k<j+1->fM (us.getD k []) ((dA o us ms w ch).getD k 0) (lR o c sl (us.getD k []))=true) 0 (fun _=>by show _<=nm+4;rw[hnm];exact dr rfl) ⟨hpos,fun k hk=>hgk k hk (fun j hj=>oO) hgd⟩ ?_ ?_<;>subst hnm
  ·rw[r1,List.take_zero,show aT Zp ([]:List Int)=[]from rfl,List.nil_append]
   exact lE
  ·clear e1 e2 e3 e4 hk hgr hbad r1 hgk hgd m1 m2 hu0 hp
   first|clear m3 m4 m5|skip
   rintro j ⟨hj,hall⟩ R hR;have hlm:((dA o us ms w ch).take (j+1)).length=j+1:=by rw[cd];omega
   have q1:=cf rX ((dA o us ms w ch).take (j+1));have q2:=ct rX ((dA o us ms w ch).take (j+1));rw[hlm]at q1 q2
   by_cases hlt:j+1<us.length
   ·have e1:=getD_map cz us [] hlt;have e2:=getD_map (lP o c sl) us [] hlt;have e3:=getD_map Zp w 0 (i:=(j+1)) oO;have e4:=getD_map Zp ms 0 (i:=(j+1)) oO;have kb:=hb _ (au [] hlt);have hk:=pG (us.getD (j+1) []);have hx:=hI (j+1) hlt;have hp:=NG (x:=(ch:Int)) (y:=w.getD (j+1) 0) (by simpa using hch) hx.1
    have hgr:=qN (o:=o) (ms:=ms) (w:=w) (c:=ch) hlt;have hgk: ∀k,k<(j+1)+1->(∀q,q<(j+1)->fM (us.getD q []) ((dA o us ms w ch).getD q 0) (lR o c sl (us.getD q []))=true)->fM (us.getD (j+1) []) ((dA o us ms w ch).getD (j+1) 0) (lR o c sl (us.getD (j+1) []))=true->fM (us.getD k []) ((dA o us ms w ch).getD k 0) (lR o c sl (us.getD k []))=true:=fun k hk h1 h2=>by
     by_cases hkj:k<(j+1)
     ·exact h1 k hkj
     ·obtain rfl:k=(j+1):=oO;exact h2
    rw[hgr]at hgk;have hbad:=fun h: ¬fM (us.getD (j+1) []) ((dA o us ms w ch).getD (j+1) 0) (lR o c sl (us.getD (j+1) []))=true=>kS (p:=fun i=>fM (us.getD i []) ((dA o us ms w ch).getD i 0) (lR o c sl (us.getD i []))) hlt (dn.2 h)
    rw[<-vL,hgr]at hbad;have r1:=rS hlt;rw[hgr]at r1;have hcs:(us.getD (j+1) []≠[]/\fM (us.getD (j+1) []) (gv o (us.getD (j+1) []) (ms.getD (j+1) 0) (w.getD (j+1) 0) ch) (lR o c sl (us.getD (j+1) []))=false/\aE 304 [Z (ms.getD (j+1) 0),Z ((ch:Int)*w.getD (j+1) 0)] (.tup [Z (gv o (us.getD (j+1) []) (ms.getD (j+1) 0) (w.getD (j+1) 0) ch),E 0])/\aE 212 [cz (us.getD (j+1) []),Zp (gv o (us.getD (j+1) []) (ms.getD (j+1) 0) (w.getD (j+1) 0) ch),N (lR o c sl (us.getD (j+1) []))] (.b false))\/
      (us.getD (j+1) []=[]/\fM (us.getD (j+1) []) (gv o (us.getD (j+1) []) (ms.getD (j+1) 0) (w.getD (j+1) 0) ch) (lR o c sl (us.getD (j+1) []))=true/\ ∃k:Nat,aE 343 [Z ((ch:Int)*w.getD (j+1) 0),N (lM o c sl (us.getD (j+1) []))] (.tup [N k,E 0])/\aE 38 [N k] (Z k)/\aE 304 [Z (ms.getD (j+1) 0),Z k] (.tup [Z (ms.getD (j+1) 0+k),E 0])/\ ∃k2:Nat,aE 343 [Z (ms.getD (j+1) 0+k),N (lM o c sl (us.getD (j+1) []))] (.tup [N k2,E 0])/\aE 38 [N k2] (Z (gv o (us.getD (j+1) []) (ms.getD (j+1) 0) (w.getD (j+1) 0) ch)))\/
      (us.getD (j+1) []≠[]/\fM (us.getD (j+1) []) (gv o (us.getD (j+1) []) (ms.getD (j+1) 0) (w.getD (j+1) 0) ch) (lR o c sl (us.getD (j+1) []))=true/\aE 304 [Z (ms.getD (j+1) 0),Z ((ch:Int)*w.getD (j+1) 0)] (.tup [Z (gv o (us.getD (j+1) []) (ms.getD (j+1) 0) (w.getD (j+1) 0) ch),E 0])/\aE 212 [cz (us.getD (j+1) []),Zp (gv o (us.getD (j+1) []) (ms.getD (j+1) 0) (w.getD (j+1) 0) ch),N (lR o c sl (us.getD (j+1) []))] (.b true)):=by
     by_cases h:us.getD (j+1) []=[]
     ·exact .inr (.inl ⟨h,JG hol h64 (ho (by rw[<-h];exact au [] hlt)) h hx.2⟩)
     ·have h1:aE 304 [Z (ms.getD (j+1) 0),Z ((ch:Int)*w.getD (j+1) 0)] (.tup [Z (gv o (us.getD (j+1) []) (ms.getD (j+1) 0) (w.getD (j+1) 0) ch),E 0]):=by
       rw[gv,af h];exact Fu oO
      have h2:=xY (us.getD (j+1) []) (x:=gv o (us.getD (j+1) []) (ms.getD (j+1) 0) (w.getD (j+1) 0) ch) (L:=lR o c sl (us.getD (j+1) [])) (by rw[gv,af h];have:=yb (ms.getD (j+1) 0) (ch*w.getD (j+1) 0);omega) (zC hr lo kb.2)
      cases hin:fM (us.getD (j+1) []) (gv o (us.getD (j+1) []) (ms.getD (j+1) 0) (w.getD (j+1) 0) ch) (lR o c sl (us.getD (j+1) []))
      ·rw[hin]at h2;exact .inl ⟨h,rfl,h1,h2⟩
      ·rw[hin]at h2;exact .inr (.inr ⟨h,rfl,h1,h2⟩)
    clear hx kb;generalize gv o (us.getD (j+1) []) (ms.getD (j+1) 0) (w.getD (j+1) 0) ch=z at*;generalize hu0:us.getD (j+1) []=u at*;simp only[cz]at e1 hk hcs;simp only[lP]at e2;generalize lM o c sl u=M at*;generalize lR o c sl u=Rr at*;simp only[Zp,cI,fQ]at e3 e4 hcs;rcases hcs with⟨hu,hgd,m1,m2⟩|⟨hu,hgd,k,m1,m2,m3,k2,m4,m5⟩|⟨hu,hgd,m1,m2⟩
    ·rw[af hu]at hk;rw[xz,hbad (by simp[hgd])]
     clear hR hall hgk;exact P7 (aN @l2 (aN @l3 (aN @l4 (aN @l5 (aN @e1 (aN @e2 (aN @e3 (aN @e4 (aN @q1 @q2))))))))) @hk @hF @hp @m1 @m2 oT oT
    all_goals
     have hgo:=hR (j+1) ⟨oO,fun k hk=>hgk k hk hall hgd⟩ oO
     rw[r1]at hgo;clear hR hall hgk
     first|rw[ah hu]at hk|rw[af hu]at hk
     repeat' first|simp only[go_sem,seval,l2,l3,l4,l5,e1,e2,e3,e4,q1,q2]|refine cP hk ?_|refine cP hF ?_|refine cP hp ?_|refine cP m1 ?_|refine cP m2 ?_|refine cP m3 ?_|refine cP m4 ?_|refine cP m5 ?_|refine oE ?_|apply xX<;>intro hc
     refine hgo _ ?_;refine lG ?_;all_goals exact fun c hc=>by rcases hc with hc|rfl|rfl<;>first|exact cv hc|rfl
   ·have hjl:us.length=j+1:=oO;have hgood2:vL o c sl us (dA o us ms w ch)=true:=lu fun k hk=>hall k oO
    rw[xz,hgood2];have hT:(dA o us ms w ch).take (j+1)=dA o us ms w ch:=cZ oO;rw[hT]at q1 q2⊢;have q3:=dY rX (dA o us ms w ch);have q4:=de rX (dA o us ms w ch);rw[hrl,hjl]at q4;rw[hjl];clear hR;exact fP (aN @l2 (aN @hjl (aN @q1 (aN @q2 (aN @q3 (aN @q4 @ek))))))
theorem C8 {w:List Int} {n:Nat} {P:Int->Prop} (hwl:w.length=n) (h: ∀i,i<n->P (w.getD i 0)): ∀x∈w,P x:=fun x hx=>by
 obtain⟨j,hj,rfl⟩:=ia hx;have:=h j oO
 rwa[b9,cb hj]at this
theorem CY {w:List Int} (h:tY o us w=true) (hi:i<us.length):fM (us.getD i []) (w.getD i 0) (dV o (us.getD i []))=true:=bH.1 h i (fN.2 hi)
theorem ER (lo:o.length<=8) (lb:b.length<=16):dV o b<=dP:=by
 unfold dV;split
 ·exact jV (br (dS lo) uC)
 ·exact jV (Fz lb)
theorem GS {s:cG} (hp:u7 c sl s) {w ms:List Int} (hwl:w.length=s.vars.length) (hml:ms.length=s.vars.length) (hch:ch<num c) (hW:tY (bj s.groups) s.vars w=true) (hM: ∀i,i<s.vars.length->fM (s.vars.getD i []) (ms.getD i 0) (lM (bj s.groups) c sl (s.vars.getD i []))=true):
  aE 104 [.agg [.s c, .s sl],s.pv, .sl (w.map Zp), .sl (ms.map Zp),N ch] (xz (bj s.groups) c sl s.vars (dA (bj s.groups) s.vars ms w ch)):=by
 have hr:=hp.r;have hb:=hp.g.v;have nv:=hp.g.nv;have lo:=(dc hp.g.g).2;have hbo:=Az hp;have c8:=dS hr.lc;have h64:=kW;have h128:=uC;have hwb: ∀i,i<s.vars.length->(w.getD i 0).natAbs<dP:=fun i hi=>br (po (CY hW hi)).1 (ER lo (hb _ (au [] hi)).2)
 have hmb: ∀i,i<s.vars.length->(ms.getD i 0).natAbs<256^33:=fun i hi=>jn (po (hM i hi)).1 (C5 hr lo (hb _ (au [] hi)).2)
 have h33:256^33+(2^64)*dP+(2^64)<da:=by unfold da dP;decide+kernel
 have hwA: ∀x∈w,x.natAbs<da:=C8 hwl fun i hi=>br (hwb i hi) xD
 have hmA: ∀x∈ms,x.natAbs<da:=C8 hml fun i hi=>by have:=hmb i hi;omega
 have hv1:=Cr (w.map fQ) (by rw[aG];omega)
 have hv2:=Cr (ms.map fQ) (by rw[aG];omega)
 have hrg:=S4 hp.g hwl hwA;rw[Qg,l8 hwA]at hv1;rw[Qg,l8 hmA]at hv2;rw[hW]at hrg;have hn:=aI (bQ ch);rw[vB oO]at hn;have hcm:=EY (a:=ch) (b:=num c) oO oO;rw[dN hr.vc]at hcm;have hd: ∀ _:True,decide (aW ch (num c)>=0)=false:=fun _=>by rw[Fm,aU hch];rfl
 have hre:=Pa hp hwl hml (ch:=ch) oO (fun i hi=>by
  refine⟨hwb i hi,?_⟩;have h1:=hmb i hi;have h2:((ch:Int)*w.getD i 0).natAbs<=(2^64)*dP:=by
   rw[jg,Int.natAbs_natCast];exact jZ oO (jV (hwb i hi))
  omega)
 have hmL: ∀i,i<s.vars.length->aE 212 [cz (s.vars.getD i []),Zp (ms.getD i 0),N (lM (bj s.groups) c sl (s.vars.getD i []))] (.b true):=fun i hi=>by
  have:=xY (s.vars.getD i []) (x:=ms.getD i 0) (L:=lM (bj s.groups) c sl (s.vars.getD i [])) (by have:=hmb i hi;omega) (N9 hr lo (hb _ (au [] hi)).2)
  rwa[hM i hi]at this
 generalize aW ch (num c)=cm at*;generalize dA (bj s.groups) s.vars ms w ch=rs at*;unfold xz at*;obtain⟨gs,us,es⟩:=s;simp only at nv hwl hml hmL hre hbo⊢;generalize bj gs=o at*;have l2:(us.map cz).length=us.length:=aG ..;have l3:(us.map (lP o c sl)).length=us.length:=aG ..;have l4:(w.map Zp).length=us.length:=by rw[aG];exact hwl
 have l5:(ms.map Zp).length=us.length:=by rw[aG];exact hml
 clear hW hwb hmb hM hwA hmA h33 h64 hb hp hr;unfold cG.pv at*;simp only at*;refine eW call104 func104 ?_;refine P8 (aN @l2 (aN @l4 (aN @l5 (hd oT)))) @hbo @hv1 @hv2 @hn @hcm @hrg oT ?_;refine ak (α:=Nat) (fun i=>us.length-i) (fun i=>⟨[(2, .v (.sl (w.map Zp))),(3, .v (.sl (ms.map Zp))),(4, .v (N ch)),(6, .p 1001 0 0),(12, .v (.sl (us.map (lP o c sl)))),(68, .v (.sl (us.map cz))),(69,E' us.length),(70,E' i)],[(1001,⟨0,[.v (.sl (gs.map dO)), .v (.sl (us.map cz)), .v (.sl (es.map c9.pv))],false,none⟩)],_⟩) (fun i=>i<=us.length) 0 (fun _=>aD _) (aO _) ?_ ?_
 ·exact lE
 ·intro i hi R hR
  by_cases hlt:i<us.length
  ·have hgo:=hR (i+1) oO oO;have e1:=getD_map cz us [] hlt;have e2:=getD_map (lP o c sl) us [] hlt;have e4:=getD_map Zp ms 0 (i:=i) oO;have hc:=hmL i hlt;clear hR hmL hre hv1 hv2;simp only[lP]at e2;generalize lM o c sl (us.getD i [])=M at*;generalize us.getD i []=u at*;generalize ms.getD i 0=x at*;simp only[cz]at e1 hc;simp only[Zp,cI,fQ]at e4 hc;exact js (aN @l2 (aN @l3 (aN @l5 (aN @e1 (aN @e2 @e4))))) @hgo @hc
  ·obtain rfl:i=us.length:=oO;clear hR hmL;generalize vL o c sl us rs=b at*;cases b
   ·exact z1 @hre
   ·exact z1 @hre
