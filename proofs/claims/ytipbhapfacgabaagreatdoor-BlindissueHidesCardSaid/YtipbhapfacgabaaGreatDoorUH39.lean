/- Part of the proof. -/
import Derived.Test.YtipbhapfacgabaaGreatDoorUH38
import Derived.Test.YtipbhapfacgabaaGreatDoorUH37
set_option linter.all false
set_option maxHeartbeats 16000000
set_option maxRecDepth 100000
namespace Go.Proofs.Tryz
open Go Go.Dom
theorem Gl {a b:Bytes} (ha:aa a=true) (hb:aa b=true) (h0:0<num b):aF 222 [.s a, .s b] (.tup [N (num a/num b),N (num a%num b)]):=by
 by_cases h:a.length<=8\/num a<num b
 ·exact uy ha hb h0 h
 ·exact JU ha hb h0 oO oO
theorem Pk {a b:Nat} (ha:a<dP) (hb:b<dP) (h0:0<b):aF 132 [N a,N b] (.tup [N (a/b),N (a%b),E 0]):=by
 have va:=kx ha;have vb:=kx hb;have hd:=Gl va vb (by rw[aP];exact h0)
 have v1:=aD (aZ a);have v2:=aD (aZ b);have hz:=yQ (n:=b) oO;rw[va]at v1;rw[vb]at v2;rw[aP,aP]at hd;refine eW call132 func132 ?_;exact zW @hz @v1 @v2 @hd oT
end Go.Proofs.Tryz
namespace Go.Proofs.Tryz
open Go Go.Dom Go.Num
variable {L ch i:Nat} {b c o sd sl:Bytes} {e x:Int} {us vs:List Bytes}
def nR (o c sl:Bytes) (vs:List Bytes) (sd b:Bytes) (i:Nat):Except Int Int:=
 if b=[]then(match jc vs sd i o with
  | .error e=> .error e
  | .ok x=> .ok (num x:Int))else vK vs sd i (yB c sl b)
def mA (o c sl:Bytes) (vs:List Bytes) (sd:Bytes):List Bytes->Nat->List Int->Except Int (List Int)
 |[],_,acc=> .ok acc
 |b::us,i,acc=>match nR o c sl vs sd b i with
  | .error e=> .error e
  | .ok z=>mA o c sl vs sd us (i+1) (acc++[z])
theorem yc (h:nR o c sl vs sd b i= .error e):e=2\/e=14:=by
 unfold nR at h
 split at h
 ·split at h
  ·rename_i e' he;injection h with h
   subst h;exact qg he
  ·cases h
 ·exact Lb h
theorem yL: ∀{us:List Bytes} {i:Nat} {acc:List Int},mA o c sl vs sd us i acc= .error e->e=2\/e=14:=by
 intro us
 induction us with
 |nil=>intro i acc h;cases h
 |cons b us ih=>
  intro i acc h;rw[mA]at h
  split at h
  ·rename_i e' he;injection h with h
   subst h;exact yc he
  ·exact ih h
theorem Iw (h:o.length<=8):num o<dP:=ba (cU h) (by unfold dP;decide+kernel)
theorem SS (hr:r9 c sl) (lo:o.length<=8) (lb:b.length<=16):lM o c sl b<dP:=by
 unfold lM;split
 ·exact Iw lo
 ·exact Cp hr lb
theorem B1 {z:Int} (hr:r9 c sl) (vo:aa o=true) (hb:aa b=true/\b.length<=16) (hv:vs.all aa=true) (hl:vs.length<1000000) (hi:i<=2147483647) (h:nR o c sl vs sd b i= .ok z):je b z (lM o c sl b)=true/\i+1<=2147483647:=by
 unfold nR at h
 split at h
 ·rename_i hb0
  split at h
  ·cases h
  ·rename_i x hx;injection h with h
   subst h;obtain⟨-,h2,h3⟩:=nQ hv vo hl hi hx;refine⟨?_,h3⟩;simp only[je,lM,hb0,aA,aV,bc,dC,cB,kS,decide_true];omega
 ·rename_i hb0;have hm:=Cq hr hb.1 hb0 hb.2;obtain⟨h2,h3⟩:=OG hv hm.1 oO hl hi h;refine⟨?_,h3⟩;simp only[je,lM,hb0,ak,decide_false,fp,db,js,bc];exact h2
theorem Q6 (hr:r9 c sl) (vo:aa o=true) (hv:vs.all aa=true) (hl:vs.length<1000000): ∀(us:List Bytes) (i:Nat) (acc l:List Int),(∀b∈us,aa b=true/\b.length<=16)->i<=2147483647->mA o c sl vs sd us i acc= .ok l-> ∃r,l=acc++r/\r.length=us.length/\(∀j,j<us.length->je (us.getD j []) (r.getD j 0) (lM o c sl (us.getD j []))=true)/\i+us.length<=2147483647:=by
 intro us
 induction us with
 |nil=>intro i acc l _ hi h;injection h with h;exact⟨[],by simp[h],rfl,(fun j hj=>(tB _ hj).elim),hi⟩
 |cons b us ih=>
  intro i acc l hb hi h;rw[mA]at h
  split at h
  ·cases h
  ·rename_i z hz;obtain⟨h3,h4⟩:=B1 hr vo (hb b (.head _)) hv hl hi hz;obtain⟨r,h5,h6,h7,h8⟩:=ih _ _ _ (fun b' hm=>hb b' (.tail _ hm)) h4 h
   refine⟨z::r,by rw[h5];simp,by simp[h6],?_,by simp;omega⟩
   intro j hj
   cases j with
   |zero=>exact h3
   |succ j=>exact h7 j (by simpa using hj)
theorem Ci (h:je b x L=true):x.natAbs<L/\(b=[]->0<=x):=by
 simp only[je,aV,bc,dC,Bool.and_eq_false_imp,kS]at h;exact⟨h.1,fun hb=>by have:=h.2 hb;omega⟩
theorem yM {s:cY} (hp:DP c sl s) (hv:vs.all aa=true) (hi:i<=2147483647) (hl:vs.length<1000000) {ms:List Int} (h:mA (bZ s.groups) c sl vs sd s.vars i []= .ok ms):
  ms.length=s.vars.length/\(∀j,j<s.vars.length->je (s.vars.getD j []) (ms.getD j 0) (lM (bZ s.groups) c sl (s.vars.getD j []))=true)/\i+s.vars.length<=2147483647/\ ∀x∈ms,x.natAbs<dP:=by
 have ho:=fM hp.g.g;obtain⟨r,h1,h2,h3,h4⟩:=Q6 hp.r ho.1 hv hl _ _ _ _ hp.g.v hi h;rw[List.nil_append]at h1;subst h1;refine⟨h2,h3,h4,fun x hx=> ?_⟩
 obtain⟨j,hj,rfl⟩:=iv hx;have:=(Ci (h3 j oO)).1;rw[bR,bG hj]at this;exact gj this (SS hp.r ho.2 (hp.g.v _ (aG [] oO)).2)
theorem U9 {a:Bytes} (h:a.length<=16):num a<256^16:=ba (cu a) (cW oC h)
theorem WX {s:cY} (hs:DZ s) {w:List Int} (hwl:w.length=s.vars.length) (hw: ∀x∈w,x.natAbs<256^100):WS s w:=by
 intro q hq t ht;obtain⟨t1,t2,t3,t4⟩:=(hs.q q hq).2.2.2.2 t ht;have hl:=((hs.b.q q hq).2 t ht);have hx:=hw _ (aG 0 (show t.var.toNat<w.length by omega))
 refine⟨t1,oO,t4,gj hx (by unfold dP;exact Dw oC oC),?_⟩
 rw[DJ];refine dD (jq (kB (U9 hl)) (kB hx)) ?_;unfold dP;rw[<-cF];exact Dw oC oC
theorem Nt (hr:r9 c sl) (lo:o.length<=8) (lb:b.length<=16):lM o c sl b<256^33:=by
 unfold lM;split
 ·exact ba (cU lo) (by decide+kernel)
 ·have h1:num sl*num c<(2^64)*(2^64):=gK (cU hr.ls) (cU hr.lc);have h2:yB c sl b<(2^64)*(2^64)*gN:=gK h1 (Iv lb);exact ba h2 (by unfold gN;decide+kernel)
theorem Qt {s:cY} (hp:DP c sl s) (ho:[]∈s.vars->bZ s.groups≠[]) (hv:vs.all aa=true) (hi:i<=2147483647) (hl:vs.length<1000000) (hsd:sd.length<1000000):
  aF 179 [s.pv, .sl (s.vars.map (lP (bZ s.groups) c sl)),T vs sd i] (Nz vs sd (i+s.vars.length) (mA (bZ s.groups) c sl vs sd s.vars i [])):=by
 have hb:=hp.g.v;have nv:=hp.g.nv;have hr:=hp.r;have vo:=(fM hp.g.g).1;obtain⟨gs,us,es⟩:=s;simp only at hb nv ho vo⊢;clear hp;generalize bZ gs=o at*;have l2:(us.map dE).length=us.length:=aR ..;have l3:(us.map (lP o c sl)).length=us.length:=aR ..;obtain⟨R0,hR0⟩: ∃R0,R0=mA o c sl vs sd (us.drop 0) i []:=⟨_,rfl⟩;rw[show mA o c sl vs sd us i []=mA o c sl vs sd (us.drop 0) i []from rfl,<-hR0]
 unfold cY.pv;simp only
 by_cases hpos:0<us.length
 rotate_left
 ·obtain rfl:us=[]:=iZ.1 oO;rw[List.drop_nil,mA]at hR0;subst hR0;refine eW call179 func179 ?_;exact Tg
 refine eW call179 func179 ?_;refine fq @l2 ?_;refine aj ?_;have hz0:0<us.length:=hpos;have e1:=getD_map dE us [] hpos;have e2:=getD_map (lP o c sl) us [] hpos;have kb:=hb _ (aG [] hpos);have hk:=oW (us.getD 0 []);have hdo:=fun hi z (h:nR o c sl vs sd (us.getD 0 []) i= .ok z)=>(B1 (i:=i) hr vo kb hv hl hi h).2
 have hcs:(us.getD 0 []=[]/\ ∀ _:i<=2147483647,aF 40 [T vs sd (i:Nat),N (lM o c sl (us.getD 0 []))] (match nR o c sl vs sd (us.getD 0 []) i with
   | .ok z=> .tup [.s (zb z),T vs sd ((i+1:Nat):Int),E 0]
   | .error e=> .tup [.s [],T [] [] 0,E e])/\ ∀z,nR o c sl vs sd (us.getD 0 []) i= .ok z->zs z=false)\/(us.getD 0 []≠[]/\ ∀ _:i<=2147483647,aF 261 [T vs sd (i:Nat),N (lM o c sl (us.getD 0 []))] (sY vs sd i (nR o c sl vs sd (us.getD 0 []) i))):=by
  by_cases h:us.getD 0 []=[]
  ·refine .inl ⟨h,fun hi=> ?_⟩
   have hbl:=nI (sd:=sd) (n:=o) hv vo (ho (by rw[<-h];exact aG [] hpos)) hi hl hsd
   rw[lM,ah h,eT vo];unfold nR;rw[ah h]
   cases hd:jc vs sd (i) o with
   |error e=>
    rw[hd]at hbl;exact⟨hbl,fun z hz=>by cases hz⟩
   |ok x=>
    have hx:=(nQ hv vo hl hi hd).1;rw[hd]at hbl;refine⟨?_,fun z hz=>by dsimp only at hz;injection hz with hz;subst hz;simp[zs]⟩
    dsimp only;rw[show zb (num x:Int)=x from by rw[zb,Int.natAbs_natCast];exact eU hx]
    exact hbl
  ·have hm:=Cq hr kb.1 h kb.2;refine .inr ⟨h,fun hi=> ?_⟩
   rw[lM,af h,nR,af h];exact Aw (vs:=vs) (sd:=sd) (i:=i) hv hi hl hsd hm.1 hm.2
 rw[bL [] hpos,mA]at hR0;clear kb;generalize us.getD 0 []=u at*;simp only[dE]at e1 hk;simp only[lP]at e2;generalize lM o c sl u=M at*;generalize lR o c sl u=Rr at*;rcases hcs with⟨hu,hg⟩|⟨hu,hg⟩
 all_goals
  first|rw[ah hu]at hk|rw[af hu]at hk
  have hg:=hg hi
  cases hsg:nR o c sl vs sd u i with
  |error e=>
   rw[hsg]at hg hR0;simp only[sY]at hg hR0;have he:(e !=0)=true:=by rcases yc hsg with rfl|rfl<;>rfl
   subst hR0
   first
    |have hg:=hg.1
    |skip
   exact wq (aN @l2 (aN @l3 (aN @e1 (aN @e2 @he)))) @hk @hg
  |ok z=>
   have hsi:i+(0+1)<=2147483647:=hdo hi z hsg;rw[hsg]at hg hR0;simp only[sY]at hg hR0
   first
    |(have hzz:=hg.2 z rfl
      have hg:=hg.1)
    |have hzz:zs z=zs z:=rfl
   refine zS (aN @l2 (aN @l3 (aN @e1 @e2))) @hk @hg ?_;obtain⟨nm,hnm⟩: ∃nm,nm=(if u=[]then 1042 else 1041):=⟨_,rfl⟩
   first|rw[ah hu]at hnm|rw[af hu]at hnm
   clear e1 e2 hk hg hdo hu;refine aq (α:=Nat×List Int) (fun p=>us.length-(p.1+1)) (fun p=>⟨[(1, .v (.sl (us.map (lP o c sl)))),(3, .p 1000 0 0),(5, .p 1001 0 0),(7, .p 1003 0 0),(9, .rs nm p.1 0 (p.1+1) 2),(15, .v (.sl (us.map dE))),(16,E' us.length),(17,E' (p.1+1))],[(1000,⟨0,[.v (.sl (gs.map gV)), .v (.sl (us.map dE)), .v (.sl (es.map dS.pv))],false,none⟩),(1001,⟨0,[.v (.sl (vs.map .s)), .v (.s sd), .v (.i .i64 ((i+(p.1+1):Nat):Int))],false,none⟩),(1003,⟨0,[.sn, .v (.s []), .v (.i .i64 0)],false,some 56⟩),(nm,⟨p.1,bI Zp p.2,true,some 94⟩)],1045⟩) (fun p=>p.1+1<=us.length/\p.2.length=p.1+1/\i+(p.1+1)<=2147483647/\R0=mA o c sl vs sd (us.drop (p.1+1)) (i+(p.1+1)) p.2) (0,[z]) (fun _=>fk rfl) ⟨hpos,rfl,hsi,hR0⟩ ?_ ?_<;>subst hnm
   ·refine lG ?_;all_goals exact⟨by first|rfl|(rw[<-hzz];rfl),fun c hc=>cf hc⟩
   ·clear hzz hR0 hsi;rintro⟨j,ms⟩ ⟨hj,hlm,hij,hR0⟩ R hR;simp only at hj hlm hij hR0;have q1:=dw FQ ms;have q2:=eD FQ ms;rw[hlm]at q1 q2
    by_cases hlt:j+1<us.length
    ·have e1:=getD_map dE us [] hlt;have e2:=getD_map (lP o c sl) us [] hlt;have kb:=hb _ (aG [] hlt);have hk:=oW (us.getD (j+1) []);have hdo:=fun hi z (h:nR o c sl vs sd (us.getD (j+1) []) (i+(j+1))= .ok z)=>(B1 (i:=(i+(j+1))) hr vo kb hv hl hi h).2
     have hcs:(us.getD (j+1) []=[]/\ ∀ _:(i+(j+1))<=2147483647,aF 40 [T vs sd ((i+(j+1)):Nat),N (lM o c sl (us.getD (j+1) []))] (match nR o c sl vs sd (us.getD (j+1) []) (i+(j+1))with
       | .ok z=> .tup [.s (zb z),T vs sd (((i+(j+1))+1:Nat):Int),E 0]
       | .error e=> .tup [.s [],T [] [] 0,E e])/\ ∀z,nR o c sl vs sd (us.getD (j+1) []) (i+(j+1))= .ok z->zs z=false)\/(us.getD (j+1) []≠[]/\ ∀ _:(i+(j+1))<=2147483647,aF 261 [T vs sd ((i+(j+1)):Nat),N (lM o c sl (us.getD (j+1) []))] (sY vs sd (i+(j+1)) (nR o c sl vs sd (us.getD (j+1) []) (i+(j+1))))):=by
      by_cases h:us.getD (j+1) []=[]
      ·refine .inl ⟨h,fun hi=> ?_⟩
       have hbl:=nI (sd:=sd) (n:=o) hv vo (ho (by rw[<-h];exact aG [] hlt)) hi hl hsd
       rw[lM,ah h,eT vo];unfold nR;rw[ah h]
       cases hd:jc vs sd ((i+(j+1))) o with
       |error e=>
        rw[hd]at hbl;exact⟨hbl,fun z hz=>by cases hz⟩
       |ok x=>
        have hx:=(nQ hv vo hl hi hd).1;rw[hd]at hbl;refine⟨?_,fun z hz=>by dsimp only at hz;injection hz with hz;subst hz;simp[zs]⟩
        dsimp only;rw[show zb (num x:Int)=x from by rw[zb,Int.natAbs_natCast];exact eU hx]
        exact hbl
      ·have hm:=Cq hr kb.1 h kb.2;refine .inr ⟨h,fun hi=> ?_⟩
       rw[lM,af h,nR,af h];exact Aw (vs:=vs) (sd:=sd) (i:=(i+(j+1))) hv hi hl hsd hm.1 hm.2
     rw[bL [] hlt,mA]at hR0;clear kb;generalize us.getD (j+1) []=u at*;simp only[dE]at e1 hk;simp only[lP]at e2;generalize lM o c sl u=M at*;generalize lR o c sl u=Rr at*;rcases hcs with⟨hu,hg⟩|⟨hu,hg⟩
     all_goals
      first|rw[ah hu]at hk|rw[af hu]at hk
      have hg:=hg hij
      cases hsg:nR o c sl vs sd u (i+(j+1))with
      |error e=>
       rw[hsg]at hg hR0;simp only[sY]at hg hR0;have he:(e !=0)=true:=by rcases yc hsg with rfl|rfl<;>rfl
       subst hR0;clear hR
       first
        |have hg:=hg.1
        |skip
       exact wq (aN @l2 (aN @l3 (aN @e1 (aN @e2 (aN @he (aN @q1 @q2)))))) @hk @hg
      |ok y=>
       have hsi:i+(j+1+1)<=2147483647:=hdo hij y hsg;rw[hsg]at hg hR0;simp only[sY]at hg hR0;have hgo:=hR (j+1,ms++[y]) ⟨oO,by simp[hlm],hsi,hR0⟩ (by simp only;omega)
       simp only[Jk]at hgo
       first
        |(have hzz:=hg.2 y rfl
          have hg:=hg.1;rw[hzz]at hgo)
        |skip
       clear hR;refine zS (aN @l2 (aN @l3 (aN @e1 (aN @e2 (aN @q1 @q2))))) @hk @hg ?_;refine hgo _ ?_;refine lG ?_;all_goals exact⟨oO,fun c hc=>by rcases hc with hc|rfl|rfl<;>first|exact cf hc|rfl⟩
    ·have hjl:us.length=j+1:=oO;rw[jM oO]at hR0;simp only[mA]at hR0;subst hR0;have q3:=gH FQ ms;have q4:=eC FQ ms;rw[hlm]at q4;rw[hjl];clear hR;exact oo (aN @l2 (aN @hjl (aN @q1 (aN @q2 (aN @q3 (aN @q4 @gI))))))
noncomputable def Mv (s:cY) (vs:List Bytes) (sd:Bytes) (j:Nat):Except Int (List Int)->PV
 | .ok ms=> .tup [.sl (ms.map Zp), .sl ((sG s ms).map .s),T vs sd j,E 0]
 | .error e=> .tup [.sl [], .sl [],T [] [] 0,E e]
theorem Co {s:cY} (h:DZ s) (hv:[]∈s.vars):bZ s.groups≠[]:=by
 have hk:=h.k;unfold EL at hk;rw[nj.2 ⟨[],hv,rfl⟩]at hk;simp only[cQ,kE,aV,dC,dY]at hk;exact hk.1.1
theorem Jm {s:cY} (hp:DP c sl s) (hv:vs.all aa=true) (hi:i<=2147483647) (hl:vs.length<1000000) (hsd:sd.length<1000000):
  aF 100 [.agg [.s c, .s sl],s.pv,T vs sd i] (Mv s vs sd (i+s.vars.length) (mA (bZ s.groups) c sl vs sd s.vars i [])):=by
 have hb:=zE hp;have hd:=Qt hp (Co hp.g) (vs:=vs) (sd:=sd) (i:=i) hv hi hl hsd
 cases hR:mA (bZ s.groups) c sl vs sd s.vars i []with
 |error e=>
  have he:(e !=0)=true:=by rcases yL hR with rfl|rfl<;>rfl
  rw[hR]at hd;obtain⟨gs,us,es⟩:=s;simp only[Nz,Mv,cY.pv]at hb hd⊢;refine eW call100 func100 ?_;exact wq @he @hb @hd
 |ok ms=>
  obtain⟨f1,f2,f3,f4⟩:=yM hp hv hi hl hR;have hm:=Pn hp.g f1 f4 (WX hp.g f1 fun x hx=>by
   obtain⟨j,hj,rfl⟩:=iv hx;have:=(Ci (f2 j oO)).1;rw[bR,bG hj]at this;exact gj (gj this (Nt hp.r (fM hp.g.g).2 (hp.g.v _ (aG [] oO)).2)) (Dw oC oC))
  rw[hR]at hd;simp only[Nz,Mv]at hd⊢;generalize sG s ms=L at*;obtain⟨gs,us,es⟩:=s;simp only[cY.pv]at hb hd hm⊢;refine eW call100 func100 ?_;exact z4 @hb @hd @hm oT
theorem Q8 {a m:Nat} (hm:0<m):(-(a:Int))%m=if a%m=0 then 0 else((m-a%m:Nat):Int):=by
 have h1:=iY a m;have h2:=aL a hm;split
 ·rename_i h;refine((Db (a:= -(a:Int)) (b:=m) (r:=0) (q:= -((a/m:Nat):Int)) oO).2 ⟨?_,oO,oO⟩).2;have:(a:Int)=m*(a/m:Nat):=by rw[<-Int.natCast_mul];omega
  rw[qw,<-this];omega
 ·rename_i h;refine((Db (a:= -(a:Int)) (b:=m) (r:=((m-a%m:Nat):Int)) (q:= -((a/m:Nat):Int)-1) oO).2 ⟨?_,oO,oO⟩).2;have:(m:Int)*(a/m:Nat)+(a%m:Nat)=a:=by rw[<-Int.natCast_mul];omega
  rw[qB,qw,Int.mul_one];omega
theorem SL {m:Nat} (hx:x.natAbs<dP) (hm:m<dP) (h0:0<m):aF 281 [Z x,N m] (.tup [N (x%m).toNat,E 0]):=by
 have v1:=CX hx;have v2:=aD (aZ m);rw[vB hm]at v2;have hd:=Pk hx hm h0;have hlt:=aL x.natAbs h0;have hs:=Al (a:=m) (b:=x.natAbs%m) oO hm;have hmb:(aZ m==([]:Bytes))=false:=by
  rw[dY,ne_eq,gR];omega
 have hr:(x%m).toNat=if x<0/\x.natAbs%m≠0 then m-x.natAbs%m else x.natAbs%m:=by
  by_cases hn:x<0
  ·have e:x= -(x.natAbs:Int):=oO;have h:=Q8 (a:=x.natAbs) h0;rw[<-e]at h;rw[h];split
   ·rename_i g;rw[af (by simp[g])];omega
   ·rename_i g;rw[ah ⟨hn,g⟩];omega
  ·rw[af (by simp[hn])]
   have e:x=(x.natAbs:Int):=oO
   conv=>lhs;rw[e]
   rw[<-Int.natCast_emod,Int.toNat_natCast]
 rw[hr];have hbb: ∀ _:True,(aZ (x.natAbs%m)==([]:Bytes))=decide (x.natAbs%m=0):=fun _=>by
  rw[cI,dZ,gR,bc]
 generalize x.natAbs%m=r at*;have hzs:zs x=decide (x<0):=rfl;clear hx hlt hr;unfold Z at v1⊢
 by_cases h1:x<0
 ·rw[aS h1]at hzs;rw[hzs]at v1⊢
  by_cases h2:r=0
  ·rw[aS h2]at hbb;rw[af (by simp[h2])]
   refine eW call281 func281 ?_;exact zW (aN @hmb (hbb oT)) @v1 @v2 @hd @hs
  ·rw[b9 h2]at hbb;rw[ah ⟨h1,h2⟩];refine eW call281 func281 ?_;exact zW (aN @hmb (hbb oT)) @v1 @v2 @hd @hs
 ·rw[b9 h1]at hzs;rw[hzs]at v1⊢;rw[af (by simp[h1])]
  refine eW call281 func281 ?_;exact zW @hmb @v1 @v2 @hd @hs
theorem wN (b:Bytes) (hx:x.natAbs<dP) (hL:L<dP):aF 193 [dE b,Zp x,N L] (.b (je b x L)):=by
 have hk:=oW b;have hc:=Ef hx hL;have hd: ∀ _:True,decide (bK x.natAbs L<0)=decide (x.natAbs<L):=fun _=>by rw[cI];simp only[bc];exact ji
 generalize bK x.natAbs L=cm at*;have hzs:zs x=decide (x<0):=rfl;rw[show N x.natAbs= .s (zb x)from rfl]at hc
 unfold je;generalize decide (x.natAbs<L)=p at*;generalize decide (x<0)=q at*;simp only[Zp,fw,jB]
 by_cases hb:b=[]
 ·rw[ah hb]at hk;rw[aS hb,cB];unfold dE at hk⊢;refine eW call193 func193 ?_;exact Sn (aN (hd oT) @hzs) @hc @hk
 ·rw[af hb]at hk;rw[b9 hb,fp];unfold dE at hk⊢;refine eW call193 func193 ?_;exact Sn (aN (hd oT) @hzs) @hc @hk
theorem RS {s:cY} (hs:DZ s) {w:List Int} (hwl:w.length=s.vars.length) (hw: ∀x∈w,x.natAbs<dP):aF 192 [s.pv, .sl (w.map Zp)] (.b (Ag (bZ s.groups) s.vars w)):=by
 have hv:=hs.v;have nv:=hs.nv;have hor:=BA s (by have:=hs.ng;omega)
 have hoV:=fM hs.g;obtain⟨gs,vs,es⟩:=s;simp only at hv hwl nv hor hoV⊢;have l2:(vs.map dE).length=vs.length:=aR ..;have l5:(w.map Zp).length=vs.length:=by rw[aR];exact hwl
 generalize bZ gs=oq at*;unfold cY.pv at*;simp only at*;refine eW call192 func192 ?_;refine Hx @l2 @hor ?_;refine aq (α:=Nat) (fun i=>vs.length-i) (fun i=>⟨[(1, .v (.sl (w.map Zp))),(2, .p 1000 0 0),(5, .v (.s oq)),(12, .v (.sl (vs.map dE))),(13,E' vs.length),(14,E' i)],[(1000,⟨0,[.v (.sl (gs.map gV)), .v (.sl (vs.map dE)), .v (.sl (es.map dS.pv))],false,none⟩)],_⟩) (fun i=>i<=vs.length/\ ∀j,j<i->je (vs.getD j []) (w.getD j 0) (fH oq (vs.getD j []))=true) 0 (fun _=>aB _) ⟨aT _,fun j hj=>oO⟩ ?_ ?_
 ·exact lE
 ·rintro i ⟨hi,hall⟩ R hR
  by_cases hlt:i<vs.length
  ·have e1:=getD_map dE vs [] hlt;have e2:=getD_map Zp w 0 (i:=i) oO;have kb:=hv _ (aG [] hlt);have kw:=hw _ (aG 0 (show i<w.length by omega))
   have hgo:=fun h=>hR (i+1) ⟨oO,h⟩ oO
   have hbad:=fun h: ¬je (vs.getD i []) (w.getD i 0) (fH oq (vs.getD i []))=true=>ow (p:=fun i=>je (vs.getD i []) (w.getD i 0) (fH oq (vs.getD i []))) hlt (dA.2 h)
   have hnx:je (vs.getD i []) (w.getD i 0) (fH oq (vs.getD i []))=true-> ∀j,j<i+1->je (vs.getD j []) (w.getD j 0) (fH oq (vs.getD j []))=true:=fun h j hj=>by
    by_cases hji:j<i
    ·exact hall j hji
    ·obtain rfl:j=i:=oO;exact h
   rw[<-Ag]at hbad;clear hR hall;generalize vs.getD i []=b at*;generalize w.getD i 0=x at*;have hz:=(rz kw);simp only[jB,dh,aV]at hz;clear hz;have hk:=oW b;have hlm:fH oq b<dP:=by unfold fH;split;exact Iw hoV.2;exact oH kb.1
   have hc:=wN b kw hlm;have hbl:(b=[]/\N (fH oq b)= .s oq)\/(b≠[]/\N (fH oq b)= .s b):=by
    by_cases h:b=[]
    ·exact .inl ⟨h,by rw[fH,ah h];exact eT hoV.1⟩
    ·exact .inr ⟨h,by rw[fH,af h];exact eT kb.1⟩
   clear kb kw hlm;generalize hp:je b x (fH oq b)=p at*;simp only[dE]at e1 hk hc;simp only[Zp,fw,jB]at e2 hc;rcases hbl with⟨hb,hL⟩|⟨hb,hL⟩
   all_goals
    first|rw[ah hb]at hk|rw[af hb]at hk
    rw[hL]at hc;cases p
    ·rw[hbad (by simp)]
     exact wq (aN @l2 (aN @l5 (aN @e1 @e2))) @hk @hc
    ·have hgo:=hgo (hnx rfl);exact DM (aN @l2 (aN @l5 (aN @e1 @e2))) @hgo @hk @hc
  ·obtain rfl:i=vs.length:=oO;have hg:Ag oq vs w=true:=nM fun j hj=>hall j hj
   rw[hg];exact z0
def iS (o b:Bytes) (m w:Int) (c:Nat):Int:=if b=[]then(m+c*w)%num o else m+c*w
def fR (o:Bytes) (us:List Bytes) (ms w:List Int) (c:Nat):List Int:=(List.range us.length).map fun i=>iS o (us.getD i []) (ms.getD i 0) (w.getD i 0) c
theorem sS (o:Bytes) (us:List Bytes) (ms w:List Int) (c:Nat):(fR o us ms w c).length=us.length:=by simp[fR]
theorem zA {ms w:List Int} {c:Nat} (h:i<us.length):(fR o us ms w c).getD i 0=iS o (us.getD i []) (ms.getD i 0) (w.getD i 0) c:=by
 simp[fR,bR,h]
def Cj (o c sl:Bytes) (us:List Bytes) (rs:List Int):Bool:=(List.range us.length).all fun i=>je (us.getD i []) (rs.getD i 0) (lR o c sl (us.getD i []))
def Hc (o c sl:Bytes) (us:List Bytes) (rs:List Int):PV:=if Cj o c sl us rs then .tup [.sl (rs.map Zp),E 0]else .tup [.sl [],E 15]
theorem Ij (hr:r9 c sl) (lo:o.length<=8) (lb:b.length<=16):lR o c sl b<dP:=by
 unfold lR;split
 ·exact Iw lo
 ·exact QW hr lb
theorem I1 {m w:Int} (hol:num o<dP) (h64:num o<(2^64)) (h0:0<num o) (h:b=[]) (hx:m.natAbs+((ch:Int)*w).natAbs+(2^64)<dP):
  je b (iS o b m w ch) (lR o c sl b)=true/\ ∃k:Nat,aF 281 [Z ((ch:Int)*w),N (lM o c sl b)] (.tup [N k,E 0])/\aF 41 [N k] (Z k)/\aF 242 [Z m,Z k] (.tup [Z (m+k),E 0])/\ ∃k2:Nat,aF 281 [Z (m+k),N (lM o c sl b)] (.tup [N k2,E 0])/\aF 41 [N k2] (Z (iS o b m w ch)):=by
 subst h;have g1:=oZ ((ch:Int)*w) (b:=num o) oO;have g2:=qE ((ch:Int)*w) (b:=num o) oO;have g3:=oZ (m+ch*w) (b:=num o) oO;have g4:=qE (m+ch*w) (b:=num o) oO;simp only[lM,lR,iS,aA];refine⟨?_,((ch:Int)*w%num o).toNat,SL oO hol h0,Au oO,EI oO,((m+ch*w)%num o).toNat,?_,?_⟩
 ·simp only[je,aV,bc,decide_true,cB,dC,kS];omega
 ·have:=SL (x:=m+(((ch:Int)*w%num o).toNat:Int)) (m:=num o) oO hol h0;rw[o9 g1,Int.add_emod_emod]at this;rw[o9 g1];exact this
 ·have:=Au (n:=((m+ch*w)%num o).toNat) oO
  rwa[o9 g3]at this
theorem Oj {s:cY} (hp:DP c sl s) {w ms:List Int} (hwl:w.length=s.vars.length) (hml:ms.length=s.vars.length) (hch:ch<gN) (hI: ∀i,i<s.vars.length->(w.getD i 0).natAbs<gN/\(ms.getD i 0).natAbs+((ch:Int)*w.getD i 0).natAbs+(2^64)<dP):
  aF 194 [s.pv, .sl (s.vars.map (lP (bZ s.groups) c sl)), .sl (w.map Zp), .sl (ms.map Zp),N ch] (Hc (bZ s.groups) c sl s.vars (fR (bZ s.groups) s.vars ms w ch)):=by
 have hb:=hp.g.v;have nv:=hp.g.nv;have hr:=hp.r;have hov:=fM hp.g.g;have lo:=hov.2;have ho:[]∈s.vars->0<num (bZ s.groups):=fun h=>Nat.pos_of_ne_zero (GF hov.1 (Co hp.g h))
 obtain⟨gs,us,es⟩:=s;simp only at hb nv hwl hml hI lo ho⊢;clear hp hov;generalize bZ gs=o at*;have h64:=cU lo;have hol:=Iw lo;have l2:(us.map dE).length=us.length:=aR ..;have l3:(us.map (lP o c sl)).length=us.length:=aR ..;have l4:(w.map Zp).length=us.length:=by rw[aR];exact hwl
 have l5:(ms.map Zp).length=us.length:=by rw[aR];exact hml
 have hF:=Au (n:=ch) (ba hch Ln);have hrl:=sS o us ms w ch;have rS: ∀{j:Nat},j<us.length->bI Zp ((fR o us ms w ch).take (j+1))=bI Zp ((fR o us ms w ch).take j)++[.v (.b (zs ((fR o us ms w ch).getD j 0))), .v (.s (zb ((fR o us ms w ch).getD j 0)))]:=fun h=>by
  rw[aY 0 oO,Jk]
 unfold cY.pv;simp only
 by_cases hpos:0<us.length
 rotate_left
 ·obtain rfl:us=[]:=iZ.1 oO;refine eW call194 func194 ?_;exact Tg
 refine eW call194 func194 ?_;refine fq @l2 ?_;refine aj ?_;have e1:=getD_map dE us [] hpos;have e2:=getD_map (lP o c sl) us [] hpos;have e3:=getD_map Zp w 0 (i:=0) oO;have e4:=getD_map Zp ms 0 (i:=0) oO;have kb:=hb _ (aG [] hpos);have hk:=oW (us.getD 0 []);have hx:=hI 0 hpos;have hp:=Nk (x:=(ch:Int)) (y:=w.getD 0 0) (by simpa using hch) hx.1
 have hgr:=zA (o:=o) (ms:=ms) (w:=w) (c:=ch) hpos;have hgk: ∀k,k<0+1->(∀q,q<0->je (us.getD q []) ((fR o us ms w ch).getD q 0) (lR o c sl (us.getD q []))=true)->je (us.getD 0 []) ((fR o us ms w ch).getD 0 0) (lR o c sl (us.getD 0 []))=true->je (us.getD k []) ((fR o us ms w ch).getD k 0) (lR o c sl (us.getD k []))=true:=fun k hk h1 h2=>by
  by_cases hkj:k<0
  ·exact h1 k hkj
  ·obtain rfl:k=0:=oO;exact h2
 rw[hgr]at hgk;have hbad:=fun h: ¬je (us.getD 0 []) ((fR o us ms w ch).getD 0 0) (lR o c sl (us.getD 0 []))=true=>ow (p:=fun i=>je (us.getD i []) ((fR o us ms w ch).getD i 0) (lR o c sl (us.getD i []))) hpos (dA.2 h)
 rw[<-Cj,hgr]at hbad;have r1:=rS hpos;rw[hgr]at r1;have hcs:(us.getD 0 []≠[]/\je (us.getD 0 []) (iS o (us.getD 0 []) (ms.getD 0 0) (w.getD 0 0) ch) (lR o c sl (us.getD 0 []))=false/\aF 242 [Z (ms.getD 0 0),Z ((ch:Int)*w.getD 0 0)] (.tup [Z (iS o (us.getD 0 []) (ms.getD 0 0) (w.getD 0 0) ch),E 0])/\aF 193 [dE (us.getD 0 []),Zp (iS o (us.getD 0 []) (ms.getD 0 0) (w.getD 0 0) ch),N (lR o c sl (us.getD 0 []))] (.b false))\/
   (us.getD 0 []=[]/\je (us.getD 0 []) (iS o (us.getD 0 []) (ms.getD 0 0) (w.getD 0 0) ch) (lR o c sl (us.getD 0 []))=true/\ ∃k:Nat,aF 281 [Z ((ch:Int)*w.getD 0 0),N (lM o c sl (us.getD 0 []))] (.tup [N k,E 0])/\aF 41 [N k] (Z k)/\aF 242 [Z (ms.getD 0 0),Z k] (.tup [Z (ms.getD 0 0+k),E 0])/\ ∃k2:Nat,aF 281 [Z (ms.getD 0 0+k),N (lM o c sl (us.getD 0 []))] (.tup [N k2,E 0])/\aF 41 [N k2] (Z (iS o (us.getD 0 []) (ms.getD 0 0) (w.getD 0 0) ch)))\/
   (us.getD 0 []≠[]/\je (us.getD 0 []) (iS o (us.getD 0 []) (ms.getD 0 0) (w.getD 0 0) ch) (lR o c sl (us.getD 0 []))=true/\aF 242 [Z (ms.getD 0 0),Z ((ch:Int)*w.getD 0 0)] (.tup [Z (iS o (us.getD 0 []) (ms.getD 0 0) (w.getD 0 0) ch),E 0])/\aF 193 [dE (us.getD 0 []),Zp (iS o (us.getD 0 []) (ms.getD 0 0) (w.getD 0 0) ch),N (lR o c sl (us.getD 0 []))] (.b true)):=by
  by_cases h:us.getD 0 []=[]
  ·exact .inr (.inl ⟨h,I1 hol h64 (ho (by rw[<-h];exact aG [] hpos)) h hx.2⟩)
  ·have h1:aF 242 [Z (ms.getD 0 0),Z ((ch:Int)*w.getD 0 0)] (.tup [Z (iS o (us.getD 0 []) (ms.getD 0 0) (w.getD 0 0) ch),E 0]):=by
    rw[iS,af h];exact EI oO
   have h2:=wN (us.getD 0 []) (x:=iS o (us.getD 0 []) (ms.getD 0 0) (w.getD 0 0) ch) (L:=lR o c sl (us.getD 0 [])) (by rw[iS,af h];have:=Int.natAbs_add_le (ms.getD 0 0) (ch*w.getD 0 0);omega) (Ij hr lo kb.2)
   cases hin:je (us.getD 0 []) (iS o (us.getD 0 []) (ms.getD 0 0) (w.getD 0 0) ch) (lR o c sl (us.getD 0 []))
   ·rw[hin]at h2;exact .inl ⟨h,rfl,h1,h2⟩
   ·rw[hin]at h2;exact .inr (.inr ⟨h,rfl,h1,h2⟩)
 clear hx kb;generalize iS o (us.getD 0 []) (ms.getD 0 0) (w.getD 0 0) ch=z at*;generalize hu0:us.getD 0 []=u at*;simp only[dE]at e1 hk hcs;simp only[lP]at e2;generalize lM o c sl u=M at*;generalize lR o c sl u=Rr at*;simp only[Zp,fw,jB]at e3 e4 hcs;rcases hcs with⟨hu,hgd,m1,m2⟩|⟨hu,hgd,k,m1,m2,m3,k2,m4,m5⟩|⟨hu,hgd,m1,m2⟩
 ·rw[af hu]at hk;rw[Hc,hbad (by simp[hgd])]
  exact Wy (aN @l2 (aN @l3 (aN @l4 (aN @l5 (aN @e1 (aN @e2 (aN @e3 @e4))))))) @hk @hF @hp @m1 @m2 oT oT
 all_goals
  first|rw[ah hu]at hk|rw[af hu]at hk
  repeat' first|simp only[go_sem,seval,l2,l3,l4,l5,e1,e2,e3,e4]|refine cP hk ?_|refine cP hF ?_|refine cP hp ?_|refine cP m1 ?_|refine cP m2 ?_|refine cP m3 ?_|refine cP m4 ?_|refine cP m5 ?_|refine oE ?_|apply xX<;>intro hc
  obtain⟨nm,hnm⟩: ∃nm,nm=(if u=[]then 1074 else 1059):=⟨_,rfl⟩
  first|rw[ah hu]at hnm|rw[af hu]at hnm
  refine aq (α:=Nat) (fun j=>us.length-(j+1)) (fun j=>⟨[(1, .v (.sl (us.map (lP o c sl)))),(2, .v (.sl (w.map Zp))),(3, .v (.sl (ms.map Zp))),(4, .v (N ch)),(5, .p 1000 0 0),(12, .rs nm j 0 (j+1) 2),(28, .v (.sl (us.map dE))),(29,E' us.length),(30,E' (j+1))],[(1000,⟨0,[.v (.sl (gs.map gV)), .v (.sl (us.map dE)), .v (.sl (es.map dS.pv))],false,none⟩),(nm,⟨j,bI Zp ((fR o us ms w ch).take (j+1)),true,some 94⟩)],nm+4⟩) (fun j=>j+1<=us.length/\ ∀k,k<j+1->je (us.getD k []) ((fR o us ms w ch).getD k 0) (lR o c sl (us.getD k []))=true) 0 (fun _=>by show _<=nm+4;rw[hnm];exact fk rfl) ⟨hpos,fun k hk=>hgk k hk (fun j hj=>oO) hgd⟩ ?_ ?_<;>subst hnm
  ·rw[r1,List.take_zero,show bI Zp ([]:List Int)=[]from rfl,List.nil_append]
   exact lE
  ·clear e1 e2 e3 e4 hk hgr hbad r1 hgk hgd m1 m2 hu0 hp
   first|clear m3 m4 m5|skip
   rintro j ⟨hj,hall⟩ R hR;have hlm:((fR o us ms w ch).take (j+1)).length=j+1:=by rw[da];omega
   have q1:=dw FQ ((fR o us ms w ch).take (j+1));have q2:=eD FQ ((fR o us ms w ch).take (j+1));rw[hlm]at q1 q2
   by_cases hlt:j+1<us.length
   ·have e1:=getD_map dE us [] hlt;have e2:=getD_map (lP o c sl) us [] hlt;have e3:=getD_map Zp w 0 (i:=(j+1)) oO;have e4:=getD_map Zp ms 0 (i:=(j+1)) oO;have kb:=hb _ (aG [] hlt);have hk:=oW (us.getD (j+1) []);have hx:=hI (j+1) hlt;have hp:=Nk (x:=(ch:Int)) (y:=w.getD (j+1) 0) (by simpa using hch) hx.1
    have hgr:=zA (o:=o) (ms:=ms) (w:=w) (c:=ch) hlt;have hgk: ∀k,k<(j+1)+1->(∀q,q<(j+1)->je (us.getD q []) ((fR o us ms w ch).getD q 0) (lR o c sl (us.getD q []))=true)->je (us.getD (j+1) []) ((fR o us ms w ch).getD (j+1) 0) (lR o c sl (us.getD (j+1) []))=true->je (us.getD k []) ((fR o us ms w ch).getD k 0) (lR o c sl (us.getD k []))=true:=fun k hk h1 h2=>by
     by_cases hkj:k<(j+1)
     ·exact h1 k hkj
     ·obtain rfl:k=(j+1):=oO;exact h2
    rw[hgr]at hgk;have hbad:=fun h: ¬je (us.getD (j+1) []) ((fR o us ms w ch).getD (j+1) 0) (lR o c sl (us.getD (j+1) []))=true=>ow (p:=fun i=>je (us.getD i []) ((fR o us ms w ch).getD i 0) (lR o c sl (us.getD i []))) hlt (dA.2 h)
    rw[<-Cj,hgr]at hbad;have r1:=rS hlt;rw[hgr]at r1;have hcs:(us.getD (j+1) []≠[]/\je (us.getD (j+1) []) (iS o (us.getD (j+1) []) (ms.getD (j+1) 0) (w.getD (j+1) 0) ch) (lR o c sl (us.getD (j+1) []))=false/\aF 242 [Z (ms.getD (j+1) 0),Z ((ch:Int)*w.getD (j+1) 0)] (.tup [Z (iS o (us.getD (j+1) []) (ms.getD (j+1) 0) (w.getD (j+1) 0) ch),E 0])/\aF 193 [dE (us.getD (j+1) []),Zp (iS o (us.getD (j+1) []) (ms.getD (j+1) 0) (w.getD (j+1) 0) ch),N (lR o c sl (us.getD (j+1) []))] (.b false))\/
      (us.getD (j+1) []=[]/\je (us.getD (j+1) []) (iS o (us.getD (j+1) []) (ms.getD (j+1) 0) (w.getD (j+1) 0) ch) (lR o c sl (us.getD (j+1) []))=true/\ ∃k:Nat,aF 281 [Z ((ch:Int)*w.getD (j+1) 0),N (lM o c sl (us.getD (j+1) []))] (.tup [N k,E 0])/\aF 41 [N k] (Z k)/\aF 242 [Z (ms.getD (j+1) 0),Z k] (.tup [Z (ms.getD (j+1) 0+k),E 0])/\ ∃k2:Nat,aF 281 [Z (ms.getD (j+1) 0+k),N (lM o c sl (us.getD (j+1) []))] (.tup [N k2,E 0])/\aF 41 [N k2] (Z (iS o (us.getD (j+1) []) (ms.getD (j+1) 0) (w.getD (j+1) 0) ch)))\/
      (us.getD (j+1) []≠[]/\je (us.getD (j+1) []) (iS o (us.getD (j+1) []) (ms.getD (j+1) 0) (w.getD (j+1) 0) ch) (lR o c sl (us.getD (j+1) []))=true/\aF 242 [Z (ms.getD (j+1) 0),Z ((ch:Int)*w.getD (j+1) 0)] (.tup [Z (iS o (us.getD (j+1) []) (ms.getD (j+1) 0) (w.getD (j+1) 0) ch),E 0])/\aF 193 [dE (us.getD (j+1) []),Zp (iS o (us.getD (j+1) []) (ms.getD (j+1) 0) (w.getD (j+1) 0) ch),N (lR o c sl (us.getD (j+1) []))] (.b true)):=by
     by_cases h:us.getD (j+1) []=[]
     ·exact .inr (.inl ⟨h,I1 hol h64 (ho (by rw[<-h];exact aG [] hlt)) h hx.2⟩)
     ·have h1:aF 242 [Z (ms.getD (j+1) 0),Z ((ch:Int)*w.getD (j+1) 0)] (.tup [Z (iS o (us.getD (j+1) []) (ms.getD (j+1) 0) (w.getD (j+1) 0) ch),E 0]):=by
       rw[iS,af h];exact EI oO
      have h2:=wN (us.getD (j+1) []) (x:=iS o (us.getD (j+1) []) (ms.getD (j+1) 0) (w.getD (j+1) 0) ch) (L:=lR o c sl (us.getD (j+1) [])) (by rw[iS,af h];have:=Int.natAbs_add_le (ms.getD (j+1) 0) (ch*w.getD (j+1) 0);omega) (Ij hr lo kb.2)
      cases hin:je (us.getD (j+1) []) (iS o (us.getD (j+1) []) (ms.getD (j+1) 0) (w.getD (j+1) 0) ch) (lR o c sl (us.getD (j+1) []))
      ·rw[hin]at h2;exact .inl ⟨h,rfl,h1,h2⟩
      ·rw[hin]at h2;exact .inr (.inr ⟨h,rfl,h1,h2⟩)
    clear hx kb;generalize iS o (us.getD (j+1) []) (ms.getD (j+1) 0) (w.getD (j+1) 0) ch=z at*;generalize hu0:us.getD (j+1) []=u at*;simp only[dE]at e1 hk hcs;simp only[lP]at e2;generalize lM o c sl u=M at*;generalize lR o c sl u=Rr at*;simp only[Zp,fw,jB]at e3 e4 hcs;rcases hcs with⟨hu,hgd,m1,m2⟩|⟨hu,hgd,k,m1,m2,m3,k2,m4,m5⟩|⟨hu,hgd,m1,m2⟩
    ·rw[af hu]at hk;rw[Hc,hbad (by simp[hgd])]
     clear hR hall hgk;exact Wy (aN @l2 (aN @l3 (aN @l4 (aN @l5 (aN @e1 (aN @e2 (aN @e3 (aN @e4 (aN @q1 @q2))))))))) @hk @hF @hp @m1 @m2 oT oT
    all_goals
     have hgo:=hR (j+1) ⟨oO,fun k hk=>hgk k hk hall hgd⟩ oO
     rw[r1]at hgo;clear hR hall hgk
     first|rw[ah hu]at hk|rw[af hu]at hk
     repeat' first|simp only[go_sem,seval,l2,l3,l4,l5,e1,e2,e3,e4,q1,q2]|refine cP hk ?_|refine cP hF ?_|refine cP hp ?_|refine cP m1 ?_|refine cP m2 ?_|refine cP m3 ?_|refine cP m4 ?_|refine cP m5 ?_|refine oE ?_|apply xX<;>intro hc
     refine hgo _ ?_;refine lG ?_;all_goals exact fun c hc=>by rcases hc with hc|rfl|rfl<;>first|exact cf hc|rfl
   ·have hjl:us.length=j+1:=oO;have hgood2:Cj o c sl us (fR o us ms w ch)=true:=nM fun k hk=>hall k oO
    rw[Hc,hgood2];have hT:(fR o us ms w ch).take (j+1)=fR o us ms w ch:=dc oO;rw[hT]at q1 q2⊢;have q3:=gH FQ (fR o us ms w ch);have q4:=eC FQ (fR o us ms w ch);rw[hrl,hjl]at q4;rw[hjl];clear hR;exact oo (aN @l2 (aN @hjl (aN @q1 (aN @q2 (aN @q3 (aN @q4 @gI))))))
theorem NA {w:List Int} {n:Nat} {P:Int->Prop} (hwl:w.length=n) (h: ∀i,i<n->P (w.getD i 0)): ∀x∈w,P x:=fun x hx=>by
 obtain⟨j,hj,rfl⟩:=iv hx;have:=h j oO
 rwa[bR,bG hj]at this
theorem UL {w:List Int} (h:Ag o us w=true) (hi:i<us.length):je (us.getD i []) (w.getD i 0) (fH o (us.getD i []))=true:=bJ.1 h i (fE.2 hi)
theorem Mh (lo:o.length<=8) (lb:b.length<=16):fH o b<=gN:=by
 unfold fH;split
 ·exact kB (ba (cU lo) tu)
 ·exact kB (Iv lb)
theorem F2 {s:cY} (hp:DP c sl s) {w ms:List Int} (hwl:w.length=s.vars.length) (hml:ms.length=s.vars.length) (hch:ch<num c) (hW:Ag (bZ s.groups) s.vars w=true) (hM: ∀i,i<s.vars.length->je (s.vars.getD i []) (ms.getD i 0) (lM (bZ s.groups) c sl (s.vars.getD i []))=true):
  aF 103 [.agg [.s c, .s sl],s.pv, .sl (w.map Zp), .sl (ms.map Zp),N ch] (Hc (bZ s.groups) c sl s.vars (fR (bZ s.groups) s.vars ms w ch)):=by
 have hr:=hp.r;have hb:=hp.g.v;have nv:=hp.g.nv;have lo:=(fM hp.g.g).2;have hbo:=zE hp;have c8:=cU hr.lc;have h64:=oY;have h128:=tu;have hwb: ∀i,i<s.vars.length->(w.getD i 0).natAbs<gN:=fun i hi=>ba (Ci (UL hW hi)).1 (Mh lo (hb _ (aG [] hi)).2)
 have hmb: ∀i,i<s.vars.length->(ms.getD i 0).natAbs<256^33:=fun i hi=>gj (Ci (hM i hi)).1 (Nt hr lo (hb _ (aG [] hi)).2)
 have h33:256^33+(2^64)*gN+(2^64)<dP:=by unfold dP gN;decide+kernel
 have hwA: ∀x∈w,x.natAbs<dP:=NA hwl fun i hi=>ba (hwb i hi) Ln
 have hmA: ∀x∈ms,x.natAbs<dP:=NA hml fun i hi=>by have:=hmb i hi;omega
 have hv1:=BB (w.map jB) (by rw[aR];omega)
 have hv2:=BB (ms.map jB) (by rw[aR];omega)
 have hrg:=RS hp.g hwl hwA;rw[WY,wH hwA]at hv1;rw[WY,wH hmA]at hv2;rw[hW]at hrg;have hn:=aD (aZ ch);rw[vB oO]at hn;have hcm:=Ef (a:=ch) (b:=num c) oO oO;rw[eT hr.vc]at hcm;have hd: ∀ _:True,decide (bK ch (num c)>=0)=false:=fun _=>by rw[O9,aS hch];rfl
 have hre:=Oj hp hwl hml (ch:=ch) oO (fun i hi=>by
  refine⟨hwb i hi,?_⟩;have h1:=hmb i hi;have h2:((ch:Int)*w.getD i 0).natAbs<=(2^64)*gN:=by
   rw[qx,Int.natAbs_natCast];exact jq oO (kB (hwb i hi))
  omega)
 have hmL: ∀i,i<s.vars.length->aF 193 [dE (s.vars.getD i []),Zp (ms.getD i 0),N (lM (bZ s.groups) c sl (s.vars.getD i []))] (.b true):=fun i hi=>by
  have:=wN (s.vars.getD i []) (x:=ms.getD i 0) (L:=lM (bZ s.groups) c sl (s.vars.getD i [])) (by have:=hmb i hi;omega) (SS hr lo (hb _ (aG [] hi)).2)
  rwa[hM i hi]at this
 generalize bK ch (num c)=cm at*;generalize fR (bZ s.groups) s.vars ms w ch=rs at*;unfold Hc at*;obtain⟨gs,us,es⟩:=s;simp only at nv hwl hml hmL hre hbo⊢;generalize bZ gs=o at*;have l2:(us.map dE).length=us.length:=aR ..;have l3:(us.map (lP o c sl)).length=us.length:=aR ..;have l4:(w.map Zp).length=us.length:=by rw[aR];exact hwl
 have l5:(ms.map Zp).length=us.length:=by rw[aR];exact hml
 clear hW hwb hmb hM hwA hmA h33 h64 hb hp hr;unfold cY.pv at*;simp only at*;refine eW call103 func103 ?_;refine Lr (aN @l2 (aN @l4 (aN @l5 (hd oT)))) @hbo @hv1 @hv2 @hn @hcm @hrg oT ?_;refine aq (α:=Nat) (fun i=>us.length-i) (fun i=>⟨[(2, .v (.sl (w.map Zp))),(3, .v (.sl (ms.map Zp))),(4, .v (N ch)),(6, .p 1001 0 0),(12, .v (.sl (us.map (lP o c sl)))),(68, .v (.sl (us.map dE))),(69,E' us.length),(70,E' i)],[(1001,⟨0,[.v (.sl (gs.map gV)), .v (.sl (us.map dE)), .v (.sl (es.map dS.pv))],false,none⟩)],_⟩) (fun i=>i<=us.length) 0 (fun _=>aB _) (aT _) ?_ ?_
 ·exact lE
 ·intro i hi R hR
  by_cases hlt:i<us.length
  ·have hgo:=hR (i+1) oO oO;have e1:=getD_map dE us [] hlt;have e2:=getD_map (lP o c sl) us [] hlt;have e4:=getD_map Zp ms 0 (i:=i) oO;have hc:=hmL i hlt;clear hR hmL hre hv1 hv2;simp only[lP]at e2;generalize lM o c sl (us.getD i [])=M at*;generalize us.getD i []=u at*;generalize ms.getD i 0=x at*;simp only[dE]at e1 hc;simp only[Zp,fw,jB]at e4 hc;exact qe (aN @l2 (aN @l3 (aN @l5 (aN @e1 (aN @e2 @e4))))) @hgo @hc
  ·obtain rfl:i=us.length:=oO;clear hR hmL;generalize Cj o c sl us rs=b at*;cases b
   ·exact z1 @hre
   ·exact z1 @hre
