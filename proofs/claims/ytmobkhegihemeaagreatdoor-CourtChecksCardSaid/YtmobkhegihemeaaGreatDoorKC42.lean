/-
  Part of the proof, part KC42. Own work.
-/
import Derived.Test.YtmobkhegihemeaaGreatDoorKC41
import Derived.Test.YtmobkhegihemeaaGreatDoorKC35
set_option linter.all false
namespace Go.Proofs.YtmobkhegihemeaaGreatDoor
open Go Go.Dom
set_option maxRecDepth 100000
set_option maxHeartbeats 16000000
theorem Dy {a b:Bytes} (ha:aa a=true) (hb:aa b=true) (h0:0<num b):aD Tryz.prog 160 [.s a, .s b] (.tup [N (num a/num b),N (num a%num b)]):=by
 by_cases h:a.length≤8∨num a<num b
 ·exact rW ha hb h0 h
 ·exact GS ha hb h0 (by omega) (by omega)
theorem LW {a b:Nat} (ha:a<du) (hb:b<du) (h0:0<b):aD Tryz.prog 107 [N a,N b] (.tup [N (a/b),N (a%b),E 0]):=by
 have va:=oI ha;have vb:=oI hb;have hd:=Dy va vb (by rw[aK];exact h0)
 have v1:=aM (aP a);have v2:=aM (aP b);have hz:=qz (n:=b) (by omega)
 rw[va]at v1;rw[vb]at v2;rw[aK,aK]at hd;refine eW Tryz.call107 Tryz.func107 ?_;repeat' first|simp only[go_sem,seval,hz]|refine cP v1 ?_|refine cP v2 ?_|refine cP hd ?_|refine sB ?_|(first|apply pX|apply bX)<;>intro hc|refine⟨oD,?_⟩|exact oD|fail
end Go.Proofs.YtmobkhegihemeaaGreatDoor
namespace Go.Proofs.YtmobkhegihemeaaGreatDoor
open Go Go.Dom Go.Num
set_option maxRecDepth 100000
set_option maxHeartbeats 16000000
def mI (o c sl:Bytes) (vs:List Bytes) (sd b:Bytes) (i:Nat):Except Int Int:=
 if b=[]then(match gT vs sd i o with
  | .error e=> .error e
  | .ok x=> .ok (num x:Int))else xo vs sd i (we c sl b)
def my (o c sl:Bytes) (vs:List Bytes) (sd:Bytes):List Bytes→Nat→List Int→Except Int (List Int)
 |[],_,acc=> .ok acc
 |b::us,i,acc=>match mI o c sl vs sd b i with
  | .error e=> .error e
  | .ok z=>my o c sl vs sd us (i+1) (acc++[z])
theorem vG {o c sl:Bytes} {vs:List Bytes} {sd b:Bytes} {i:Nat} {e:Int} (h:mI o c sl vs sd b i= .error e):e=2∨e=14:=by
 unfold mI at h
 split at h
 ·split at h
  ·rename_i e' he;injection h with h
   subst h;exact mH he
  ·cases h
 ·exact HT h
theorem BV {o c sl:Bytes} {vs:List Bytes} {sd:Bytes} {e:Int}: ∀{us:List Bytes} {i:Nat} {acc:List Int},my o c sl vs sd us i acc= .error e→e=2∨e=14:=by
 intro us
 induction us with
 |nil=>intro i acc h;cases h
 |cons b us ih=>
  intro i acc h;rw[my]at h
  split at h
  ·rename_i e' he;injection h with h
   subst h;exact vG he
  ·exact ih h
theorem B3 {o:Bytes} (h:o.length≤8):num o<du:=a9 (ep h) (by unfold du;decide+kernel)
theorem Pp {o c sl b:Bytes} (hr:pW c sl) (lo:o.length≤8) (lb:b.length≤16):lM o c sl b<du:=by
 unfold lM;split
 ·exact B3 lo
 ·exact zJ hr lb
theorem zq {o c sl:Bytes} {vs:List Bytes} {sd b:Bytes} {i:Nat} {z:Int} (hr:pW c sl) (vo:aa o=true) (hb:aa b=true∧b.length≤16) (hv:vs.all aa=true) (hl:vs.length<1000000) (hi:i≤2147483647) (h:mI o c sl vs sd b i= .ok z):jf b z (lM o c sl b)=true∧i+1≤2147483647:=by
 unfold mI at h
 split at h
 ·rename_i hb0
  split at h
  ·cases h
  ·rename_i x hx;injection h with h
   subst h;obtain⟨-,h2,h3⟩:=gU hv vo hl hi hx;refine⟨?_,h3⟩;simp only[jf,lM,hb0,if_true,aZ,decide_eq_true_eq,fF,bZ,decide_eq_false_iff_not,decide_true];omega
 ·rename_i hb0;have hm:=zK hr hb.1 hb0 hb.2;obtain⟨h2,h3⟩:=Lf hv hm.1 (by omega) hl hi h
  refine⟨?_,h3⟩;simp only[jf,lM,hb0,if_false,decide_false,ec,bR,kA,decide_eq_true_eq];exact h2
theorem NI {o c sl:Bytes} {vs:List Bytes} {sd:Bytes} (hr:pW c sl) (vo:aa o=true) (hv:vs.all aa=true) (hl:vs.length<1000000): ∀(us:List Bytes) (i:Nat) (acc l:List Int),(∀b∈us,aa b=true∧b.length≤16)→i≤2147483647→my o c sl vs sd us i acc= .ok l→ ∃r,l=acc++r∧r.length=us.length∧(∀j,j<us.length→jf (us.getD j []) (r.getD j 0) (lM o c sl (us.getD j []))=true)∧i+us.length≤2147483647:=by
 intro us
 induction us with
 |nil=>intro i acc l _ hi h;injection h with h;exact⟨[],by simp[h],rfl,(fun j hj=>(nG _ hj).elim),hi⟩
 |cons b us ih=>
  intro i acc l hb hi h;rw[my]at h
  split at h
  ·cases h
  ·rename_i z hz;obtain⟨h3,h4⟩:=zq hr vo (hb b (.head _)) hv hl hi hz;obtain⟨r,h5,h6,h7,h8⟩:=ih _ _ _ (fun b' hm=>hb b' (.tail _ hm)) h4 h
   refine⟨z::r,by rw[h5];simp,by simp[h6],?_,by simp;omega⟩
   intro j hj
   cases j with
   |zero=>exact h3
   |succ j=>exact h7 j (by simpa using hj)
theorem zD {b:Bytes} {x:Int} {L:Nat} (h:jf b x L=true):x.natAbs<L∧(b=[]→0≤x):=by
 simp only[jf,aZ,decide_eq_true_eq,fF,Bool.and_eq_false_imp,decide_eq_false_iff_not]at h;exact⟨h.1,fun hb=>by have:=h.2 hb;omega⟩
theorem wE {c sl:Bytes} {s:dy} (hp:EJ c sl s) {vs:List Bytes} {sd:Bytes} {i:Nat} (hv:vs.all aa=true) (hi:i≤2147483647) (hl:vs.length<1000000) {ms:List Int} (h:my (bK s.groups) c sl vs sd s.vars i []= .ok ms):
  ms.length=s.vars.length∧(∀j,j<s.vars.length→jf (s.vars.getD j []) (ms.getD j 0) (lM (bK s.groups) c sl (s.vars.getD j []))=true)∧i+s.vars.length≤2147483647∧ ∀x∈ms,x.natAbs<du:=by
 have ho:=ff hp.g.g;obtain⟨r,h1,h2,h3,h4⟩:=NI hp.r ho.1 hv hl _ _ _ _ hp.g.v hi h;rw[List.nil_append]at h1;subst h1;refine⟨h2,h3,h4,fun x hx=> ?_⟩
 obtain⟨j,hj,rfl⟩:=gb hx;have:=(zD (h3 j (by omega))).1
 rw[aX,aU hj]at this;exact ie this (Pp hp.r ho.2 (hp.g.v _ (ay [] (by omega))).2)
theorem Rs {a:Bytes} (h:a.length≤16):num a<256^16:=a9 (bV a) (cQ (by decide) h)
theorem Tf {s:dy} (hs:Be s) {w:List Int} (hwl:w.length=s.vars.length) (hw: ∀x∈w,x.natAbs<256^100):WS s w:=by
 intro q hq t ht;obtain⟨t1,t2,t3,t4⟩:=(hs.q q hq).2.2.2.2 t ht;have hl:=((hs.b.q q hq).2 t ht);have hx:=hw _ (ay 0 (show t.var.toNat<w.length by omega))
 refine⟨t1,by omega,t4,ie hx (by unfold du;exact AM (by decide) (by decide)),?_⟩
 rw[A6];refine dQ (jH (jy (Rs hl)) (jy hx)) ?_;unfold du;rw[←ct];exact AM (by decide) (by decide)
theorem JV {o c sl b:Bytes} (hr:pW c sl) (lo:o.length≤8) (lb:b.length≤16):lM o c sl b<256^33:=by
 unfold lM;split
 ·exact a9 (ep lo) (by decide+kernel)
 ·have h1:num sl*num c<18446744073709551616*18446744073709551616:=fO (ep hr.ls) (ep hr.lc);have h2:we c sl b<18446744073709551616*18446744073709551616*c9:=fO h1 (FF lb);exact a9 h2 (by unfold c9;decide+kernel)
theorem MV {c sl:Bytes} {s:dy} (hp:EJ c sl s) (ho:[]∈s.vars→bK s.groups≠[]) {vs:List Bytes} {sd:Bytes} {i:Nat} (hv:vs.all aa=true) (hi:i≤2147483647) (hl:vs.length<1000000) (hsd:sd.length<1000000):
  aD Tryz.prog 182 [s.pv, .sl (s.vars.map (lP (bK s.groups) c sl)),T vs sd i] (J4 vs sd (i+s.vars.length) (my (bK s.groups) c sl vs sd s.vars i [])):=by
 have hb:=hp.g.v;have nv:=hp.g.nv;have hr:=hp.r;have vo:=(ff hp.g.g).1;obtain⟨gs,us,es⟩:=s;simp only at hb nv ho vo⊢;clear hp;generalize bK gs=o at*;have l2:(us.map dC).length=us.length:=aH ..;have l3:(us.map (lP o c sl)).length=us.length:=aH ..;obtain⟨R0,hR0⟩: ∃R0,R0=my o c sl vs sd (us.drop 0) i []:=⟨_,rfl⟩;rw[show my o c sl vs sd us i []=my o c sl vs sd (us.drop 0) i []from rfl,←hR0]
 unfold dy.pv;simp only
 by_cases hpos:0<us.length
 rotate_left
 ·obtain rfl:us=[]:=jz.1 (by omega)
  rw[List.drop_nil,my]at hR0;subst hR0;refine eW Tryz.call182 Tryz.func182 ?_;repeat' first|simp only[go_sem,seval]|(refine ae ?_)|refine sB ?_|(first|apply pX|apply bX)<;>intro hc|refine⟨oD,?_⟩|exact oD|fail
  all_goals rfl
 refine eW Tryz.call182 Tryz.func182 ?_;repeat' first|simp only[go_sem,seval,l2]|refine sB ?_|(first|apply pX|apply bX)<;>intro hc|refine⟨oD,?_⟩|exact oD|fail
 refine ae ?_;have hz0:0<us.length:=hpos;have e1:=getD_map dC us [] hpos;have e2:=getD_map (lP o c sl) us [] hpos;have kb:=hb _ (ay [] hpos);have hk:=nj (us.getD 0 []);have hdo:=fun hi z (h:mI o c sl vs sd (us.getD 0 []) i= .ok z)=>(zq (i:=i) hr vo kb hv hl hi h).2
 have hcs:(us.getD 0 []=[]∧ ∀ _:i≤2147483647,aD Tryz.prog 61 [T vs sd (i:Nat),N (lM o c sl (us.getD 0 []))] (match mI o c sl vs sd (us.getD 0 []) i with
   | .ok z=> .tup [.s (zb z),T vs sd ((i+1:Nat):Int),E 0]
   | .error e=> .tup [.s [],T [] [] 0,E e])∧ ∀z,mI o c sl vs sd (us.getD 0 []) i= .ok z→zs z=false)∨(us.getD 0 []≠[]∧ ∀ _:i≤2147483647,aD Tryz.prog 261 [T vs sd (i:Nat),N (lM o c sl (us.getD 0 []))] (qO vs sd i (mI o c sl vs sd (us.getD 0 []) i))):=by
  by_cases h:us.getD 0 []=[]
  ·refine .inl ⟨h,fun hi=> ?_⟩
   have hbl:=rD (sd:=sd) (n:=o) hv vo (ho (by rw[←h];exact ay [] hpos)) hi hl hsd
   rw[lM,if_pos h,fq vo];unfold mI;rw[if_pos h]
   cases hd:gT vs sd (i) o with
   |error e=>
    rw[hd]at hbl;exact⟨hbl,fun z hz=>by cases hz⟩
   |ok x=>
    have hx:=(gU hv vo hl hi hd).1;rw[hd]at hbl;refine⟨?_,fun z hz=>by dsimp only at hz;injection hz with hz;subst hz;simp[zs]⟩
    dsimp only;rw[show zb (num x:Int)=x from by rw[zb,Int.natAbs_natCast];exact fW hx]
    exact hbl
  ·have hm:=zK hr kb.1 h kb.2;refine .inr ⟨h,fun hi=> ?_⟩
   rw[lM,if_neg h,mI,if_neg h];exact x8 (vs:=vs) (sd:=sd) (i:=i) hv hi hl hsd hm.1 hm.2
 rw[aR [] hpos,my]at hR0;clear kb;generalize us.getD 0 []=u at*;simp only[dC]at e1 hk;simp only[lP]at e2;generalize lM o c sl u=M at*;generalize lR o c sl u=Rr at*;rcases hcs with⟨hu,hg⟩|⟨hu,hg⟩
 all_goals
  first|rw[if_pos hu]at hk|rw[if_neg hu]at hk
  have hg:=hg hi
  cases hsg:mI o c sl vs sd u i with
  |error e=>
   rw[hsg]at hg hR0;simp only[qO]at hg hR0;have he:(e !=0)=true:=by rcases vG hsg with rfl|rfl<;>rfl
   subst hR0
   first
    |have hg:=hg.1
    |skip
   repeat' first|simp only[go_sem,seval,l2,l3,e1,e2,he]|refine cP hk ?_|refine cP hg ?_|refine sB ?_|(first|apply pX|apply bX)<;>intro hc|refine⟨oD,?_⟩|exact oD|fail
   all_goals rfl
  |ok z=>
   have hsi:i+(0+1)≤2147483647:=hdo hi z hsg;rw[hsg]at hg hR0;simp only[qO]at hg hR0
   first
    |(have hzz:=hg.2 z rfl
      have hg:=hg.1)
    |have hzz:zs z=zs z:=rfl
   repeat' first|simp only[go_sem,seval,l2,l3,e1,e2]|refine cP hk ?_|refine cP hg ?_|refine sB ?_|(first|apply pX|apply bX)<;>intro hc|refine⟨oD,?_⟩|exact oD|fail
   obtain⟨nm,hnm⟩: ∃nm,nm=(if u=[]then 1042 else 1041):=⟨_,rfl⟩
   first|rw[if_pos hu]at hnm|rw[if_neg hu]at hnm
   clear e1 e2 hk hg hdo hu;refine aj (α:=Nat×List Int) (fun p=>us.length-(p.1+1)) (fun p=>⟨[(1, .v (.sl (us.map (lP o c sl)))),(3, .p 1000 0 0),(5, .p 1001 0 0),(7, .p 1003 0 0),(9, .rs nm p.1 0 (p.1+1) 2),(15, .v (.sl (us.map dC))),(16,E' us.length),(17,E' (p.1+1))],[(1000,⟨0,[.v (.sl (gs.map gG)), .v (.sl (us.map dC)), .v (.sl (es.map eE.pv))],false,none⟩),(1001,⟨0,[.v (.sl (vs.map .s)), .v (.s sd), .v (.i .i64 ((i+(p.1+1):Nat):Int))],false,none⟩),(1003,⟨0,[.sn, .v (.s []), .v (.i .i64 0)],false,some 40⟩),(nm,⟨p.1,bJ Zp p.2,true,some 49⟩)],1045⟩) (fun p=>p.1+1≤us.length∧p.2.length=p.1+1∧i+(p.1+1)≤2147483647∧R0=my o c sl vs sd (us.drop (p.1+1)) (i+(p.1+1)) p.2) (0,[z]) (fun _=>bQ rfl) ⟨hpos,rfl,hsi,hR0⟩ ?_ ?_<;>subst hnm
   ·(refine AS.Le.of (by first|decide|omega) ?_ ?_<;>simp[cl,cj,aF,ar,AV.bd,AV.bd.bdL,u8,ah,ai,aq])
    all_goals exact⟨by first|rfl|(rw[←hzz];rfl),fun c hc=>ey hc⟩
   ·clear hzz hR0 hsi;rintro⟨j,ms⟩ ⟨hj,hlm,hij,hR0⟩ R hR;simp only at hj hlm hij hR0;have q1:=dI C7 ms;have q2:=dT C7 ms;rw[hlm]at q1 q2
    by_cases hlt:j+1<us.length
    ·have e1:=getD_map dC us [] hlt;have e2:=getD_map (lP o c sl) us [] hlt;have kb:=hb _ (ay [] hlt);have hk:=nj (us.getD (j+1) []);have hdo:=fun hi z (h:mI o c sl vs sd (us.getD (j+1) []) (i+(j+1))= .ok z)=>(zq (i:=(i+(j+1))) hr vo kb hv hl hi h).2
     have hcs:(us.getD (j+1) []=[]∧ ∀ _:(i+(j+1))≤2147483647,aD Tryz.prog 61 [T vs sd ((i+(j+1)):Nat),N (lM o c sl (us.getD (j+1) []))] (match mI o c sl vs sd (us.getD (j+1) []) (i+(j+1))with
       | .ok z=> .tup [.s (zb z),T vs sd (((i+(j+1))+1:Nat):Int),E 0]
       | .error e=> .tup [.s [],T [] [] 0,E e])∧ ∀z,mI o c sl vs sd (us.getD (j+1) []) (i+(j+1))= .ok z→zs z=false)∨(us.getD (j+1) []≠[]∧ ∀ _:(i+(j+1))≤2147483647,aD Tryz.prog 261 [T vs sd ((i+(j+1)):Nat),N (lM o c sl (us.getD (j+1) []))] (qO vs sd (i+(j+1)) (mI o c sl vs sd (us.getD (j+1) []) (i+(j+1))))):=by
      by_cases h:us.getD (j+1) []=[]
      ·refine .inl ⟨h,fun hi=> ?_⟩
       have hbl:=rD (sd:=sd) (n:=o) hv vo (ho (by rw[←h];exact ay [] hlt)) hi hl hsd
       rw[lM,if_pos h,fq vo];unfold mI;rw[if_pos h]
       cases hd:gT vs sd ((i+(j+1))) o with
       |error e=>
        rw[hd]at hbl;exact⟨hbl,fun z hz=>by cases hz⟩
       |ok x=>
        have hx:=(gU hv vo hl hi hd).1;rw[hd]at hbl;refine⟨?_,fun z hz=>by dsimp only at hz;injection hz with hz;subst hz;simp[zs]⟩
        dsimp only;rw[show zb (num x:Int)=x from by rw[zb,Int.natAbs_natCast];exact fW hx]
        exact hbl
      ·have hm:=zK hr kb.1 h kb.2;refine .inr ⟨h,fun hi=> ?_⟩
       rw[lM,if_neg h,mI,if_neg h];exact x8 (vs:=vs) (sd:=sd) (i:=(i+(j+1))) hv hi hl hsd hm.1 hm.2
     rw[aR [] hlt,my]at hR0;clear kb;generalize us.getD (j+1) []=u at*;simp only[dC]at e1 hk;simp only[lP]at e2;generalize lM o c sl u=M at*;generalize lR o c sl u=Rr at*;rcases hcs with⟨hu,hg⟩|⟨hu,hg⟩
     all_goals
      first|rw[if_pos hu]at hk|rw[if_neg hu]at hk
      have hg:=hg hij
      cases hsg:mI o c sl vs sd u (i+(j+1))with
      |error e=>
       rw[hsg]at hg hR0;simp only[qO]at hg hR0;have he:(e !=0)=true:=by rcases vG hsg with rfl|rfl<;>rfl
       subst hR0;clear hR
       first
        |have hg:=hg.1
        |skip
       repeat' first|simp only[go_sem,seval,l2,l3,e1,e2,he,q1,q2]|refine cP hk ?_|refine cP hg ?_|refine sB ?_|(first|apply pX|apply bX)<;>intro hc|refine⟨oD,?_⟩|exact oD|fail
       all_goals rfl
      |ok y=>
       have hsi:i+(j+1+1)≤2147483647:=hdo hij y hsg;rw[hsg]at hg hR0;simp only[qO]at hg hR0;have hgo:=hR (j+1,ms++[y]) ⟨by omega,by simp[hlm],hsi,hR0⟩ (by simp only;omega)
       simp only[Gk]at hgo
       first
        |(have hzz:=hg.2 y rfl
          have hg:=hg.1;rw[hzz]at hgo)
        |skip
       clear hR;repeat' first|simp only[go_sem,seval,l2,l3,e1,e2,q1,q2]|refine cP hk ?_|refine cP hg ?_|refine sB ?_|(first|apply pX|apply bX)<;>intro hc|refine⟨oD,?_⟩|exact oD|fail
       refine hgo _ ?_
       (refine AS.Le.of (by first|decide|omega) ?_ ?_<;>simp[cl,cj,aF,ar,AV.bd,AV.bd.bdL,u8,ah,ai,aq])
       all_goals exact⟨by omega,fun c hc=>by rcases hc with hc|rfl|rfl<;>first|exact ey hc|rfl⟩
    ·have hjl:us.length=j+1:=by omega
     rw[gS (by omega)]at hR0
     simp only[my]at hR0;subst hR0;have q3:=fx C7 ms;have q4:=dL C7 ms;rw[hlm]at q4;rw[hjl];clear hR;repeat' first|simp only[go_sem,seval,l2,hjl,q1,q2,q3,q4,fy]|refine sB ?_|(first|apply pX|apply bX)<;>intro hc|refine⟨oD,?_⟩|exact oD|fail
     all_goals rfl
noncomputable def I9 (s:dy) (vs:List Bytes) (sd:Bytes) (j:Nat):Except Int (List Int)→PV
 | .ok ms=> .tup [.sl (ms.map Zp), .sl ((vT s ms).map .s),T vs sd j,E 0]
 | .error e=> .tup [.sl [], .sl [],T [] [] 0,E e]
theorem zI {s:dy} (h:Be s) (hv:[]∈s.vars):bK s.groups≠[]:=by
 have hk:=h.k;unfold DG at hk;rw[List.any_eq_true.2 ⟨[],hv,rfl⟩]at hk;simp only[bu,mb,aZ,fF,beq_eq_false_iff_ne]at hk;exact hk.1.1
theorem Gn {c sl:Bytes} {s:dy} (hp:EJ c sl s) {vs:List Bytes} {sd:Bytes} {i:Nat} (hv:vs.all aa=true) (hi:i≤2147483647) (hl:vs.length<1000000) (hsd:sd.length<1000000):
  aD Tryz.prog 116 [.agg [.s c, .s sl],s.pv,T vs sd i] (I9 s vs sd (i+s.vars.length) (my (bK s.groups) c sl vs sd s.vars i [])):=by
 have hb:=xf hp;have hd:=MV hp (zI hp.g) (vs:=vs) (sd:=sd) (i:=i) hv hi hl hsd
 cases hR:my (bK s.groups) c sl vs sd s.vars i []with
 |error e=>
  have he:(e !=0)=true:=by rcases BV hR with rfl|rfl<;>rfl
  rw[hR]at hd;obtain⟨gs,us,es⟩:=s;simp only[J4,I9,dy.pv]at hb hd⊢;refine eW Tryz.call116 Tryz.func116 ?_;repeat' first|simp only[go_sem,seval,he]|refine cP hb ?_|refine cP hd ?_|refine sB ?_|(first|apply pX|apply bX)<;>intro hc|refine⟨oD,?_⟩|exact oD|fail
  all_goals rfl
 |ok ms=>
  obtain⟨f1,f2,f3,f4⟩:=wE hp hv hi hl hR;have hm:=LY hp.g f1 f4 (Tf hp.g f1 fun x hx=>by
   obtain⟨j,hj,rfl⟩:=gb hx;have:=(zD (f2 j (by omega))).1
   rw[aX,aU hj]at this;exact ie (ie this (JV hp.r (ff hp.g.g).2 (hp.g.v _ (ay [] (by omega))).2)) (AM (by decide) (by decide)))
  rw[hR]at hd;simp only[J4,I9]at hd⊢;generalize vT s ms=L at*;obtain⟨gs,us,es⟩:=s;simp only[dy.pv]at hb hd hm⊢;refine eW Tryz.call116 Tryz.func116 ?_;repeat' first|simp only[go_sem,seval]|refine cP hb ?_|refine cP hd ?_|refine cP hm ?_|refine sB ?_|(first|apply pX|apply bX)<;>intro hc|refine⟨oD,?_⟩|exact oD|fail
  all_goals rfl
theorem NL {a m:Nat} (hm:0<m):(-(a:Int))%m=if a%m=0 then 0 else((m-a%m:Nat):Int):=by
 have h1:=gD a m;have h2:=aG a hm;split
 ·rename_i h;refine((Ax (a:= -(a:Int)) (b:=m) (r:=0) (q:= -((a/m:Nat):Int)) (by omega)).2 ⟨?_,by omega,by omega⟩).2
  have:(a:Int)=m*(a/m:Nat):=by rw[←Int.natCast_mul];omega
  rw[nB,←this];omega
 ·rename_i h;refine((Ax (a:= -(a:Int)) (b:=m) (r:=((m-a%m:Nat):Int)) (q:= -((a/m:Nat):Int)-1) (by omega)).2 ⟨?_,by omega,by omega⟩).2
  have:(m:Int)*(a/m:Nat)+(a%m:Nat)=a:=by rw[←Int.natCast_mul];omega
  rw[nA,nB,Int.mul_one];omega
theorem Pl {x:Int} {m:Nat} (hx:x.natAbs<du) (hm:m<du) (h0:0<m):aD Tryz.prog 281 [Z x,N m] (.tup [N (x%m).toNat,E 0]):=by
 have v1:=Am hx;have v2:=aM (aP m);rw[vB hm]at v2;have hd:=LW hx hm h0;have hlt:=aG x.natAbs h0;have hs:=tF (a:=m) (b:=x.natAbs%m) (by omega) hm
 have hmb:(aP m==([]:Bytes))=false:=by
  rw[beq_eq_false_iff_ne,ne_eq,gI];omega
 have hr:(x%m).toNat=if x<0∧x.natAbs%m≠0 then m-x.natAbs%m else x.natAbs%m:=by
  by_cases hn:x<0
  ·have e:x= -(x.natAbs:Int):=by omega
   have h:=NL (a:=x.natAbs) h0;rw[←e]at h;rw[h];split
   ·rename_i g;rw[if_neg (by simp[g])];omega
   ·rename_i g;rw[if_pos ⟨hn,g⟩];omega
  ·rw[if_neg (by simp[hn])]
   have e:x=(x.natAbs:Int):=by omega
   conv=>lhs;rw[e]
   rw[←Int.natCast_emod,Int.toNat_natCast]
 rw[hr];have hbb: ∀ _:True,(aP (x.natAbs%m)==([]:Bytes))=decide (x.natAbs%m=0):=fun _=>by
  rw[dx,beq_iff_eq,gI,decide_eq_true_eq]
 generalize x.natAbs%m=r at*;have hzs:zs x=decide (x<0):=rfl;clear hx hlt hr;unfold Z at v1⊢
 by_cases h1:x<0
 ·rw[decide_eq_true h1]at hzs;rw[hzs]at v1⊢
  by_cases h2:r=0
  ·rw[decide_eq_true h2]at hbb;rw[if_neg (by simp[h2])]
   refine eW Tryz.call281 Tryz.func281 ?_;repeat' first|simp only[go_sem,seval,hmb,hbb trivial]|refine cP v1 ?_|refine cP v2 ?_|refine cP hd ?_|refine cP hs ?_|refine sB ?_|(first|apply pX|apply bX)<;>intro hc|refine⟨oD,?_⟩|exact oD|fail
  ·rw[decide_eq_false h2]at hbb;rw[if_pos ⟨h1,h2⟩];refine eW Tryz.call281 Tryz.func281 ?_;repeat' first|simp only[go_sem,seval,hmb,hbb trivial]|refine cP v1 ?_|refine cP v2 ?_|refine cP hd ?_|refine cP hs ?_|refine sB ?_|(first|apply pX|apply bX)<;>intro hc|refine⟨oD,?_⟩|exact oD|fail
 ·rw[decide_eq_false h1]at hzs;rw[hzs]at v1⊢;rw[if_neg (by simp[h1])]
  refine eW Tryz.call281 Tryz.func281 ?_;repeat' first|simp only[go_sem,seval,hmb]|refine cP v1 ?_|refine cP v2 ?_|refine cP hd ?_|refine cP hs ?_|refine sB ?_|(first|apply pX|apply bX)<;>intro hc|refine⟨oD,?_⟩|exact oD|fail
theorem tW (b:Bytes) {x:Int} {L:Nat} (hx:x.natAbs<du) (hL:L<du):aD Tryz.prog 196 [dC b,Zp x,N L] (.b (jf b x L)):=by
 have hk:=nj b;have hc:=qi hx hL;have hd: ∀ _:True,decide (a6 x.natAbs L<0)=decide (x.natAbs<L):=fun _=>by rw[dx];simp only[decide_eq_true_eq];exact fS
 generalize a6 x.natAbs L=cm at*;have hzs:zs x=decide (x<0):=rfl;rw[show N x.natAbs= .s (zb x)from rfl]at hc
 unfold jf;generalize decide (x.natAbs<L)=p at*;generalize decide (x<0)=q at*;simp only[Zp,eg,lf]
 by_cases hb:b=[]
 ·rw[if_pos hb]at hk;rw[decide_eq_true hb,bZ];unfold dC at hk⊢;refine eW Tryz.call196 Tryz.func196 ?_;repeat' first|simp only[go_sem,seval,hd trivial,hzs]|refine cP hc ?_|refine cP hk ?_|refine sB ?_|(first|apply pX|apply bX)<;>intro hc|refine⟨oD,?_⟩|exact oD|fail
  all_goals simp_all
 ·rw[if_neg hb]at hk;rw[decide_eq_false hb,ec];unfold dC at hk⊢;refine eW Tryz.call196 Tryz.func196 ?_;repeat' first|simp only[go_sem,seval,hd trivial,hzs]|refine cP hc ?_|refine cP hk ?_|refine sB ?_|(first|apply pX|apply bX)<;>intro hc|refine⟨oD,?_⟩|exact oD|fail
  all_goals simp_all
theorem Ou {s:dy} (hs:Be s) {w:List Int} (hwl:w.length=s.vars.length) (hw: ∀x∈w,x.natAbs<du):aD Tryz.prog 195 [s.pv, .sl (w.map Zp)] (.b (zE (bK s.groups) s.vars w)):=by
 have hv:=hs.v;have nv:=hs.nv;have hor:=yU s (by have:=hs.ng;omega)
 have hoV:=ff hs.g;obtain⟨gs,vs,es⟩:=s;simp only at hv hwl nv hor hoV⊢;have l2:(vs.map dC).length=vs.length:=aH ..;have l5:(w.map Zp).length=vs.length:=by rw[aH];exact hwl
 generalize bK gs=oq at*;unfold dy.pv at*;simp only at*;refine eW Tryz.call195 Tryz.func195 ?_;repeat' first|simp only[go_sem,seval,l2]|refine cP hor ?_|refine sB ?_|(first|apply pX|apply bX)<;>intro hc|refine⟨oD,?_⟩|exact oD|fail
 refine aj (α:=Nat) (fun i=>vs.length-i) (fun i=>⟨[(1, .v (.sl (w.map Zp))),(2, .p 1000 0 0),(5, .v (.s oq)),(12, .v (.sl (vs.map dC))),(13,E' vs.length),(14,E' i)],[(1000,⟨0,[.v (.sl (gs.map gG)), .v (.sl (vs.map dC)), .v (.sl (es.map eE.pv))],false,none⟩)],_⟩) (fun i=>i≤vs.length∧ ∀j,j<i→jf (vs.getD j []) (w.getD j 0) (eS oq (vs.getD j []))=true) 0 (fun _=>au _) ⟨aL _,fun j hj=>by omega⟩ ?_ ?_
 ·exact lE
 ·rintro i ⟨hi,hall⟩ R hR
  by_cases hlt:i<vs.length
  ·have e1:=getD_map dC vs [] hlt;have e2:=getD_map Zp w 0 (i:=i) (by omega)
   have kb:=hv _ (ay [] hlt);have kw:=hw _ (ay 0 (show i<w.length by omega))
   have hgo:=fun h=>hR (i+1) ⟨by omega,h⟩ (by omega)
   have hbad:=fun h: ¬jf (vs.getD i []) (w.getD i 0) (eS oq (vs.getD i []))=true=>ot (p:=fun i=>jf (vs.getD i []) (w.getD i 0) (eS oq (vs.getD i []))) hlt (fj.2 h)
   have hnx:jf (vs.getD i []) (w.getD i 0) (eS oq (vs.getD i []))=true→ ∀j,j<i+1→jf (vs.getD j []) (w.getD j 0) (eS oq (vs.getD j []))=true:=fun h j hj=>by
    by_cases hji:j<i
    ·exact hall j hji
    ·obtain rfl:j=i:=by omega
     exact h
   rw[←zE]at hbad;clear hR hall;generalize vs.getD i []=b at*;generalize w.getD i 0=x at*;have hz:=(r5 kw);simp only[lf,db,aZ]at hz;clear hz;have hk:=nj b;have hlm:eS oq b<du:=by unfold eS;split;exact B3 hoV.2;exact sk kb.1
   have hc:=tW b kw hlm;have hbl:(b=[]∧N (eS oq b)= .s oq)∨(b≠[]∧N (eS oq b)= .s b):=by
    by_cases h:b=[]
    ·exact .inl ⟨h,by rw[eS,if_pos h];exact fq hoV.1⟩
    ·exact .inr ⟨h,by rw[eS,if_neg h];exact fq kb.1⟩
   clear kb kw hlm;generalize hp:jf b x (eS oq b)=p at*;simp only[dC]at e1 hk hc;simp only[Zp,eg,lf]at e2 hc;rcases hbl with⟨hb,hL⟩|⟨hb,hL⟩
   all_goals
    first|rw[if_pos hb]at hk|rw[if_neg hb]at hk
    rw[hL]at hc;cases p
    ·rw[hbad (by simp)]
     repeat' first|simp only[go_sem,seval,l2,l5,e1,e2]|refine cP hk ?_|refine cP hc ?_|refine sB ?_|(first|apply pX|apply bX)<;>intro hc|refine⟨oD,?_⟩|exact oD|fail
    ·have hgo:=hgo (hnx rfl);repeat' first|simp only[go_sem,seval,l2,l5,e1,e2]|refine cP hk ?_|refine cP hc ?_|refine sB ?_|(first|apply pX|apply bX)<;>intro hc|refine⟨oD,?_⟩|exact oD|fail
     refine hgo _ ?_;exact lE
  ·obtain rfl:i=vs.length:=by omega
   have hg:zE oq vs w=true:=nT fun j hj=>hall j hj
   rw[hg];repeat' first|simp only[go_sem,seval]|refine sB ?_|(first|apply pX|apply bX)<;>intro hc|refine⟨oD,?_⟩|exact oD|fail
end Go.Proofs.YtmobkhegihemeaaGreatDoor
