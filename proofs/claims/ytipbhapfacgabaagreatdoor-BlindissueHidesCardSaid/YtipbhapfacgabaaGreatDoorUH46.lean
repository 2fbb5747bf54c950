/- Part of the proof. -/
import Derived.Test.YtipbhapfacgabaaGreatDoorUH45
set_option linter.all false
set_option maxHeartbeats 16000000
set_option maxRecDepth 100000
namespace Go.Proofs.Tryz
open Go Go.Dom Go.Num
noncomputable def Ct (k:Key) (a:Bytes) (n:Nat):List Nat:=(List.range n).map fun b=>iB k (aZ b) a
theorem EN (k:Key) (a:Bytes) (n:Nat):(Ct k a n).length=n:=by simp[Ct]
theorem Km (k:Key) (a:Bytes) (n:Nat):Ct k a (n+1)=Ct k a n++[iB k (aZ n) a]:=by simp[Ct,List.range_succ]
theorem NB {k:Key} {a:Bytes} {n i:Nat} (h:i<n):(Ct k a n).getD i 0=iB k (aZ i) a:=by simp[Ct,bR,h]
theorem NF:dq vW 1:=⟨fun _=>rfl,fun _ y hy=>by cases ik.1 hy;rfl,fun _ _=>rfl,fun h=>aJ rfl h⟩
theorem Oo (l:List Nat):bI vW l=l.map fun x=>AV.v (N x):=by
 unfold bI
 induction l with
 |nil=>rfl
 |cons x l ih=>rw[fP,nk,ih];rfl
theorem Om {l:List Nat} {i:Nat} (h:i<l.length):(bI vW l).getD i .u= .v (N (l.getD i 0)):=by
 rw[Oo];simp[bR,h]
theorem Uk (p:cz) (k:Key) (tp tq:Bytes) (sec:Nat) (hr:k.r.length<4611686018427387904) (hsec:sec<256):aF 3 [nK p k tp tq, .i .u8 (sec:Nat)] (.b true):=by
 have hf:=Hf p k tp tq hr;have aw:=Ga
 cases hfb:wO p k tp tq with
 |false=>
  rw[hfb]at hf;clear hfb;unfold nK at*;refine eW call3 func3 ?_;exact z2 @hf @aw
 |true=>
 rw[hfb]at hf;unfold wO at hfb;simp only[aV,bc]at hfb;obtain⟨b1,b2,ltp,ltq⟩:=hfb;obtain⟨lm,lo,lr,ln,-,-,-⟩:=MK b2;have hp:=Ca b1;have hft:=N7 p k _ (E8 p hp) lm ln oO ltp ltq;clear b1 b2
 by_cases h0:vk (fB p) k tp tq=0
 case neg=>
  have hb2:(vk (fB p) k tp tq==0)=false:=by simpa using h0
  have hb3:(vk (fB p) k tp tq !=0)=true:=by simpa using h0
  generalize vk (fB p) k tp tq=e at*;unfold nK cz.pv Key.pv at*;refine eW call3 func3 ?_;exact zW (aN @hb2 @hb3) @hf @hft @aw oT
 rw[h0]at hft;obtain⟨hke,hck,hid⟩:=QK h0;obtain⟨vP,vQ,-,-,sP,sQ,hpq⟩:=wA hck;have hor:=Fg vP vQ ltp ltq (by
  unfold GW;rw[ah];simp only[aV,dC,dY];exact⟨⟨sP,sQ⟩,hpq⟩)
 have hpe:=(mU hke).1;obtain⟨hpv,hpt⟩:=Bj hpe;have vse:=hpv p.se (by simp[cz.eA])
 have lse:=hp p.se (by simp[cz.eA])
 have se2:=hpt p.se (by simp[cz.rO])
 have c1:=nY (aZ (num tp/2*(num tq/2)));have c2:=nY p.se;rw[vse,aS lse]at c2;simp only[cB,aA]at c2;have hinj:=fun{b c:Nat} {a:Bytes} h60=>QL hid h60 (b:=b) (c:=c) (a:=a)
 have hsq:=fun b a=>UH hid b a
 have p5:=fQ sP;have q5:=fQ sQ;have hn2:2<=num tp/2*(num tq/2):=fV oO (jq (show 2<=num tp/2 by omega) (show 1<=num tq/2 by omega))
 obtain⟨n,hn⟩: ∃n,n=num tp/2*(num tq/2):=⟨_,rfl⟩;rw[<-hn]at hor c1 hn2 hinj
 by_cases h60:n<=60
 case neg=>
  rw[aP]at c1;generalize (aa (aZ n)&&decide ((aZ n).length<=8))=B at*;clear hinj hsq hid hck hke hpt hpv;unfold nK cz.pv Key.pv at*;cases B;all_goals simp only[aA,bQ,ak]at c1
  ·refine eW call3 func3 ?_;repeat' first|simp only[go_sem,seval]|refine cP hf ?_|refine cP hft ?_|refine cP hor ?_|refine cP c1 ?_|refine cP c2 ?_|refine cP aw ?_|refine oE ?_|apply xX<;>intro hc
   all_goals first|rfl|omega
  ·refine eW call3 func3 ?_;repeat' first|simp only[go_sem,seval]|refine cP hf ?_|refine cP hft ?_|refine cP hor ?_|refine cP c1 ?_|refine cP c2 ?_|refine cP aw ?_|refine oE ?_|apply xX<;>intro hc
   all_goals first|rfl|omega
 have vn:aa (aZ n)=true:=vN (gj (by omega:n<64) oC)
 have ln8:(aZ n).length<=8:=mN.2 (ba (by omega:n<64) oC)
 rw[aP,vn,aS ln8]at c1;simp only[cB,aA]at c1;have n200:aF 9 [.i .u64 200] (.s [200]):=nU oC oC rfl;have hse:num p.se<(2^64):=cU lse;have na:=jH (sec%num p.se) (gj (aL _ oO) hse);have va:aa (aZ (sec%num p.se))=true:=vN (gj (aL _ oO) hse);have ha:num (aZ (sec%num p.se))<num p.se:=by rw[aP];exact aL _ oO
 have hrem:(((sec:Nat):Int)%((num p.se:Nat):Int))=((sec%num p.se:Nat):Int):=(Int.natCast_emod ..).symm;have hnb:=fun b (hb:b<n)=>jH b (gj (by omega:b<64) oC)
 obtain⟨A,hA⟩: ∃A,A=aZ (sec%num p.se):=⟨_,rfl⟩;have na:aF 9 [.i .u64 ((sec%num p.se:Nat):Int)] (.s A):=by rw[hA];exact na
 rw[<-hA]at va ha;clear hA;have rq:=fun b=>zw (p:=nD p (aZ n)) (k:=k) (GN hp ln8) lm ln oO A [] (vs:=[aZ b]) (sd:=[98]) (a:=0) (by simp) (by simp)
 have hrq:=fun b (hb:b<n)=>Nh hp hke lm hn2 h60 hb va ha [98]
 have hkf:=(mU hke).2;have hkr:=Cn hke;have Gv:=fun b (hb:b<n)=>by
  have h:=oM (o:=k.o) lm ltp ltq (aZ (iB k (aZ b) A));have vb:aa (aZ b)=true:=vN (gj (by omega:b<64) oC)
  have hh:=(IY hkf lm oO vb va).2;have he:mq k.m k.o tp tq (aZ (iB k (aZ b) A))=0:=by
   unfold mq;have lt:iB k (aZ b) A<num k.m:=IX k _ _ (by have:=(N8 hh).2.2.2;omega)
   rw[af (by rw[vN (gj lt (cU lm))];decide),af (by simpa using hck),af (by rw[hkf.o,hh];decide)]
  have hi:Gv k.m k.o tp tq (aZ (iB k (aZ b) A))=true:=by
   unfold Gv;rw[he,aP,(hsq b A).1,(hsq b A).2];rfl
  rw[hi,he]at h;exact h
 have hne:=fun b c (hb:b<n) (hc:c<n) (h:b≠c)=>show(aZ (iB k (aZ b) A)==aZ (iB k (aZ c) A))=false from beq_eq_false_iff_ne.2 fun e=>h (hinj h60 hb hc (by have:=congrArg num e;rwa[aP,aP]at this))
 have hr200: ∀b,aF 10 [.agg [.s p.c, .s [200], .s p.mm, .s p.mo, .s p.mg, .s p.mh, .s p.wm, .s p.wo, .s p.wg, .s p.wh, .s p.se, .s p.at', .s p.ha, .s p.el, .s p.es, .s (aZ n), .s p.ma],k.pv, .s A, .s [], .agg [.sl [.s (aZ b)], .s [98],E 0]] (Ai A [] [aZ b] [98] (Fj (nD p (aZ n)) k A [] [aZ b] [98] 0)):=rq;clear hinj hsq hid hck hpt hpv rq sP sQ hpq p5 q5 vP vQ vse lse hkf hkr;unfold nK cz.pv Key.pv at*;obtain⟨L,hL⟩: ∃L:Nat->List Nat,L=Ct k A:=⟨_,rfl⟩;obtain⟨cs,hcs⟩: ∃cs:Nat->Nat,cs=fun b=>iB k (aZ b) A:=⟨_,rfl⟩
 have L0:bI vW (L 1)=[.v (N (cs 0))]:=by rw[hL,hcs];rfl
 have LS: ∀i,bI vW (L (i+1))=bI vW (L i)++[.v (N (cs i))]:=fun i=>by rw[hL,hcs,Km,dQ];rfl
 have LG: ∀{i j},j<i->(bI vW (L i)).getD j .u= .v (N (cs j)):=fun{i j} h=>by rw[hL,hcs,Om (l:=Ct k A i) (by rw[EN];exact h),NB h]
 have hb0:0<n:=oO;have q0:=hr200 0;have nb0:=hnb 0 hb0;have is0:=Gv 0 hb0;rcases hrq 0 hb0 with⟨ch,rs,j,hl,hR0⟩|⟨e,he,hR0⟩
 case inr=>
  rw[hR0]at q0;simp only[Ai]at q0;rcases he with rfl|rfl
  all_goals
   refine eW call3 func3 ?_;refine Lr @hrem @hf @hft @hor @c1 @c2 @n200 @na ?_;refine aj ?_;repeat' first|simp only[go_sem,seval]|refine cP nb0 ?_|refine cP q0 ?_|refine cP aw ?_|refine oE ?_|apply xX<;>intro hc
   all_goals first|rfl|omega
 rw[hR0]at q0;simp only[Ai]at q0;refine eW call3 func3 ?_;refine Lr @hrem @hf @hft @hor @c1 @c2 @n200 @na ?_;refine aj ?_;repeat' first|simp only[go_sem,seval,kR]|refine cP nb0 ?_|refine cP q0 ?_|refine cP is0 ?_|refine oE ?_|apply xX<;>intro hc
 refine aj ?_;refine Hw ?_;refine aq (α:=Nat) (fun j=>n-(j+1)) (fun j=>⟨[(2, .p 1000 0 0),(7, .v (.i .u64 (n:Nat))),(11, .p 1055 0 0),(12, .v (.s A)),(13, .rs 1139 j 0 (j+1) 1),(14, .v (.i .u64 ((j+1:Nat):Int)))],[(1000,⟨0,[.v (.s p.c), .v (.s p.sl), .v (.s p.mm), .v (.s p.mo), .v (.s p.mg), .v (.s p.mh), .v (.s p.wm), .v (.s p.wo), .v (.s p.wg), .v (.s p.wh), .v (.s p.se), .v (.s p.at'), .v (.s p.ha), .v (.s p.el), .v (.s p.es), .v (.s p.bl), .v (.s p.ma), .v (.s k.name), .v (.s k.m), .v (.s k.o), .v (.s k.z), .v (.s k.s), .v (.sl (k.r.map .s)), .v (.s k.u), .v (.s k.h), .v (.s tp), .v (.s tq)],false,none⟩),(1055,⟨0,[.v (.s p.c), .v (.s [200]), .v (.s p.mm), .v (.s p.mo), .v (.s p.mg), .v (.s p.mh), .v (.s p.wm), .v (.s p.wo), .v (.s p.wg), .v (.s p.wh), .v (.s p.se), .v (.s p.at'), .v (.s p.ha), .v (.s p.el), .v (.s p.es), .v (.s (aZ n)), .v (.s p.ma)],false,some 30⟩),(1139,⟨j,bI vW (L (j+1)),true,some 22⟩)],1144⟩) (fun j=>j+1<=n) 0 (fun _=>fk rfl) oO ?_ ?_
 ·rw[L0,hcs];exact lE
 intro j hj R hR;have b1:=dw NF (L (j+1));have b2:=eD NF (L (j+1));have hll:(L (j+1)).length=j+1:=by rw[hL,EN]
 rw[hll,eH]at b1 b2
 by_cases hjt:j+1<n
 case neg=>
  clear hR;repeat' first|simp only[go_sem,seval]|refine cP aw ?_|refine oE ?_|apply xX<;>intro hc
  all_goals first|rfl|omega
 have qj:=hr200 (j+1);have nbj:=hnb (j+1) hjt;have isj:=Gv (j+1) hjt;rcases hrq (j+1) hjt with⟨ch',rs',j',hl',hR1⟩|⟨e,he,hR1⟩
 case inr=>
  rw[hR1]at qj;simp only[Ai]at qj;clear hR;rcases he with rfl|rfl
  all_goals
   repeat' first|simp only[go_sem,seval]|refine cP nbj ?_|refine cP qj ?_|refine cP aw ?_|refine oE ?_|apply xX<;>intro hc
   all_goals first|rfl|omega
 rw[hR1]at qj;simp only[Ai]at qj;have hgo:=hR (j+1) oO oO;rw[LS]at hgo;clear hR;repeat' first|simp only[go_sem,seval,kR]|refine cP nbj ?_|refine cP qj ?_|refine cP isj ?_|refine oE ?_|apply xX<;>intro hc
 refine aq (α:=Nat) (fun i=>j+1-i) (fun i=>⟨[(2, .p 1000 0 0),(7, .v (.i .u64 (n:Nat))),(11, .p 1055 0 0),(12, .v (.s A)),(13, .rs 1139 j 0 (j+1) 1),(14, .v (.i .u64 ((j+1:Nat):Int))),(15, .p 1161 0 0),(21,E' i)],[(1000,⟨0,[.v (.s p.c), .v (.s p.sl), .v (.s p.mm), .v (.s p.mo), .v (.s p.mg), .v (.s p.mh), .v (.s p.wm), .v (.s p.wo), .v (.s p.wg), .v (.s p.wh), .v (.s p.se), .v (.s p.at'), .v (.s p.ha), .v (.s p.el), .v (.s p.es), .v (.s p.bl), .v (.s p.ma), .v (.s k.name), .v (.s k.m), .v (.s k.o), .v (.s k.z), .v (.s k.s), .v (.sl (k.r.map .s)), .v (.s k.u), .v (.s k.h), .v (.s tp), .v (.s tq)],false,none⟩),(1055,⟨0,[.v (.s p.c), .v (.s [200]), .v (.s p.mm), .v (.s p.mo), .v (.s p.mg), .v (.s p.mh), .v (.s p.wm), .v (.s p.wo), .v (.s p.wg), .v (.s p.wh), .v (.s p.se), .v (.s p.at'), .v (.s p.ha), .v (.s p.el), .v (.s p.es), .v (.s (aZ n)), .v (.s p.ma)],false,some 30⟩),(1161,⟨0,[.v (N (cs (j+1))), .v (.s []), .v (.s ch'), .v (.sl (rs'.map Zp)), .v (.sl []), .v (.sl [])],false,some 52⟩),(1139,⟨j,bI vW (L (j+1)),true,some 22⟩)],_⟩) (fun i=>i<=j+1) 0 (fun _=>aB _) (aT _) ?_ ?_
 ·rw[hcs];refine lG ?_;all_goals exact fun c hc=>cf hc
 intro i hi R' hR'
 by_cases hit:i<j+1
 ·have hgo':=hR' (i+1) oO oO;have hx:(aZ (cs i)==aZ (cs (j+1)))=false:=by rw[hcs];exact hne i (j+1) oO hjt oO
  have e1:=LG hit;clear hR' hgo;refine eJ (aN @b1 (aN @b2 (aN @e1 @hx))) ?_;refine hgo' _ ?_;refine lG ?_;all_goals exact fun c hc=>cf hc
 ·obtain rfl:i=j+1:=oO;clear hR';refine eJ (aN @b1 @b2) ?_;refine hgo _ ?_
  (refine AS.Le.of (by first|decide|omega) ?_ ?_<;>simp[dG,dF,aO,hget,AV.bd,AV.bd.bdL,u8,ar,au,az])
  all_goals (intro c hc;rcases hc with h|h<;>first|exact cf h|(subst h;rfl))
