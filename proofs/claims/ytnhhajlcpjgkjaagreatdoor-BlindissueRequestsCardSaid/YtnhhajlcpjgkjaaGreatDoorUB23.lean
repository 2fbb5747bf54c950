/- Part of the proof. -/
import Derived.Test.YtnhhajlcpjgkjaaGreatDoorUB22
set_option linter.all false
set_option maxHeartbeats 8000000
set_option maxRecDepth 100000
namespace Go.Proofs.Tryz
open Go Go.Dom Go.Num
abbrev G (m o:Bytes):PV:= .agg [.s m, .s o]
theorem dN {a:Bytes} (h:aa a=true):N (num a)= .s a:=congrArg PV.s (fk h)
def eS (m o:Bytes):Bool:=aa m&&o==[]&&(num m).testBit 0&&decide (8<num m)
theorem Of8:aE 86 [.i .u64 8] (.s [8]):=ql 8 oC
theorem yN:aE 86 [.i .u64 1] (.s [1]):=ql 1 oC
theorem Xq:aE 86 [.i .u64 2] (.s [2]):=ql 2 oC
theorem I1 (m o:Bytes):aE 284 [G m o] (.b (eS m o)):=by
 have hv:=aI m
 by_cases h:aa m=true
 ·have hb:=yE h 0 oC;have hcm:=mG m [8];rw[h]at hv;rw[h,show aa [8]=true from rfl,show num [8]=8 from rfl]at hcm
  have he:aW (num m) 8>0↔8<num m:=by unfold aW;split<;>(try split)<;>omega
  refine eW call284 func284 ?_;repeat' first|simp only[go_sem,seval]|refine cP hv ?_|refine cP hb ?_|refine cP Of8 ?_|refine cP hcm ?_|refine oE ?_|apply xX<;>intro hc
  all_goals simp_all[eS]
 ·have h:aa m=false:=by simpa using h
  rw[h]at hv;have e:eS m o=false:=by simp[eS,h]
  rw[e];refine eW call284 func284 ?_;exact z1 @hv
theorem xV:aE 166 [] (N 1):=by
 refine eW call166 func166 ?_;exact z1 @yN
theorem we (p q:Bytes):aE 286 [G p q] (G p q):=by
 refine eW call286 func286 ?_;exact z0
def dK (m o x:Bytes):Bool:=eS m o&&aa x&& !(x==[])&&decide (num x<num m)&&decide (Nat.gcd (num x) (num m)=1)
theorem y7 (a b:Nat):(aW a b>=0)=(b<=a):=by
 unfold aW;rw[eq_iff_iff];split<;>(try split)<;>omega
theorem Dl {m:Bytes} (lm:m.length<=8) (o x:Bytes):aE 170 [G m o, .s x] (.b (dK m o x)):=by
 have hg:=I1 m o;have hv:=aI x
 by_cases h:eS m o=true/\aa x=true/\x≠[]/\num x<num m
 ·obtain⟨h1,h2,h3,h4⟩:=h;have hm:aa m=true:=by simp[eS]at h1;exact h1.1.1.1
  have hcm:=mG x m;rw[h2,hm]at hcm;have hnm:=dS lm;have hgc:=XL (a:=num x) (b:=num m) oO hnm;rw[dN h2,dN hm]at hgc;rw[h1]at hg;rw[h2]at hv;have hx:(x==([]:Bytes))=false:=by simpa using h3
  have hlt: ¬aW (num x) (num m)>=0:=by rw[y7];omega
  have e:dK m o x=decide (Nat.gcd (num x) (num m)=1):=by simp[dK,h1,h2,h4];intro;exact h3
  rw[e];refine eW call170 func170 ?_;repeat' first|simp only[go_sem,seval,hx,yV]|refine cP hg ?_|refine cP hv ?_|refine cP hcm ?_|refine cP hgc ?_|refine cP xV ?_|refine oE ?_|apply xX<;>intro hc
  all_goals skip
 ·have e:dK m o x=false:=by
   rw[dn];intro g;simp[dK]at g;exact h ⟨g.1.1.1.1,g.1.1.1.2,g.1.1.2,g.1.2⟩
  have hcm:=mG x m;rw[e]
  by_cases h1:eS m o=true
  ·have hm:aa m=true:=by simp[eS]at h1;exact h1.1.1.1
   rw[h1]at hg
   by_cases h2:aa x=true
   ·rw[h2]at hv;rw[h2,hm]at hcm
    by_cases h3:x=[]
    ·subst h3;refine eW call170 func170 ?_;exact xi @nn @hg @hv
    ·have hx:(x==([]:Bytes))=false:=by simpa using h3
     have hge:aW (num x) (num m)>=0:=by rw[y7];exact Ev fun g=>h ⟨h1,h2,h3,g⟩
     refine eW call170 func170 ?_;repeat' first|simp only[go_sem,seval,hx]|refine cP hg ?_|refine cP hv ?_|refine cP hcm ?_|refine oE ?_|apply xX<;>intro hc
     all_goals skip
   ·have h2:aa x=false:=by simpa using h2
    rw[h2]at hv;refine eW call170 func170 ?_;exact z2 @hg @hv
  ·have h1:eS m o=false:=by simpa using h1
   rw[h1]at hg;refine eW call170 func170 ?_;exact z1 @hg
def Ay (a:Bytes):Bool:=aa a&&decide (a.length<=8)&&vO (num a)
def Co (p q:Bytes):Int:=if dR p≠0 then dR p else if dR q≠0 then dR q else if Ay p&&Ay q&& !(p==q)then 0 else 12
theorem JL (p q:Bytes):aE 285 [G p q] (E (Co p q)):=by
 have h1:aE 405 [.s p] (.tup [.b (Ay p),E (dR p)]):=B6 p;have h2:aE 405 [.s q] (.tup [.b (Ay q),E (dR q)]):=B6 q;generalize hp:Ay p=sp at*;generalize hq:Ay q=sq at*;unfold Co;rw[hp,hq];generalize dR p=ep at*;generalize dR q=eq at*;refine eW call285 func285 ?_;exact aae (we p q) @h1 @h2
def jM (m o p q:Bytes):Int:=if !(aa m&&aa o&&aa p&&aa q)then 3 else if !eS m o then 13 else if(oh p q).2≠0\/(oh p q).1≠m then 1 else Co p q
theorem Cd (m o p q:Bytes):aE 156 [G m o,G p q] (E (jM m o p q)):=by
 have v1:=aI m;have v2:=aI o;have v3:=aI p;have v4:=aI q;have hg:=I1 m o;have hm:=CB p q;have hs:=JL p q;unfold jM;generalize aa m=b1 at*;generalize aa o=b2 at*;generalize aa p=b3 at*;generalize aa q=b4 at*;generalize eS m o=b5 at*;generalize Co p q=se at*;generalize oh p q=mb at*;obtain⟨mb1,mb2⟩:=mb;simp only at hm;refine eW call156 func156 ?_;exact zs7 @v1 @v2 @v3 @v4 @hg @hm @hs
def EA (m o p q x:Bytes):Int:=if !aa x then 3 else if jM m o p q≠0 then jM m o p q else if !dK m o x then 13 else 0
theorem sI {m:Bytes} (lm:m.length<=8) (o p q x:Bytes):aE 163 [G m o,G p q, .s x] (E (EA m o p q x)):=by
 have v1:=aI x;have v2:=Cd m o p q;have v3:=Dl lm o x;unfold EA;generalize aa x=b1 at*;generalize jM m o p q=b2 at*;generalize dK m o x=b3 at*;refine eW call163 func163 ?_;exact zs4 @v1 @v2 @v3 oT
structure Mf (m o p q:Bytes):Prop where
 vm:aa m=true
 vp:aa p=true
 vq:aa q=true
 lp:p.length<=8
 lq:q.length<=8
 o:o=[]
 mul:num m=num p*num q
 odd:num m%2=1
 sp:vO (num p)=true
 sq:vO (num q)=true
 ne:num p≠num q
theorem SE {m o p q:Bytes} (h:jM m o p q=0):Mf m o p q:=by
 unfold jM at h
 split at h
 ·cases h
 ·rename_i h1;simp only[ey,x9,aZ]at h1;obtain⟨⟨⟨v1,v2⟩,v3⟩,v4⟩:=h1
  split at h
  ·cases h
  ·rename_i h2;simp only[ey,x9]at h2
   split at h
   ·cases h
   ·rename_i h3;have h3a:(oh p q).2=0:=Classical.not_not.1 fun g=>h3 (.inl g)
    have h3b:(oh p q).1=m:=Classical.not_not.1 fun g=>h3 (.inr g)
    unfold Co at h
    split at h
    ·contradiction
    ·split at h
     ·contradiction
     ·split at h
      ·rename_i h4;simp only[Ay,aZ,bw,ey,dL]at h4;obtain⟨⟨⟨⟨-,lp⟩,sp⟩,⟨-,lq⟩,sq⟩,ne⟩:=h4;simp only[eS,aZ,bw,eD]at h2;obtain⟨⟨⟨-,ho⟩,hb⟩,-⟩:=h2;unfold oh at h3a h3b;rw[v3,v4]at h3a h3b;simp only[cT,aB]at h3a h3b
       split at h3a
       ·rename_i h5;rw[ah h5]at h3b;refine⟨v1,v3,v4,lp,lq,ho,?_,?_,sp,sq,fun e=>ne ?_⟩
        ·rw[<-h3b,ba]
        ·rw[Nat.testBit_zero]at hb;simpa using hb
        ·rw[<-fk v3,e,fk v4]
       ·cases h3a
      ·cases h
theorem Mf.YO {m o p q:Bytes} (t:Mf m o p q):num p%2=1/\num q%2=1:=by
 have h:=t.odd;rw[t.mul,cL]at h;have h1:num p%2=0\/num p%2=1:=oO;have h2:num q%2=0\/num q%2=1:=oO;rcases h1 with e1|e1<;>rcases h2 with e2|e2<;>simp_all
def S8 (p q x:Bytes):Bool:=decide (VF (num x) (num p)=1)&&decide (VF (num x) (num q)=1)
theorem wF {m o p q x:Bytes} (t:Mf m o p q) (vx:aa x=true) (lx:x.length<=8):aE 164 [G p q, .s x] (.b (S8 p q x)):=by
 obtain⟨o1,o2⟩:=t.YO;have j1:=Ir (dS lx) (dS t.lp) o1;have j2:=Ir (dS lx) (dS t.lq) o2;rw[dN vx,dN t.vp]at j1;rw[dN vx,dN t.vq]at j2;unfold S8;generalize VF (num x) (num p)=a at*;generalize VF (num x) (num q)=b at*;refine eW call164 func164 ?_;exact aae (we p q) @j1 @j2
theorem el0 {m o p q x:Bytes} (h:EA m o p q x=0):aa x=true/\Mf m o p q/\dK m o x=true:=by
 unfold EA at h
 split at h
 ·cases h
 ·rename_i h1
  split at h
  ·contradiction
  ·rename_i h2
   split at h
   ·cases h
   ·rename_i h3;exact⟨by simpa using h1,SE (by simpa using h2),by simpa using h3⟩
theorem I3 {m o x:Bytes} (lm:m.length<=8) (h:dK m o x=true):x.length<=8:=by
 simp only[dK,aZ,bw]at h;obtain⟨⟨⟨⟨h1,h2⟩,h3⟩,h4⟩,h5⟩:=h;have:=dS lm;rw[<-fk h2];exact lN oO
theorem EE {m:Bytes} (lm:m.length<=8) (o p q x:Bytes):aE 158 [G m o,G p q, .s x] (.tup [.b (decide (EA m o p q x=0)&&S8 p q x),E (EA m o p q x)]):=by
 have he:=sI lm o p q x
 by_cases h0:EA m o p q x=0
 ·obtain⟨vx,t,hh⟩:=el0 h0;have hs:=wF t vx (I3 lm hh);rw[h0]at he⊢;refine eW call158 func158 ?_;exact Qb @he @hs
 ·generalize EA m o p q x=e at*;refine eW call158 func158 ?_;exact Qk @he
def Nz (p q x:Bytes):Bool:=S8 p q x&&decide (num x%num p≠1)&&decide (num x%num q≠1)
theorem yK {m:Bytes} (lm:m.length<=8) (o p q x:Bytes):aE 157 [G m o,G p q, .s x] (.tup [.b (decide (EA m o p q x=0)&&Nz p q x),E (EA m o p q x)]):=by
 have he:=sI lm o p q x
 by_cases h0:EA m o p q x=0
 ·obtain⟨vx,t,hh⟩:=el0 h0;have lx:=I3 lm hh;have hs:=wF t vx lx;obtain⟨o1,o2⟩:=t.YO;have d1:=jF (dS lx) (dS t.lp) oO;have d2:=jF (dS lx) (dS t.lq) oO;rw[dN vx,dN t.vp]at d1;rw[dN vx,dN t.vq]at d2;rw[h0]at he⊢;unfold Nz;generalize S8 p q x=sb at*;refine eW call157 func157 ?_;repeat' first|simp only[go_sem,seval,yV]|refine cP he ?_|refine cP hs ?_|refine cP (we p q) ?_|refine cP xV ?_|refine cP d1 ?_|refine cP d2 ?_|(refine aj ?_)|refine oE ?_|apply xX<;>intro hc
  all_goals simp_all
 ·generalize EA m o p q x=e at*;refine eW call157 func157 ?_;exact Qk @he
theorem xN (n:Bool) (a:Bytes):aE 92 [.b n, .s a] (.agg [.b (n&& !(a==[])), .s a]):=by
 refine eW call92 func92 ?_;exact zs0
theorem il (n:Bool) (a:Bytes):aE 159 [.agg [.b n, .s a]] (.b (aa a&& !(n&&a==[]))):=by
 have hv:=aI a;refine eW call159 func159 ?_;exact Qk @hv
theorem nc {a:Bytes} (h:aa a=true):aE 38 [.s a] (.agg [.b false, .s a]):=by
 have hv:=aI a;rw[h]at hv;refine eW call38 func38 ?_;repeat' first|simp only[go_sem,seval]|refine cP hv ?_|refine cP (xN _ _) ?_|refine oE ?_|apply xX<;>intro hc
 all_goals simp_all
theorem BP (m o:Bytes):aE 291 [G m o] (.b (aa m&&aa o)):=by
 have v1:=aI m;have v2:=aI o;refine eW call291 func291 ?_;exact Qb @v1 @v2
theorem UD {a b:Nat} (ha:a<(2^64)) (hb:b<(2^64)):aE 138 [N a,N b] (.tup [if b<=a then N (a-b)else .s [],E (if b<=a then 0 else 2)]):=by
 have:=CD (bQ a) (bQ b);simp only[sZ,vN ha,vN hb,cT,aB,ba]at this
 by_cases h:b<=a
 ·simp only[h,aB]at this⊢;exact this
 ·simp only[h,az]at this⊢;exact this
theorem EZ {m o:Nat} (hm:m<(2^64)) (ho:o<(2^64)):aE 292 [G (bQ m) (bQ o)] (.tup [if m=0\/o=0 then .s []else N ((m-1)/o), .b (decide (m≠0)&&decide (o≠0)&&decide ((m-1)%o=0))]):=by
 have hs:=UD hm (show 1<(2^64) by decide)
 by_cases m0:m=0
 ·subst m0;simp only[show¬1<=0 by omega,az]at hs
  refine eW call292 func292 ?_;simp only[go_sem,seval,dQ];exact P9 @dQ @hs
 ·rw[ah oO,ah oO]at hs
  by_cases o0:o=0
  ·subst o0;refine eW call292 func292 ?_;simp only[go_sem,seval,dQ];exact P9 (aN @dQ @Bk) @hs
  ·have hd:=jF (a:=m-1) (b:=o) oO ho oO;have e:=qD o0;have hz:(bQ ((m-1)%o)==([]:Bytes))=decide ((m-1)%o=0):=by
    rw[cX];simp[fS]
   refine eW call292 func292 ?_;simp only[go_sem,seval,dQ];exact Tj (aN @dQ (aN @e @hz)) @hs @hd
def u9 (m o:Bytes):Int:=if !(aa m&&aa o)then 3 else if 8<m.length then 5 else if !fW (num m)then 12 else if 8<o.length then 13 else if !fW (num o)then 12 else if(num m-1)%num o=0 then 0 else 13
theorem HA (m o:Bytes):aE 171 [G m o] (E (u9 m o)):=by
 have hf:=BP m o;have hm:=rj m;have ho:=rj o
 by_cases hv:aa m=true/\aa o=true
 case neg=>
  have e:(aa m&&aa o)=false:=by rw[dn];intro g;simp at g;exact hv g
  rw[e]at hf;have e2:u9 m o=3:=by simp[u9,e]
  rw[e2];refine eW call171 func171 ?_;exact z1 @hf
 obtain⟨v1,v2⟩:=hv;rw[v1,v2]at hf;rw[v1]at hm;rw[v2]at ho
 by_cases l1:m.length<=8
 case neg=>
  have e2:u9 m o=5:=by simp[u9,v1,v2];intro g;omega
  rw[e2];refine eW call171 func171 ?_;exact z1 @hf
 have em:dR m=0:=by simp[dR,v1,l1]
 rw[aU l1,em]at hm
 by_cases l2:o.length<=8
 case neg=>
  by_cases p1:fW (num m)=true
  ·have e2:u9 m o=13:=by simp[u9,v1,v2,p1,show¬8<m.length by omega,show 8<o.length by omega]
   rw[p1]at hm;rw[e2];refine eW call171 func171 ?_;exact z2 @hf @hm
  ·have p1:fW (num m)=false:=by simpa using p1
   have e2:u9 m o=12:=by simp[u9,v1,v2,p1,l1]
   rw[p1]at hm;rw[e2];refine eW call171 func171 ?_;exact z2 @hf @hm
 have eo:dR o=0:=by simp[dR,v2,l2]
 rw[aU l2,eo]at ho;have hc:=EZ (dS l1) (dS l2);rw[fk v1,fk v2]at hc;have hcm:=hc;clear hc;unfold u9;rw[v1,v2]
 by_cases p1:fW (num m)=true
 ·by_cases p2:fW (num o)=true
  ·have h2:2<=num m:=by rcases lT (num m) 2 with g|g;simp[fW,g]at p1;exact g
   have h3:2<=num o:=by rcases lT (num o) 2 with g|g;simp[fW,g]at p2;exact g
   rw[p1]at hm;rw[p2]at ho;rw[af oO,aU (show num m≠0 by omega),aU (show num o≠0 by omega)]at hcm
   rw[p1,p2];generalize (num m-1)%num o=z at*;refine eW call171 func171 ?_;repeat' first|simp only[go_sem,seval]|refine cP hf ?_|refine cP hm ?_|refine cP ho ?_|refine cP hcm ?_|refine oE ?_|apply xX<;>intro hc
   all_goals simp_all
   all_goals omega
  ·have p2:fW (num o)=false:=by simpa using p2
   rw[p1]at hm;rw[p2]at ho;rw[p1,p2];refine eW call171 func171 ?_;repeat' first|simp only[go_sem,seval]|refine cP hf ?_|refine cP hm ?_|refine cP ho ?_|refine oE ?_|apply xX<;>intro hc
   all_goals simp_all
   all_goals omega
 ·have p1:fW (num m)=false:=by simpa using p1
  rw[p1]at hm;rw[p1];refine eW call171 func171 ?_;repeat' first|simp only[go_sem,seval]|refine cP hf ?_|refine cP hm ?_|refine oE ?_|apply xX<;>intro hc
  all_goals simp_all
  all_goals omega
def iw (m o x:Bytes):Bool:=aa m&&aa o&&aa x&& !(o==[])&& !(x==[])&&decide (num x<num m)&&decide (num x^num o%num m=1%num m)
theorem FI {m:Bytes} (lm:m.length<=8) (o x:Bytes):aE 293 [G m o, .s x] (.b (iw m o x)):=by
 have hf:=BP m o;have vx:=aI x;have hcm:=mG x m
 by_cases h:aa m=true/\aa o=true/\aa x=true/\o≠[]/\x≠[]/\num x<num m
 ·obtain⟨v1,v2,v3,h4,h5,h6⟩:=h;have e4:(o==([]:Bytes))=false:=by simpa using h4
  have e5:(x==([]:Bytes))=false:=by simpa using h5
  have hn:=dS lm;have hE:=Ul (a:=num x) (m:=num m) (e:=o) oO v2 hn oO;have hE0:=Ul (a:=num x) (m:=num m) (e:=[]) oO rfl hn oO;rw[dN v3,dN v1]at hE hE0;rw[show num ([]:Bytes)=0 from rfl,Nat.pow_zero]at hE0
  rw[v1,v2]at hf;rw[v3]at vx;rw[v3,v1]at hcm;have hlt: ¬aW (num x) (num m)>=0:=by rw[y7];omega
  have e:iw m o x=decide (num x^num o%num m=1%num m):=by simp[iw,v1,v2,v3,e4,e5,h6]
  rw[e];generalize num x^num o%num m=z1 at*;generalize 1%num m=z2 at*;refine eW call293 func293 ?_;exact Qa (aN @e4 (aN @e5 @yV)) @hf @vx @hcm @hE @hE0 oT oT
 ·have e:iw m o x=false:=by
   rw[dn];intro g;simp[iw]at g;exact h ⟨g.1.1.1.1.1.1,g.1.1.1.1.1.2,g.1.1.1.1.2,g.1.1.1.2,g.1.1.2,g.1.2⟩
  rw[e]
  by_cases v1:aa m=true<;>by_cases v2:aa o=true<;>by_cases v3:aa x=true
  ·rw[v1,v2]at hf;rw[v3]at vx;rw[v3,v1]at hcm
   by_cases h4:o=[]
   ·subst h4;refine eW call293 func293 ?_;exact xi @nn @hf @vx
   ·have e4:(o==([]:Bytes))=false:=by simpa using h4
    by_cases h5:x=[]
    ·subst h5;refine eW call293 func293 ?_;exact xi (aN @nn @e4) @hf @vx
    ·have e5:(x==([]:Bytes))=false:=by simpa using h5
     have hge:aW (num x) (num m)>=0:=by rw[y7];exact Ev fun g=>h ⟨v1,v2,v3,h4,h5,g⟩
     refine eW call293 func293 ?_;exact wO (aN @e4 @e5) @hf @vx @hcm oT
  all_goals simp only[DV]at v1 v2 v3
  all_goals simp only[v1,v2,gi,nS,cT,cq,cY]at hf
  all_goals simp only[v3]at vx
  ·refine eW call293 func293 ?_;exact z2 @hf @vx
  ·refine eW call293 func293 ?_;exact z2 @hf @vx
  ·refine eW call293 func293 ?_;exact z2 @hf @vx
  ·refine eW call293 func293 ?_;exact z2 @hf @vx
  ·refine eW call293 func293 ?_;exact z2 @hf @vx
  ·refine eW call293 func293 ?_;exact z2 @hf @vx
  ·refine eW call293 func293 ?_;exact z2 @hf @vx
theorem FH {m:Bytes} (lm:m.length<=8) (o x:Bytes):aE 172 [G m o, .s x] (.b (iw m o x&& !(x==[1]))):=by
 have h:=FI lm o x;generalize iw m o x=z at*;refine eW call172 func172 ?_;exact Qk @h
def B7 (m:Bytes):Int:=if !aa m then 3 else if eS m []then 0 else 13
theorem sR (m:Bytes):aE 84 [G m []] (E (B7 m)):=by
 have hv:=aI m;have hv0:=aI [];rw[show aa []=true from rfl]at hv0
 by_cases h:aa m=true
 ·have hb:=yE h 0 oC;have hcm:=mG m [8];rw[h]at hv;rw[h,show aa [8]=true from rfl,show num [8]=8 from rfl]at hcm
  have he:aW (num m) 8<=0↔ ¬8<num m:=by unfold aW;split<;>(try split)<;>omega
  have e:B7 m=if(num m).testBit 0&&decide (8<num m)then 0 else 13:=by simp[B7,eS,h]
  rw[e];clear e;generalize (num m).testBit 0=tb at*;refine eW call84 func84 ?_;exact Qa @nn @hv @hv0 @hb @Of8 @hcm oT oT
 ·have h:aa m=false:=by simpa using h
  rw[h]at hv;have e:B7 m=3:=by simp[B7,h]
  rw[e];refine eW call84 func84 ?_;exact z1 @hv
theorem FM {m:Bytes} (lm:m.length<=8) (x:Bytes):aE 175 [G m [], .s x] (.b (dK m [] x)):=by
 have h:=Dl lm [] x;refine eW call175 func175 ?_;exact jE @nn @h
theorem Ly {m o x:Bytes} (h:dK m o x=true):eS m o=true:=by
 simp only[dK,aZ]at h;exact h.1.1.1.1
theorem WE {m:Bytes}:B7 m=0↔eS m []=true:=by
 unfold B7;constructor
 ·intro h;split at h
  ·cases h
  ·split at h
   ·assumption
   ·cases h
 ·intro h;have:aa m=true:=by simp[eS]at h;exact h.1.1
  simp[this,h]
theorem Ah {m:Bytes} (lm:m.length<=8) (x:Bytes):aE 85 [G m [], .s x] (.b (dK m [] x)):=by
 have h1:=sR m;have h2:=FM lm x
 by_cases h0:B7 m=0
 ·rw[h0]at h1;refine eW call85 func85 ?_;exact Qb @h1 @h2
 ·have e:dK m [] x=false:=by
   rw[dn];intro g;exact h0 (WE.2 (Ly g))
  rw[e];generalize B7 m=z at*;refine eW call85 func85 ?_;exact Qk @h1
end Go.Proofs.Tryz
namespace Go.Proofs.Tryz
open Go Go.Dom Go.Num
variable {a b:Nat} {x x1 y:Int}
structure cA where
 (c sl mm mo mg mh wm wo wg wh se at' ha el es bl ma:Bytes)
def cA.pv (p:cA):PV:= .agg [.s p.c, .s p.sl, .s p.mm, .s p.mo, .s p.mg, .s p.mh, .s p.wm, .s p.wo, .s p.wg, .s p.wh, .s p.se, .s p.at', .s p.ha, .s p.el, .s p.es, .s p.bl, .s p.ma]
def cA.eL (p:cA):List Bytes:=[p.c,p.sl,p.se,p.at',p.ha,p.el,p.es,p.bl,p.ma,p.mm,p.mo,p.mg,p.mh,p.wm,p.wo,p.wg,p.wh]
theorem zX (p:cA):aE 168 [p.pv] (.sl (p.eL.map .s)):=by
 obtain⟨c,sl,mm,mo,mg,mh,wm,wo,wg,wh,se,at',ha,el,es,bl,ma⟩:=p;unfold cA.pv cA.eL;simp only;refine eW call168 func168 ?_;repeat' first|simp only[go_sem,seval,gO,gM]|(refine aj ?_)|refine oE ?_|apply xX<;>intro hc
 rfl
theorem JQ {p:cA} (lw:p.wm.length<=8) (x:Bytes):aE 169 [.s x, .pt p.pv 0, .pt (.agg [.s [1]]) 0] (.b (dK p.wm p.wo x&& !(x==[1]))):=by
 have h:=Dl lw p.wo x;unfold cA.pv;generalize dK p.wm p.wo x=z at*;refine eW call169 func169 ?_;exact Qk @h
def cA.short (p:cA):Prop:= ∀x∈p.eL,x.length<=8
def cA.AG (p:cA):List Bytes:=[p.c,p.sl,p.se,p.at',p.ha,p.el,p.es,p.bl,p.ma]
def eN (p:cA):Int:=if p.eL.all aa then
  (if u9 p.mm p.mo≠0\/ !(iw p.mm p.mo p.mg&& !(p.mg==[1]))\/ !(iw p.mm p.mo p.mh&& !(p.mh==[1]))\/ !(dK p.wm p.wo p.wg&& !(p.wg==[1]))\/ !(dK p.wm p.wo p.wh&& !(p.wh==[1]))then 13
   else if p.AG.any (fun x=>decide (num x<2))then 2
   else if num p.at'*8>num p.mo\/num p.c>num p.mo\/num p.se>num p.mo then 2 else 0)else 3
theorem mK {x:Bytes} (h:aa x=true):aE 36 [.s x, .s [2]] (E (aW (num x) 2)):=by
 have:=mG x [2]
 rwa[h,show aa [2]=true from rfl,show num [2]=2 from rfl]at this
theorem j6 {x y:Bytes} (h:aa x=true) (g:aa y=true):aE 36 [.s x, .s y] (E (aW (num x) (num y))):=by
 have:=mG x y
 rwa[h,g]at this
theorem Vm (a b:Nat):(aW a b<0)=(a<b):=by rw[eq_iff_iff];exact fx
theorem Vl (a b:Nat):(aW a b>0)=(b<a):=by
 unfold aW;rw[eq_iff_iff];split<;>(try split)<;>omega
theorem Wm (p:cA) (h:p.eL.all aa=false):aE 81 [p.pv] (E 3):=by
 have hn:=zX p;obtain⟨c,sl,mm,mo,mg,mh,wm,wo,wg,wh,se,at',ha,el,es,bl,ma⟩:=p;unfold cA.pv cA.eL at*;simp only[bV,ca]at*;refine eW call81 func81 ?_;repeat' first|simp only[go_sem,seval,gO,gM]|refine cP hn ?_|refine cP (aI _) ?_|(refine aj ?_)|refine oE ?_|apply xX<;>intro hc
 exfalso
 simp_all
theorem Sg (p:cA) (h:p.eL.all aa=true) (hs:p.short):aE 81 [p.pv] (E (eN p)):=by
 have hn:=zX p;have lw:p.wm.length<=8:=hs _ (by simp[cA.eL])
 have lm:p.mm.length<=8:=hs _ (by simp[cA.eL])
 have la:p.at'.length<=8:=hs _ (by simp[cA.eL])
 have u1:=JQ lw p.wg;have u2:=JQ lw p.wh;have c1:=HA p.mm p.mo;have c2:=FH lm p.mo p.mg;have c3:=FH lm p.mo p.mh;unfold eN;rw[h];generalize (dK p.wm p.wo p.wg&& !(p.wg==[1]))=b1 at*;generalize (dK p.wm p.wo p.wh&& !(p.wh==[1]))=b2 at*;generalize (iw p.mm p.mo p.mg&& !(p.mg==[1]))=b3 at*;generalize (iw p.mm p.mo p.mh&& !(p.mh==[1]))=b4 at*;generalize u9 p.mm p.mo=e1 at*;clear hs;obtain⟨c,sl,mm,mo,mg,mh,wm,wo,wg,wh,se,at',ha,el,es,bl,ma⟩:=p;unfold cA.pv cA.eL cA.AG at*;simp only[bV,ca,List.all_cons,List.all_nil,aZ,gi]at*;obtain⟨h1,h2,h3,h4,h5,h6,h7,h8,h9,h10,h11,h12,h13,h14,h15,h16,h17⟩:=h;have v1:=aI c;have v2:=aI sl;have v3:=aI se;have v4:=aI at';have v5:=aI ha;have v6:=aI el;have v7:=aI es;have v8:=aI bl;have v9:=aI ma;have v10:=aI mm;have v11:=aI mo;have v12:=aI mg;have v13:=aI mh;have v14:=aI wm;have v15:=aI wo;have v16:=aI wg;have v17:=aI wh;rw[h1]at v1;rw[h2]at v2;rw[h3]at v3;rw[h4]at v4;rw[h5]at v5;rw[h6]at v6;rw[h7]at v7;rw[h8]at v8;rw[h9]at v9;rw[h10]at v10;rw[h11]at v11;rw[h12]at v12;rw[h13]at v13;rw[h14]at v14;rw[h15]at v15;rw[h16]at v16;rw[h17]at v17;have d1:=mK h1;have d2:=mK h2;have d3:=mK h3;have d4:=mK h4;have d5:=mK h5;have d6:=mK h6;have d7:=mK h7;have d8:=mK h8;have d9:=mK h9;have hm8:aE 173 [.s at', .s [8]] (.tup [N (num at'*8),E 0]):=by
  have:=CB at' [8];have hl:num at'*8<da:=br (show num at'*8<(2^64)*8 by have:=dS la;omega) (by unfold da;decide+kernel)
  simpa only[oh,h4,show aa [8]=true from rfl,cT,aB,show num [8]=8 from rfl,hl]using this
 have hv8:aa (bQ (num at'*8))=true:=kI (br (show num at'*8<(2^64)*8 by have:=dS la;omega) (by decide+kernel))
 have f1:=j6 hv8 h11;rw[ba]at f1;have f2:=j6 h1 h11;have f3:=j6 h3 h11;generalize num at'*8=t8 at*;clear hv8 h1 h2 h3 h4 h5 h6 h7 h8 h9 h10 h11 h12 h13 h14 h15 h16 h17;refine eW call81 func81 ?_;repeat' first|simp only[go_sem,seval,gO,gM,Vm,Vl]|refine cP hn ?_|refine cP v1 ?_|refine cP v2 ?_|refine cP v3 ?_|refine cP v4 ?_|refine cP v5 ?_|refine cP v6 ?_|refine cP v7 ?_|refine cP v8 ?_|refine cP v9 ?_|refine cP v10 ?_|refine cP v11 ?_|refine cP v12 ?_|refine cP v13 ?_|refine cP v14 ?_|refine cP v15 ?_|refine cP v16 ?_|refine cP v17 ?_|refine cP yN ?_|refine cP Xq ?_|refine cP Of8 ?_|refine cP c1 ?_|refine cP c2 ?_|refine cP c3 ?_|refine cV u1 ?_|refine cV u2 ?_|refine cP d1 ?_|refine cP d2 ?_|refine cP d3 ?_|refine cP d4 ?_|refine cP d5 ?_|refine cP d6 ?_|refine cP d7 ?_|refine cP d8 ?_|refine cP d9 ?_|refine cP hm8 ?_|refine cP f1 ?_|refine cP f2 ?_|refine cP f3 ?_|(refine aj ?_)|refine oE ?_|apply xX<;>intro hc
 all_goals clear hn u1 u2 c1 c2 c3 v1 v2 v3 v4 v5 v6 v7 v8 v9 v10 v11 v12 v13 v14 v15 v16 v17 d1 d2 d3 d4 d5 d6 d7 d8 d9 hm8 f1 f2 f3
 all_goals first|(simp_all;done)|(simp_all;omega)
def vw (i:Nat) (c:Int):Bool:= !((decide (c>=97)&&decide (c<=122))||(decide (c>=65)&&decide (c<=90)))&&(((i:Int)==0)||((c !=95)&&(decide (c<48)||decide (c>57))))
def Ko (n:Bytes) (i:Nat):Int:=((n.getD i 0).toNat:Int)
def mP (n:Bytes):Bool:=(List.range n.length).all (fun i=> !vw i (Ko n i))&& !(n==[])&&decide (n.length<=32)
theorem KN (n:Bytes) (hn:n.length<=60):aE 83 [.s n] (.b (mP n)):=by
 refine eW call83 func83 ?_;refine qi ?_;refine ak (α:=Nat) (fun i=>n.length-i) (fun i=>⟨[(0, .v (.s n)),(7, .v (.i .i64 n.length)),(8, .v (.i .i64 (i:Nat)))],[],_⟩) (fun i=>i<=n.length/\ ∀j,j<i->vw j (Ko n j)=false) 0 (fun _=>aD _) ⟨aO _,fun j hj=>oO⟩ ?_ ?_
 ·exact lE
 ·rintro i ⟨hi,ha⟩ R hR
  by_cases hlt:i<n.length
  ·have hlt':(i:Int)<n.length:=oO;have hbad:vw i (Ko n i)=true->mP n=false:=by
    intro h;unfold mP;have:(List.range n.length).all (fun i=> !vw i (Ko n i))=false:=by
     rw[dn];intro g;have:=bH.1 g i (fN.2 hlt);rw[h]at this;cases this
    rw[this];rfl
   have hgo:vw i (Ko n i)=false-> ∀s',(AS.mk [(0, .v (.s n)),(7, .v (.i .i64 n.length)),(8, .v (.i .i64 ((i+1:Nat):Int)))] [] 1004).Le s'->R s':=by
    intro h s' hs;refine hR (i+1) ⟨oO,fun j hj=> ?_⟩ oO s' hs
    by_cases e:j=i
    ·subst e;exact h
    ·exact ha j oO
   clear hR ha;obtain⟨c,hcc⟩: ∃c,Ko n i=c:=⟨_,rfl⟩;have hcd:((n.getD i 0).toNat:Int)=c:=hcc;have h0:0<=c/\c<256:=by rw[<-hcd];have:=(n.getD i 0).toNat_lt;omega
   rw[hcc]at hbad hgo;unfold vw at hbad hgo;obtain⟨b1,h1⟩: ∃b,decide (c>=97)=b:=⟨_,rfl⟩;obtain⟨b2,h2⟩: ∃b,decide (c<=122)=b:=⟨_,rfl⟩;obtain⟨b3,h3⟩: ∃b,decide (c>=65)=b:=⟨_,rfl⟩;obtain⟨b4,h4⟩: ∃b,decide (c<=90)=b:=⟨_,rfl⟩;obtain⟨b5,h5⟩: ∃b,((i:Int)==0)=b:=⟨_,rfl⟩;obtain⟨b6,h6⟩: ∃b,(c !=95)=b:=⟨_,rfl⟩;obtain⟨b7,h7⟩: ∃b,decide (c<48)=b:=⟨_,rfl⟩;obtain⟨b8,h8⟩: ∃b,decide (c>57)=b:=⟨_,rfl⟩;rw[h1,h2,h3,h4,h5,h6,h7,h8]at hbad hgo;have e1:decide ((i:Int)<(n.length:Int))=true:=aU hlt';repeat' first|simp only[go_sem,seval,hcd,h1,h2,h3,h4,h5,h6,h7,h8,e1]|refine oE ?_|apply xX<;>intro hc
   all_goals clear h1 h2 h3 h4 h5 h6 h7 h8 hcd hcc h0
   all_goals try simp only[ey,yD]at*
   all_goals subst_vars
   all_goals first
     |(refine hgo rfl _ ?_;(refine AS.Le.of (by first|decide|omega) ?_ ?_<;>simp[dw,du,aS,aC,AV.bd,AV.bd.bdL,u8,an,ar,aA]);done)
     |(rw[hbad rfl];done)
     |(cases b6<;>first|(simp at hc;done)|(refine hgo rfl _ ?_;(refine AS.Le.of (by first|decide|omega) ?_ ?_<;>simp[dw,du,aS,aC,AV.bd,AV.bd.bdL,u8,an,ar,aA]);done)|(rw[hbad rfl];done)|fail)
     |fail
  ·obtain rfl:i=n.length:=oO;have e:mP n=(!(n==[])&&decide (n.length<=32)):=by
    unfold mP;have:(List.range n.length).all (fun i=> !vw i (Ko n i))=true:=by
     rw[bH];intro j hj;rw[ha j (fN.1 hj)];rfl
    rw[this,cq]
   rw[e];have e2:decide ((n.length:Int)<=32)=decide (n.length<=32):=by rw[fh];omega
   clear ha hR e;exact zs0
theorem R7 (h:a*b<da) (ha:a<da) (hb:b<da):aE 173 [N a,N b] (.tup [N (a*b),E 0]):=by
 have:=CB (bQ a) (bQ b);simp only[oh,vB ha,vB hb,cT,aB,ba,h]at this;exact this
theorem UE (h:a+b<da):aE 58 [N a,N b] (.tup [N (a+b),E 0]):=by
 have:=GO (bQ a) (bQ b);simp only[iR,vB (show a<da by omega),vB (show b<da by omega),cT,aB,ba,h]at this
 exact this
theorem Bo (h:b<=a) (ha:a<da):aE 138 [N a,N b] (.tup [N (a-b),E 0]):=by
 have:=CD (bQ a) (bQ b);simp only[sZ,vB ha,vB (show b<da by omega),cT,aB,ba,h]at this
 exact this
theorem EY (ha:a<da) (hb:b<da):aE 36 [N a,N b] (E (aW a b)):=by
 have:=mG (bQ a) (bQ b);simp only[vB ha,vB hb,cT,aB,ba]at this;exact this
theorem DK (h:x.natAbs<da):aE 159 [Z x] (.b true):=by
 have:=il (zs x) (zb x)
 rwa[Xo h]at this
theorem MH (hx:x.natAbs<da) (hy:y.natAbs<da):aE 412 [Z x,Z y] (.b true):=by
 have v1:=DK hx;have v2:=DK hy;refine eW call412 func412 ?_;repeat' first|simp only[go_sem,seval,Z]|refine cP v1 ?_|refine cP v2 ?_|refine oE ?_|apply xX<;>intro hc
theorem zI (b:Bool) (n:Nat) {z:Int} (h:(if b then-(n:Int)else n)=z):aE 92 [.b b,N n] (Z z):=by
 have:=xN b (bQ n);rw[zmk,h]at this;exact this
theorem Bv {n:Nat} (h:n<da):aE 38 [N n] (Z n):=nc (vB h)
theorem Uw:aE 75 [E 1] (Z 1):=by
 have h1:=ql 1 oC;have hm:=zI false 1 rfl;refine eW call75 func75 ?_;repeat' first|simp only[go_sem,seval,Z]|refine cP h1 ?_|refine cP hm ?_|refine oE ?_|apply xX<;>intro hc
theorem aax:aE 75 [E 0] (Z 0):=by
 have h1:=ql 0 oC;have hm:=zI false 0 rfl;refine eW call75 func75 ?_;repeat' first|simp only[go_sem,seval,Z]|refine cP h1 ?_|refine cP hm ?_|refine oE ?_|apply xX<;>intro hc
theorem aaw (h:y.natAbs<da):aE 77 [Z y] (Z (-y)):=by
 have hv:=DK h;have hm:=zI (!zs y) y.natAbs (Z9 y);refine eW call77 func77 ?_;repeat' first|simp only[go_sem,seval,Z]|refine cP hv ?_|refine cP hm ?_|refine oE ?_|apply xX<;>intro hc
theorem NF (hx:x.natAbs<da) (hy:y.natAbs<da) (h:x.natAbs*y.natAbs<da):aE 302 [Z x,Z y] (.tup [Z (x*y),E 0]):=by
 have hb:=MH hx hy;have hm:=R7 h hx hy;have hk:=zI (zs x !=zs y) (x.natAbs*y.natAbs) (Z8 x y);refine eW call302 func302 ?_;repeat' first|simp only[go_sem,seval,Z]|refine cP hb ?_|refine cP hm ?_|refine cP hk ?_|refine oE ?_|apply xX<;>intro hc
theorem NG (hx:x.natAbs<dP) (hy:y.natAbs<dP):aE 302 [Z x,Z y] (.tup [Z (x*y),E 0]):=
 have hw:=xD
 NF oO oO (br (fO hx hy) GC)
theorem Fu (hlim:x.natAbs+y.natAbs<da):aE 304 [Z x,Z y] (.tup [Z (x+y),E 0]):=by
 have hb0:=MH (x:=x) (y:=y) oO oO
 by_cases hs:zs x=zs y
 ·have ha:=UE hlim;have hk:=zI (zs x) (x.natAbs+y.natAbs) (P2 hs);have hb: ∀ _:True,(zs x==zs y)=true:=fun _=>by rw[hs];simp
  clear hs hlim;refine eW call304 func304 ?_;repeat' first|simp only[go_sem,seval,Z,hb oT]|refine cP hb0 ?_|refine cP ha ?_|refine cP hk ?_|refine oE ?_|apply xX<;>intro hc
 have hb: ∀ _:True,(zs x==zs y)=false:=fun _=>by simpa using hs
 have hcm:=EY (a:=x.natAbs) (b:=y.natAbs) oO oO
 by_cases hl:y.natAbs<=x.natAbs
 ·have hd:=Bo hl oO;have hk:=zI (zs x) (x.natAbs-y.natAbs) (JZ hs hl);have hg: ∀ _:True,decide (aW x.natAbs y.natAbs<0)=false:=fun _=>bu (fun h=>by rw[fx]at h;omega)
  generalize aW x.natAbs y.natAbs=cm at*;clear hs hlim;refine eW call304 func304 ?_;repeat' first|simp only[go_sem,seval,Z,hb oT,hg oT]|refine cP hb0 ?_|refine cP hcm ?_|refine cP hd ?_|refine cP hk ?_|refine oE ?_|apply xX<;>intro hc
 ·have hd:=Bo (a:=y.natAbs) (b:=x.natAbs) oO oO;have hk:=zI (zs y) (y.natAbs-x.natAbs) (P3 hs oO);have hg: ∀ _:True,decide (aW x.natAbs y.natAbs<0)=true:=fun _=>aU (by rw[fx];omega)
  generalize aW x.natAbs y.natAbs=cm at*;clear hs hlim;refine eW call304 func304 ?_;repeat' first|simp only[go_sem,seval,Z,hb oT,hg oT]|refine cP hb0 ?_|refine cP hcm ?_|refine cP hd ?_|refine cP hk ?_|refine oE ?_|apply xX<;>intro hc
theorem Yt (hx:x.natAbs<dP) (hy:y.natAbs<dP):aE 304 [Z x,Z y] (.tup [Z (x+y),E 0]):=
 Fu (br (show _<dP*dP by unfold dP at*;omega) GC)
theorem TK (hlim:x.natAbs+y.natAbs<da):aE 303 [Z x,Z y] (.tup [Z (x-y),E 0]):=by
 have hb:=MH (x:=x) (y:=y) oO oO;have hn:=aaw (y:=y) oO;have ha:=Fu (x:=x) (y:= -y) oO;rw[<-Int.sub_eq_add_neg]at ha;refine eW call303 func303 ?_;repeat' first|simp only[go_sem,seval,Z]|refine cP hb ?_|refine cP hn ?_|refine cP ha ?_|refine oE ?_|apply xX<;>intro hc
theorem TL (hx:x.natAbs<dP) (hy:y.natAbs<dP):aE 303 [Z x,Z y] (.tup [Z (x-y),E 0]):=
 TK (br (show _<dP*dP by unfold dP at*;omega) GC)
theorem uC:(2^64)<=dP:=by decide
theorem kW:(2^64)<=da:=by unfold da;decide+kernel
abbrev Z2 (x y:Int):PV:= .agg [.b (zs x), .s (zb x), .b (zs y), .s (zb y)]
theorem IU {q:Nat} {x0:Int} (hq:q<(2^64)) (h0:x0.natAbs<(2^64)+1) (h1:x1.natAbs<(2^64)+1) (hp:(((q:Nat):Int)*x1).natAbs<dP):aE 301 [Z2 x0 x1, .pt (.agg [N q]) 0] (Z2 x1 (x0-(q:Nat)*x1)):=by
 have w1:=uC;have w2:=kW;have hf:=Bv (n:=q) oO;have hm:=NG (x:=(q:Int)) (y:=x1) (by rw[Int.natAbs_natCast];omega) (by unfold dP;omega)
 have hs:=TL (x:=x0) (y:=(q:Int)*x1) (by unfold dP;omega) hp
 generalize (q:Int)*x1=v at*;generalize x0-v=u at*;refine eW call301 func301 ?_;repeat' first|simp only[go_sem,seval,Z,lW,lV]|refine cP hf ?_|refine cP hm ?_|refine cP hs ?_|refine oE ?_|apply xX<;>intro hc
theorem Jr {r0 r1 B:Nat} (h0:0<r1) (h:x1.natAbs*r0<=B):((((r0/r1:Nat):Int))*x1).natAbs<=B:=by
 rw[jg,Int.natAbs_natCast];have h1:r0/r1<=r0:=fg _ _;have:=jd x1.natAbs h1;rw[bZ]at this;omega
theorem ED (ha:a<(2^64)) (hb:b<(2^64)) (h0:0<b): ∃X Y:Int,(Nat.gcd a b=1->X.natAbs<(2^64)/\X.natAbs%b=gV a b)/\aE 181 [N a,N b] (.tup [N (Nat.gcd a b),Z X,Z Y,E 0]):=by
 have w1:=uC;have w2:=kW;obtain⟨x',y',hE⟩:=Fa (a:=a) (b:=b) (f:=b+1) oO (tC.start h0);obtain⟨res,hres⟩: ∃res,res=E9 (b+1) a b 1 0 0 1:=⟨_,rfl⟩;rw[<-hres]at hE;obtain⟨g,X0,Y0⟩:=res;simp only at hE;have hg:=hE.fin;have hgp:0<g:=by rw[hg];exact Nat.gcd_pos_of_pos_right _ h0
 have bx:=hE.bx0;have by':=hE.by0
 have hm1:b/g<=b:=fg _ _;have hk1:a/g<=a:=fg _ _;have v1:=aI (bQ a);have v2:=aI (bQ b);rw[vB (show a<da by omega)]at v1
 rw[vB (show b<da by omega)]at v2
 have e0:(bQ b==([]:Bytes))=false:=qD oO;have d1:=jF (a:=b) (b:=g) hb (by have:g<=b:=(by rw[hg];exact Er _ h0);omega) hgp
 have d2:=jF (a:=a) (b:=g) ha (by have:g<=b:=(by rw[hg];exact Er _ h0);omega) hgp
 have f1:=Bv (n:=b/g) oO;have f2:=Bv (n:=a/g) oO;have ad:=Yt (x:=X0) (y:=((b/g:Nat):Int)) (by unfold dP;omega) (by rw[Int.natAbs_natCast];unfold dP;omega)
 have sb:=TL (x:=Y0) (y:=((a/g:Nat):Int)) (by unfold dP;omega) (by rw[Int.natAbs_natCast];unfold dP;omega)
 have o1:=Uw;have o0:=aax;refine⟨if X0<0 then X0+((b/g:Nat):Int)else X0,if X0<0 then Y0-((a/g:Nat):Int)else Y0,?_,?_⟩
 ·intro h1;have g1:g=1:=by rw[hg];exact h1
  subst g1;obtain⟨k1,k3,k2⟩:=hE.inv h0 _ rfl;rw[iI];exact⟨oO,k2⟩
 ·rw[<-hg];refine eW call181 func181 ?_;simp only[go_sem,seval,Z];repeat' first|simp only[go_sem,seval,e0,Z]|refine cP v1 ?_|refine cP v2 ?_|refine cP o1 ?_|refine cP o0 ?_|refine oE ?_|apply xX<;>intro hc
  refine ak (α:=Nat×Nat×Nat×Int×Int×Int×Int) (fun s=>s.2.2.1) (fun s=>⟨[(0, .v (N a)),(1, .v (N b)),(5, .p 1001 0 0),(6, .p 1002 0 0),(8, .p 1017 0 0),(9, .p 1025 0 0),(10, .p 1026 0 0)],[(1001,⟨0,[.v (.b false), .v (.s [])],false,some 94⟩),(1002,⟨0,[.v (.b false), .v (.s [])],false,some 94⟩),(1017,⟨0,[.v (N s.2.1), .v (N s.2.2.1)],false,some 330⟩),(1025,⟨0,[.v (.b (zs s.2.2.2.1)), .v (.s (zb s.2.2.2.1)), .v (.b (zs s.2.2.2.2.1)), .v (.s (zb s.2.2.2.2.1))],false,some 346⟩),(1026,⟨0,[.v (.b (zs s.2.2.2.2.2.1)), .v (.s (zb s.2.2.2.2.2.1)), .v (.b (zs s.2.2.2.2.2.2)), .v (.s (zb s.2.2.2.2.2.2))],false,some 346⟩)],_⟩) (fun s=>s.2.2.1<s.1/\tC a b s.2.1 s.2.2.1 s.2.2.2.1 s.2.2.2.2.1 s.2.2.2.2.2.1 s.2.2.2.2.2.2/\s.2.1<(2^64)/\s.2.2.1<(2^64)/\E9 s.1 s.2.1 s.2.2.1 s.2.2.2.1 s.2.2.2.2.1 s.2.2.2.2.2.1 s.2.2.2.2.2.2=(g,X0,Y0)) (b+1,a,b,1,0,0,1) (fun _=>aD _) ⟨by show b<b+1;omega,tC.start h0,ha,hb,hres.symm⟩ ?_ ?_
  ·exact lE
  ·rintro⟨f,r0,r1,x0,x1,y0,y1⟩ ⟨hf,hS,hr0,hr1,heq⟩ R hR;simp only at hf hS hr0 hr1 heq
   cases f with
   |zero=>omega
   |succ f=>
    unfold E9 at heq
    by_cases hz:r1=0
    ·subst hz;rw[ah rfl]at heq;simp only[dZ]at heq;obtain⟨rfl,rfl,rfl⟩:=heq
     by_cases hx:x0<0
     ·have hzs:zs x0=true:=by simp[zs,hx]
      simp only[Z,hzs,lW,lV]at ad f1 f2;simp only[Z,lW,lV]at sb;rw[ah hx,ah hx];clear hR hres hE hS;repeat' first|simp only[go_sem,seval,Bk,Z,hzs,lW,lV]|refine cP d1 ?_|refine cP d2 ?_|refine cP f1 ?_|refine cP f2 ?_|refine cP ad ?_|refine cP sb ?_|refine oE ?_|apply xX<;>intro hc
     ·have hzs:zs x0=false:=by simp[zs,hx]
      rw[af hx,af hx];clear hR hres hE hS;repeat' first|simp only[go_sem,seval,Bk,Z,hzs]|refine oE ?_|apply xX<;>intro hc
    ·rw[af hz]at heq;have hpos:0<r1:=oO;have hst:=hS.step hpos;have hml:=aQ r0 hpos;have hq:r0/r1<=r0:=fg _ _;have dv:=jF hr0 hr1 hpos;have b1:=hS.bx0;have b2:=hS.bx1;have b3:=hS.by0;have b4:=hS.by1;have b5:=hS.hx;have b6:=hS.hy;have c1:=IU (q:=r0/r1) (x0:=x0) (x1:=x1) oO oO oO (by have:=Jr (r1:=r1) hpos (show x1.natAbs*r0<=b by omega);unfold dP;omega)
     have c2:=IU (q:=r0/r1) (x0:=y0) (x1:=y1) oO oO oO (by have:=Jr (r1:=r1) hpos (show y1.natAbs*r0<=a by omega);unfold dP;omega)
     have en:=qD hz;have hgo:=hR (f,r1,r0%r1,x1,x0-((r0/r1:Nat):Int)*x1,y1,y0-((r0/r1:Nat):Int)*y1) ⟨by show r0%r1<f;omega,hst,hr1,by show r0%r1< _;omega,heq⟩ hml
     clear hR heq hst hS b1 b2 b3 b4 b5 b6 hres hE;generalize x0-((r0/r1:Nat):Int)*x1=u at*;generalize y0-((r0/r1:Nat):Int)*y1=v at*;repeat' first|simp only[go_sem,seval,en,Z,Z2,bJ]|refine cP dv ?_|refine cV c1 ?_|refine cV c2 ?_|refine oE ?_|apply xX<;>intro hc
     refine hgo _ ?_;exact lE
theorem sr {a m:Nat} (ha:a<(2^64)) (hm:m<(2^64)) (h0:0<m) (hg:Nat.gcd a m=1):aE 94 [N a,N m] (.tup [N (gV a m),E 0]):=by
 have w1:=uC;have w2:=kW;have hc:=fun nm=>G8 nm (bQ a) (bQ m)
 rw[MT ha hm h0]at hc;have hl:=aQ a h0;have hd:=lJ ha hm h0;have hg':Nat.gcd (a%m) m=1:=by rw[<-hg,<-nV,kN]
 obtain⟨X,Y,h1,h3⟩:=ED (a:=a%m) (b:=m) oO hm h0;obtain⟨h4,h5⟩:=h1 hg';rw[hg']at h3;have hX:X.natAbs%m=gV a m:=by
  rw[h5];obtain⟨g1,g2⟩:=(nN h0 hg').inv;exact(gW g1 (by rw[jU]at g2;exact g2)).symm
 have hr:aE 182 [.s (zb X),N m] (N (gV a m)):=by
  have:=lJ h4 hm h0
  rwa[hX]at this
 clear h1 h4 h5 hX;refine eW call94 func94 ?_;repeat' first|simp only[go_sem,seval,Z,Oy,dQ,mq,dt]|(refine bK (hc _) (by simp) ?_)|refine cP hd ?_|refine cP h3 ?_|refine cP hr ?_|refine oE ?_|apply xX<;>intro hc
