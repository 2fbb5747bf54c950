/- Part of the proof. -/
import Derived.Test.YtnhhajlcpjgkjaaGreatDoorUC25
set_option linter.all false
set_option maxHeartbeats 8000000
set_option maxRecDepth 100000
namespace Go.Proofs.Tryz
open Go Go.Dom Go.Num
abbrev G (m o:Bytes):PV:= .agg [.s m, .s o]
theorem dZ {a:Bytes} (h:aa a=true):N (num a)= .s a:=congrArg PV.s (fm h)
def eA (m o:Bytes):Bool:=aa m&&o==[]&&(num m).testBit 0&&decide (8<num m)
theorem Y6:aE 86 [.i .u64 8] (.s [8]):=pz 8 oC
theorem xo:aE 86 [.i .u64 1] (.s [1]):=pz 1 oC
theorem V3:aE 86 [.i .u64 2] (.s [2]):=pz 2 oC
theorem HG (m o:Bytes):aE 284 [G m o] (.b (eA m o)):=by
 have hv:=aG m
 by_cases h:aa m=true
 ·have hb:=xc h 0 oC;have hcm:=lV m [8];rw[h]at hv;rw[h,show aa [8]=true from rfl,show num [8]=8 from rfl]at hcm
  have he:aZ (num m) 8>0↔8<num m:=by unfold aZ;split<;>(try split)<;>omega
  refine eW call284 func284 ?_;repeat' first|simp only[go_sem,seval]|refine cP hv ?_|refine cP hb ?_|refine cP Y6 ?_|refine cP hcm ?_|refine oE ?_|apply xX<;>intro hc
  all_goals simp_all[eA]
 ·have h:aa m=false:=by simpa using h
  rw[h]at hv;have e:eA m o=false:=by simp[eA,h]
  rw[e];refine eW call284 func284 ?_;exact z1 @hv
theorem wk:aE 166 [] (N 1):=by
 refine eW call166 func166 ?_;exact z1 @xo
theorem uC (p q:Bytes):aE 286 [G p q] (G p q):=by
 refine eW call286 func286 ?_;exact z0
def dx (m o x:Bytes):Bool:=eA m o&&aa x&& !(x==[])&&decide (num x<num m)&&decide (Nat.gcd (num x) (num m)=1)
theorem xH (a b:Nat):(aZ a b>=0)=(b<=a):=by
 unfold aZ;rw[eq_iff_iff];split<;>(try split)<;>omega
theorem Cf {m:Bytes} (lm:m.length<=8) (o x:Bytes):aE 170 [G m o, .s x] (.b (dx m o x)):=by
 have hg:=HG m o;have hv:=aG x
 by_cases h:eA m o=true/\aa x=true/\x≠[]/\num x<num m
 ·obtain⟨h1,h2,h3,h4⟩:=h;have hm:aa m=true:=by simp[eA]at h1;exact h1.1.1.1
  have hcm:=lV x m;rw[h2,hm]at hcm;have hnm:=dO lm;have hgc:=Wo (a:=num x) (b:=num m) oO hnm;rw[dZ h2,dZ hm]at hgc;rw[h1]at hg;rw[h2]at hv;have hx:(x==([]:Bytes))=false:=by simpa using h3
  have hlt: ¬aZ (num x) (num m)>=0:=by rw[xH];omega
  have e:dx m o x=decide (Nat.gcd (num x) (num m)=1):=by simp[dx,h1,h2,h4];intro;exact h3
  rw[e];refine eW call170 func170 ?_;repeat' first|simp only[go_sem,seval,hx,xB]|refine cP hg ?_|refine cP hv ?_|refine cP hcm ?_|refine cP hgc ?_|refine cP wk ?_|refine oE ?_|apply xX<;>intro hc
  all_goals skip
 ·have e:dx m o x=false:=by
   rw[dy];intro g;simp[dx]at g;exact h ⟨g.1.1.1.1,g.1.1.1.2,g.1.1.2,g.1.2⟩
  have hcm:=lV x m;rw[e]
  by_cases h1:eA m o=true
  ·have hm:aa m=true:=by simp[eA]at h1;exact h1.1.1.1
   rw[h1]at hg
   by_cases h2:aa x=true
   ·rw[h2]at hv;rw[h2,hm]at hcm
    by_cases h3:x=[]
    ·subst h3;refine eW call170 func170 ?_;exact zA @nn @hg @hv
    ·have hx:(x==([]:Bytes))=false:=by simpa using h3
     have hge:aZ (num x) (num m)>=0:=by rw[xH];exact CY fun g=>h ⟨h1,h2,h3,g⟩
     refine eW call170 func170 ?_;repeat' first|simp only[go_sem,seval,hx]|refine cP hg ?_|refine cP hv ?_|refine cP hcm ?_|refine oE ?_|apply xX<;>intro hc
     all_goals skip
   ·have h2:aa x=false:=by simpa using h2
    rw[h2]at hv;refine eW call170 func170 ?_;exact z2 @hg @hv
  ·have h1:eA m o=false:=by simpa using h1
   rw[h1]at hg;refine eW call170 func170 ?_;exact z1 @hg
def yY (a:Bytes):Bool:=aa a&&decide (a.length<=8)&&um (num a)
def Bb (p q:Bytes):Int:=if dE p≠0 then dE p else if dE q≠0 then dE q else if yY p&&yY q&& !(p==q)then 0 else 12
theorem Iw (p q:Bytes):aE 285 [G p q] (E (Bb p q)):=by
 have h1:aE 405 [.s p] (.tup [.b (yY p),E (dE p)]):=AK p;have h2:aE 405 [.s q] (.tup [.b (yY q),E (dE q)]):=AK q;generalize hp:yY p=sp at*;generalize hq:yY q=sq at*;unfold Bb;rw[hp,hq];generalize dE p=ep at*;generalize dE q=eq at*;refine eW call285 func285 ?_;exact YN (uC p q) @h1 @h2
def jo (m o p q:Bytes):Int:=if !(aa m&&aa o&&aa p&&aa q)then 3 else if !eA m o then 13 else if(ny p q).2≠0\/(ny p q).1≠m then 1 else Bb p q
theorem AQ (m o p q:Bytes):aE 156 [G m o,G p q] (E (jo m o p q)):=by
 have v1:=aG m;have v2:=aG o;have v3:=aG p;have v4:=aG q;have hg:=HG m o;have hm:=Bn p q;have hs:=Iw p q;unfold jo;generalize aa m=b1 at*;generalize aa o=b2 at*;generalize aa p=b3 at*;generalize aa q=b4 at*;generalize eA m o=b5 at*;generalize Bb p q=se at*;generalize ny p q=mb at*;obtain⟨mb1,mb2⟩:=mb;simp only at hm;refine eW call156 func156 ?_;exact zs7 @v1 @v2 @v3 @v4 @hg @hm @hs
def Dk (m o p q x:Bytes):Int:=if !aa x then 3 else if jo m o p q≠0 then jo m o p q else if !dx m o x then 13 else 0
theorem ru {m:Bytes} (lm:m.length<=8) (o p q x:Bytes):aE 163 [G m o,G p q, .s x] (E (Dk m o p q x)):=by
 have v1:=aG x;have v2:=AQ m o p q;have v3:=Cf lm o x;unfold Dk;generalize aa x=b1 at*;generalize jo m o p q=b2 at*;generalize dx m o x=b3 at*;refine eW call163 func163 ?_;exact YM @v1 @v2 @v3 oT
structure KH (m o p q:Bytes):Prop where
 vm:aa m=true
 vp:aa p=true
 vq:aa q=true
 lp:p.length<=8
 lq:q.length<=8
 o:o=[]
 mul:num m=num p*num q
 odd:num m%2=1
 sp:um (num p)=true
 sq:um (num q)=true
 ne:num p≠num q
theorem QJ {m o p q:Bytes} (h:jo m o p q=0):KH m o p q:=by
 unfold jo at h
 split at h
 ·cases h
 ·rename_i h1;simp only[dW,wW,ba]at h1;obtain⟨⟨⟨v1,v2⟩,v3⟩,v4⟩:=h1
  split at h
  ·cases h
  ·rename_i h2;simp only[dW,wW]at h2
   split at h
   ·cases h
   ·rename_i h3;have h3a:(ny p q).2=0:=Classical.not_not.1 fun g=>h3 (.inl g)
    have h3b:(ny p q).1=m:=Classical.not_not.1 fun g=>h3 (.inr g)
    unfold Bb at h
    split at h
    ·contradiction
    ·split at h
     ·contradiction
     ·split at h
      ·rename_i h4;simp only[yY,ba,bM,dW,ey]at h4;obtain⟨⟨⟨⟨-,lp⟩,sp⟩,⟨-,lq⟩,sq⟩,ne⟩:=h4;simp only[eA,ba,bM,fV]at h2;obtain⟨⟨⟨-,ho⟩,hb⟩,-⟩:=h2;unfold ny at h3a h3b;rw[v3,v4]at h3a h3b;simp only[cX,az]at h3a h3b
       split at h3a
       ·rename_i h5;rw[ah h5]at h3b;refine⟨v1,v3,v4,lp,lq,ho,?_,?_,sp,sq,fun e=>ne ?_⟩
        ·rw[<-h3b,aY]
        ·rw[Nat.testBit_zero]at hb;simpa using hb
        ·rw[<-fm v3,e,fm v4]
       ·cases h3a
      ·cases h
theorem KH.Xl {m o p q:Bytes} (t:KH m o p q):num p%2=1/\num q%2=1:=by
 have h:=t.odd;rw[t.mul,cC]at h;have h1:num p%2=0\/num p%2=1:=oO;have h2:num q%2=0\/num q%2=1:=oO;rcases h1 with e1|e1<;>rcases h2 with e2|e2<;>simp_all
def Q8 (p q x:Bytes):Bool:=decide (TY (num x) (num p)=1)&&decide (TY (num x) (num q)=1)
theorem uM {m o p q x:Bytes} (t:KH m o p q) (vx:aa x=true) (lx:x.length<=8):aE 164 [G p q, .s x] (.b (Q8 p q x)):=by
 obtain⟨o1,o2⟩:=t.Xl;have j1:=Hb (dO lx) (dO t.lp) o1;have j2:=Hb (dO lx) (dO t.lq) o2;rw[dZ vx,dZ t.vp]at j1;rw[dZ vx,dZ t.vq]at j2;unfold Q8;generalize TY (num x) (num p)=a at*;generalize TY (num x) (num q)=b at*;refine eW call164 func164 ?_;exact YN (uC p q) @j1 @j2
theorem Zq {m o p q x:Bytes} (h:Dk m o p q x=0):aa x=true/\KH m o p q/\dx m o x=true:=by
 unfold Dk at h
 split at h
 ·cases h
 ·rename_i h1
  split at h
  ·contradiction
  ·rename_i h2
   split at h
   ·cases h
   ·rename_i h3;exact⟨by simpa using h1,QJ (by simpa using h2),by simpa using h3⟩
theorem HI {m o x:Bytes} (lm:m.length<=8) (h:dx m o x=true):x.length<=8:=by
 simp only[dx,ba,bM]at h;obtain⟨⟨⟨⟨h1,h2⟩,h3⟩,h4⟩,h5⟩:=h;have:=dO lm;rw[<-fm h2];exact lN oO
theorem Dp {m:Bytes} (lm:m.length<=8) (o p q x:Bytes):aE 158 [G m o,G p q, .s x] (.tup [.b (decide (Dk m o p q x=0)&&Q8 p q x),E (Dk m o p q x)]):=by
 have he:=ru lm o p q x
 by_cases h0:Dk m o p q x=0
 ·obtain⟨vx,t,hh⟩:=Zq h0;have hs:=uM t vx (HI lm hh);rw[h0]at he⊢;refine eW call158 func158 ?_;exact Og @he @hs
 ·generalize Dk m o p q x=e at*;refine eW call158 func158 ?_;exact Om @he
def L8 (p q x:Bytes):Bool:=Q8 p q x&&decide (num x%num p≠1)&&decide (num x%num q≠1)
theorem xj {m:Bytes} (lm:m.length<=8) (o p q x:Bytes):aE 157 [G m o,G p q, .s x] (.tup [.b (decide (Dk m o p q x=0)&&L8 p q x),E (Dk m o p q x)]):=by
 have he:=ru lm o p q x
 by_cases h0:Dk m o p q x=0
 ·obtain⟨vx,t,hh⟩:=Zq h0;have lx:=HI lm hh;have hs:=uM t vx lx;obtain⟨o1,o2⟩:=t.Xl;have d1:=jf (dO lx) (dO t.lp) oO;have d2:=jf (dO lx) (dO t.lq) oO;rw[dZ vx,dZ t.vp]at d1;rw[dZ vx,dZ t.vq]at d2;rw[h0]at he⊢;unfold L8;generalize Q8 p q x=sb at*;refine eW call157 func157 ?_;repeat' first|simp only[go_sem,seval,xB]|refine cP he ?_|refine cP hs ?_|refine cP (uC p q) ?_|refine cP wk ?_|refine cP d1 ?_|refine cP d2 ?_|(refine aj ?_)|refine oE ?_|apply xX<;>intro hc
  all_goals simp_all
 ·generalize Dk m o p q x=e at*;refine eW call157 func157 ?_;exact Om @he
theorem wa (n:Bool) (a:Bytes):aE 92 [.b n, .s a] (.agg [.b (n&& !(a==[])), .s a]):=by
 refine eW call92 func92 ?_;exact YL
theorem gO (n:Bool) (a:Bytes):aE 159 [.agg [.b n, .s a]] (.b (aa a&& !(n&&a==[]))):=by
 have hv:=aG a;refine eW call159 func159 ?_;exact Om @hv
theorem mG {a:Bytes} (h:aa a=true):aE 38 [.s a] (.agg [.b false, .s a]):=by
 have hv:=aG a;rw[h]at hv;refine eW call38 func38 ?_;repeat' first|simp only[go_sem,seval]|refine cP hv ?_|refine cP (wa _ _) ?_|refine oE ?_|apply xX<;>intro hc
 all_goals simp_all
theorem Av (m o:Bytes):aE 291 [G m o] (.b (aa m&&aa o)):=by
 have v1:=aG m;have v2:=aG o;refine eW call291 func291 ?_;exact Og @v1 @v2
theorem SP {a b:Nat} (ha:a<(2^64)) (hb:b<(2^64)):aE 138 [N a,N b] (.tup [if b<=a then N (a-b)else .s [],E (if b<=a then 0 else 2)]):=by
 have:=Bq (bR a) (bR b);simp only[rM,vN ha,vN hb,cX,az,aY]at this
 by_cases h:b<=a
 ·simp only[h,az]at this⊢;exact this
 ·simp only[h,ar]at this⊢;exact this
theorem DJ {m o:Nat} (hm:m<(2^64)) (ho:o<(2^64)):aE 292 [G (bR m) (bR o)] (.tup [if m=0\/o=0 then .s []else N ((m-1)/o), .b (decide (m≠0)&&decide (o≠0)&&decide ((m-1)%o=0))]):=by
 have hs:=SP hm (show 1<(2^64) by decide)
 by_cases m0:m=0
 ·subst m0;simp only[show¬1<=0 by omega,ar]at hs
  refine eW call292 func292 ?_;simp only[go_sem,seval,dJ];exact VY @dJ @hs
 ·rw[ah oO,ah oO]at hs
  by_cases o0:o=0
  ·subst o0;refine eW call292 func292 ?_;simp only[go_sem,seval,dJ];exact VY (aN @dJ @zP) @hs
  ·have hd:=jf (a:=m-1) (b:=o) oO ho oO;have e:=pK o0;have hz:(bR ((m-1)%o)==([]:Bytes))=decide ((m-1)%o=0):=by
    rw[dk];simp[gA]
   refine eW call292 func292 ?_;simp only[go_sem,seval,dJ];exact Rn (aN @dJ (aN @e @hz)) @hs @hd
def tP (m o:Bytes):Int:=if !(aa m&&aa o)then 3 else if 8<m.length then 5 else if !fL (num m)then 12 else if 8<o.length then 13 else if !fL (num o)then 12 else if(num m-1)%num o=0 then 0 else 13
theorem Gi (m o:Bytes):aE 171 [G m o] (E (tP m o)):=by
 have hf:=Av m o;have hm:=qi m;have ho:=qi o
 by_cases hv:aa m=true/\aa o=true
 case neg=>
  have e:(aa m&&aa o)=false:=by rw[dy];intro g;simp at g;exact hv g
  rw[e]at hf;have e2:tP m o=3:=by simp[tP,e]
  rw[e2];refine eW call171 func171 ?_;exact z1 @hf
 obtain⟨v1,v2⟩:=hv;rw[v1,v2]at hf;rw[v1]at hm;rw[v2]at ho
 by_cases l1:m.length<=8
 case neg=>
  have e2:tP m o=5:=by simp[tP,v1,v2];intro g;omega
  rw[e2];refine eW call171 func171 ?_;exact z1 @hf
 have em:dE m=0:=by simp[dE,v1,l1]
 rw[aV l1,em]at hm
 by_cases l2:o.length<=8
 case neg=>
  by_cases p1:fL (num m)=true
  ·have e2:tP m o=13:=by simp[tP,v1,v2,p1,show¬8<m.length by omega,show 8<o.length by omega]
   rw[p1]at hm;rw[e2];refine eW call171 func171 ?_;exact z2 @hf @hm
  ·have p1:fL (num m)=false:=by simpa using p1
   have e2:tP m o=12:=by simp[tP,v1,v2,p1,l1]
   rw[p1]at hm;rw[e2];refine eW call171 func171 ?_;exact z2 @hf @hm
 have eo:dE o=0:=by simp[dE,v2,l2]
 rw[aV l2,eo]at ho;have hc:=DJ (dO l1) (dO l2);rw[fm v1,fm v2]at hc;have hcm:=hc;clear hc;unfold tP;rw[v1,v2]
 by_cases p1:fL (num m)=true
 ·by_cases p2:fL (num o)=true
  ·have h2:2<=num m:=by rcases iN (num m) 2 with g|g;simp[fL,g]at p1;exact g
   have h3:2<=num o:=by rcases iN (num o) 2 with g|g;simp[fL,g]at p2;exact g
   rw[p1]at hm;rw[p2]at ho;rw[af oO,aV (show num m≠0 by omega),aV (show num o≠0 by omega)]at hcm
   rw[p1,p2];generalize (num m-1)%num o=z at*;refine eW call171 func171 ?_;repeat' first|simp only[go_sem,seval]|refine cP hf ?_|refine cP hm ?_|refine cP ho ?_|refine cP hcm ?_|refine oE ?_|apply xX<;>intro hc
   all_goals simp_all
   all_goals omega
  ·have p2:fL (num o)=false:=by simpa using p2
   rw[p1]at hm;rw[p2]at ho;rw[p1,p2];refine eW call171 func171 ?_;repeat' first|simp only[go_sem,seval]|refine cP hf ?_|refine cP hm ?_|refine cP ho ?_|refine oE ?_|apply xX<;>intro hc
   all_goals simp_all
   all_goals omega
 ·have p1:fL (num m)=false:=by simpa using p1
  rw[p1]at hm;rw[p1];refine eW call171 func171 ?_;repeat' first|simp only[go_sem,seval]|refine cP hf ?_|refine cP hm ?_|refine oE ?_|apply xX<;>intro hc
  all_goals simp_all
  all_goals omega
def gW (m o x:Bytes):Bool:=aa m&&aa o&&aa x&& !(o==[])&& !(x==[])&&decide (num x<num m)&&decide (num x^num o%num m=1%num m)
theorem Et {m:Bytes} (lm:m.length<=8) (o x:Bytes):aE 293 [G m o, .s x] (.b (gW m o x)):=by
 have hf:=Av m o;have vx:=aG x;have hcm:=lV x m
 by_cases h:aa m=true/\aa o=true/\aa x=true/\o≠[]/\x≠[]/\num x<num m
 ·obtain⟨v1,v2,v3,h4,h5,h6⟩:=h;have e4:(o==([]:Bytes))=false:=by simpa using h4
  have e5:(x==([]:Bytes))=false:=by simpa using h5
  have hn:=dO lm;have hE:=Sv (a:=num x) (m:=num m) (e:=o) oO v2 hn oO;have hE0:=Sv (a:=num x) (m:=num m) (e:=[]) oO rfl hn oO;rw[dZ v3,dZ v1]at hE hE0;rw[show num ([]:Bytes)=0 from rfl,Nat.pow_zero]at hE0
  rw[v1,v2]at hf;rw[v3]at vx;rw[v3,v1]at hcm;have hlt: ¬aZ (num x) (num m)>=0:=by rw[xH];omega
  have e:gW m o x=decide (num x^num o%num m=1%num m):=by simp[gW,v1,v2,v3,e4,e5,h6]
  rw[e];generalize num x^num o%num m=z1 at*;generalize 1%num m=z2 at*;refine eW call293 func293 ?_;exact Of (aN @e4 (aN @e5 @xB)) @hf @vx @hcm @hE @hE0 oT oT
 ·have e:gW m o x=false:=by
   rw[dy];intro g;simp[gW]at g;exact h ⟨g.1.1.1.1.1.1,g.1.1.1.1.1.2,g.1.1.1.1.2,g.1.1.1.2,g.1.1.2,g.1.2⟩
  rw[e]
  by_cases v1:aa m=true<;>by_cases v2:aa o=true<;>by_cases v3:aa x=true
  ·rw[v1,v2]at hf;rw[v3]at vx;rw[v3,v1]at hcm
   by_cases h4:o=[]
   ·subst h4;refine eW call293 func293 ?_;exact zA @nn @hf @vx
   ·have e4:(o==([]:Bytes))=false:=by simpa using h4
    by_cases h5:x=[]
    ·subst h5;refine eW call293 func293 ?_;exact zA (aN @nn @e4) @hf @vx
    ·have e5:(x==([]:Bytes))=false:=by simpa using h5
     have hge:aZ (num x) (num m)>=0:=by rw[xH];exact CY fun g=>h ⟨v1,v2,v3,h4,h5,g⟩
     refine eW call293 func293 ?_;exact zB (aN @e4 @e5) @hf @vx @hcm oT
  all_goals simp only[C6]at v1 v2 v3
  all_goals simp only[v1,v2,gj,oY,cX,cj,db]at hf
  all_goals simp only[v3]at vx
  ·refine eW call293 func293 ?_;exact z2 @hf @vx
  ·refine eW call293 func293 ?_;exact z2 @hf @vx
  ·refine eW call293 func293 ?_;exact z2 @hf @vx
  ·refine eW call293 func293 ?_;exact z2 @hf @vx
  ·refine eW call293 func293 ?_;exact z2 @hf @vx
  ·refine eW call293 func293 ?_;exact z2 @hf @vx
  ·refine eW call293 func293 ?_;exact z2 @hf @vx
theorem Es {m:Bytes} (lm:m.length<=8) (o x:Bytes):aE 172 [G m o, .s x] (.b (gW m o x&& !(x==[1]))):=by
 have h:=Et lm o x;generalize gW m o x=z at*;refine eW call172 func172 ?_;exact Om @h
def AL (m:Bytes):Int:=if !aa m then 3 else if eA m []then 0 else 13
theorem rG (m:Bytes):aE 84 [G m []] (E (AL m)):=by
 have hv:=aG m;have hv0:=aG [];rw[show aa []=true from rfl]at hv0
 by_cases h:aa m=true
 ·have hb:=xc h 0 oC;have hcm:=lV m [8];rw[h]at hv;rw[h,show aa [8]=true from rfl,show num [8]=8 from rfl]at hcm
  have he:aZ (num m) 8<=0↔ ¬8<num m:=by unfold aZ;split<;>(try split)<;>omega
  have e:AL m=if(num m).testBit 0&&decide (8<num m)then 0 else 13:=by simp[AL,eA,h]
  rw[e];clear e;generalize (num m).testBit 0=tb at*;refine eW call84 func84 ?_;exact Of @nn @hv @hv0 @hb @Y6 @hcm oT oT
 ·have h:aa m=false:=by simpa using h
  rw[h]at hv;have e:AL m=3:=by simp[AL,h]
  rw[e];refine eW call84 func84 ?_;exact z1 @hv
theorem Ex {m:Bytes} (lm:m.length<=8) (x:Bytes):aE 175 [G m [], .s x] (.b (dx m [] x)):=by
 have h:=Cf lm [] x;refine eW call175 func175 ?_;exact lF @nn @h
theorem J9 {m o x:Bytes} (h:dx m o x=true):eA m o=true:=by
 simp only[dx,ba]at h;exact h.1.1.1.1
theorem Vi {m:Bytes}:AL m=0↔eA m []=true:=by
 unfold AL;constructor
 ·intro h;split at h
  ·cases h
  ·split at h
   ·assumption
   ·cases h
 ·intro h;have:aa m=true:=by simp[eA]at h;exact h.1.1
  simp[this,h]
theorem yJ {m:Bytes} (lm:m.length<=8) (x:Bytes):aE 85 [G m [], .s x] (.b (dx m [] x)):=by
 have h1:=rG m;have h2:=Ex lm x
 by_cases h0:AL m=0
 ·rw[h0]at h1;refine eW call85 func85 ?_;exact Og @h1 @h2
 ·have e:dx m [] x=false:=by
   rw[dy];intro g;exact h0 (Vi.2 (J9 g))
  rw[e];generalize AL m=z at*;refine eW call85 func85 ?_;exact Om @h1
end Go.Proofs.Tryz
namespace Go.Proofs.Tryz
open Go Go.Dom Go.Num
variable {a b:Nat} {x x1 y:Int}
structure cq where
 (c sl mm mo mg mh wm wo wg wh se at' ha el es bl ma:Bytes)
def cq.pv (p:cq):PV:= .agg [.s p.c, .s p.sl, .s p.mm, .s p.mo, .s p.mg, .s p.mh, .s p.wm, .s p.wo, .s p.wg, .s p.wh, .s p.se, .s p.at', .s p.ha, .s p.el, .s p.es, .s p.bl, .s p.ma]
def cq.eP (p:cq):List Bytes:=[p.c,p.sl,p.se,p.at',p.ha,p.el,p.es,p.bl,p.ma,p.mm,p.mo,p.mg,p.mh,p.wm,p.wo,p.wg,p.wh]
theorem yv (p:cq):aE 168 [p.pv] (.sl (p.eP.map .s)):=by
 obtain⟨c,sl,mm,mo,mg,mh,wm,wo,wg,wh,se,at',ha,el,es,bl,ma⟩:=p;unfold cq.pv cq.eP;simp only;refine eW call168 func168 ?_;repeat' first|simp only[go_sem,seval,gg,gi]|(refine aj ?_)|refine oE ?_|apply xX<;>intro hc
 rfl
theorem IB {p:cq} (lw:p.wm.length<=8) (x:Bytes):aE 169 [.s x, .pt p.pv 0, .pt (.agg [.s [1]]) 0] (.b (dx p.wm p.wo x&& !(x==[1]))):=by
 have h:=Cf lw p.wo x;unfold cq.pv;generalize dx p.wm p.wo x=z at*;refine eW call169 func169 ?_;exact Om @h
def cq.short (p:cq):Prop:= ∀x∈p.eP,x.length<=8
def cq.zX (p:cq):List Bytes:=[p.c,p.sl,p.se,p.at',p.ha,p.el,p.es,p.bl,p.ma]
def eQ (p:cq):Int:=if p.eP.all aa then
  (if tP p.mm p.mo≠0\/ !(gW p.mm p.mo p.mg&& !(p.mg==[1]))\/ !(gW p.mm p.mo p.mh&& !(p.mh==[1]))\/ !(dx p.wm p.wo p.wg&& !(p.wg==[1]))\/ !(dx p.wm p.wo p.wh&& !(p.wh==[1]))then 13
   else if p.zX.any (fun x=>decide (num x<2))then 2
   else if num p.at'*8>num p.mo\/num p.c>num p.mo\/num p.se>num p.mo then 2 else 0)else 3
theorem l7 {x:Bytes} (h:aa x=true):aE 36 [.s x, .s [2]] (E (aZ (num x) 2)):=by
 have:=lV x [2]
 rwa[h,show aa [2]=true from rfl,show num [2]=2 from rfl]at this
theorem jH {x y:Bytes} (h:aa x=true) (g:aa y=true):aE 36 [.s x, .s y] (E (aZ (num x) (num y))):=by
 have:=lV x y
 rwa[h,g]at this
theorem TC (a b:Nat):(aZ a b<0)=(a<b):=by rw[eq_iff_iff];exact fy
theorem TB (a b:Nat):(aZ a b>0)=(b<a):=by
 unfold aZ;rw[eq_iff_iff];split<;>(try split)<;>omega
theorem U0 (p:cq) (h:p.eP.all aa=false):aE 81 [p.pv] (E 3):=by
 have hn:=yv p;obtain⟨c,sl,mm,mo,mg,mh,wm,wo,wg,wh,se,at',ha,el,es,bl,ma⟩:=p;unfold cq.pv cq.eP at*;simp only[bV,bj]at*;refine eW call81 func81 ?_;repeat' first|simp only[go_sem,seval,gg,gi]|refine cP hn ?_|refine cP (aG _) ?_|(refine aj ?_)|refine oE ?_|apply xX<;>intro hc
 exfalso
 simp_all
theorem Qo (p:cq) (h:p.eP.all aa=true) (hs:p.short):aE 81 [p.pv] (E (eQ p)):=by
 have hn:=yv p;have lw:p.wm.length<=8:=hs _ (by simp[cq.eP])
 have lm:p.mm.length<=8:=hs _ (by simp[cq.eP])
 have la:p.at'.length<=8:=hs _ (by simp[cq.eP])
 have u1:=IB lw p.wg;have u2:=IB lw p.wh;have c1:=Gi p.mm p.mo;have c2:=Es lm p.mo p.mg;have c3:=Es lm p.mo p.mh;unfold eQ;rw[h];generalize (dx p.wm p.wo p.wg&& !(p.wg==[1]))=b1 at*;generalize (dx p.wm p.wo p.wh&& !(p.wh==[1]))=b2 at*;generalize (gW p.mm p.mo p.mg&& !(p.mg==[1]))=b3 at*;generalize (gW p.mm p.mo p.mh&& !(p.mh==[1]))=b4 at*;generalize tP p.mm p.mo=e1 at*;clear hs;obtain⟨c,sl,mm,mo,mg,mh,wm,wo,wg,wh,se,at',ha,el,es,bl,ma⟩:=p;unfold cq.pv cq.eP cq.zX at*;simp only[bV,bj,List.all_cons,List.all_nil,ba,gj]at*;obtain⟨h1,h2,h3,h4,h5,h6,h7,h8,h9,h10,h11,h12,h13,h14,h15,h16,h17⟩:=h;have v1:=aG c;have v2:=aG sl;have v3:=aG se;have v4:=aG at';have v5:=aG ha;have v6:=aG el;have v7:=aG es;have v8:=aG bl;have v9:=aG ma;have v10:=aG mm;have v11:=aG mo;have v12:=aG mg;have v13:=aG mh;have v14:=aG wm;have v15:=aG wo;have v16:=aG wg;have v17:=aG wh;rw[h1]at v1;rw[h2]at v2;rw[h3]at v3;rw[h4]at v4;rw[h5]at v5;rw[h6]at v6;rw[h7]at v7;rw[h8]at v8;rw[h9]at v9;rw[h10]at v10;rw[h11]at v11;rw[h12]at v12;rw[h13]at v13;rw[h14]at v14;rw[h15]at v15;rw[h16]at v16;rw[h17]at v17;have d1:=l7 h1;have d2:=l7 h2;have d3:=l7 h3;have d4:=l7 h4;have d5:=l7 h5;have d6:=l7 h6;have d7:=l7 h7;have d8:=l7 h8;have d9:=l7 h9;have hm8:aE 173 [.s at', .s [8]] (.tup [N (num at'*8),E 0]):=by
  have:=Bn at' [8];have hl:num at'*8<dC:=b9 (show num at'*8<(2^64)*8 by have:=dO la;omega) (by unfold dC;decide+kernel)
  simpa only[ny,h4,show aa [8]=true from rfl,cX,az,show num [8]=8 from rfl,hl]using this
 have hv8:aa (bR (num at'*8))=true:=jY (b9 (show num at'*8<(2^64)*8 by have:=dO la;omega) (by decide+kernel))
 have f1:=jH hv8 h11;rw[aY]at f1;have f2:=jH h1 h11;have f3:=jH h3 h11;generalize num at'*8=t8 at*;clear hv8 h1 h2 h3 h4 h5 h6 h7 h8 h9 h10 h11 h12 h13 h14 h15 h16 h17;refine eW call81 func81 ?_;repeat' first|simp only[go_sem,seval,gg,gi,TC,TB]|refine cP hn ?_|refine cP v1 ?_|refine cP v2 ?_|refine cP v3 ?_|refine cP v4 ?_|refine cP v5 ?_|refine cP v6 ?_|refine cP v7 ?_|refine cP v8 ?_|refine cP v9 ?_|refine cP v10 ?_|refine cP v11 ?_|refine cP v12 ?_|refine cP v13 ?_|refine cP v14 ?_|refine cP v15 ?_|refine cP v16 ?_|refine cP v17 ?_|refine cP xo ?_|refine cP V3 ?_|refine cP Y6 ?_|refine cP c1 ?_|refine cP c2 ?_|refine cP c3 ?_|refine cV u1 ?_|refine cV u2 ?_|refine cP d1 ?_|refine cP d2 ?_|refine cP d3 ?_|refine cP d4 ?_|refine cP d5 ?_|refine cP d6 ?_|refine cP d7 ?_|refine cP d8 ?_|refine cP d9 ?_|refine cP hm8 ?_|refine cP f1 ?_|refine cP f2 ?_|refine cP f3 ?_|(refine aj ?_)|refine oE ?_|apply xX<;>intro hc
 all_goals clear hn u1 u2 c1 c2 c3 v1 v2 v3 v4 v5 v6 v7 v8 v9 v10 v11 v12 v13 v14 v15 v16 v17 d1 d2 d3 d4 d5 d6 d7 d8 d9 hm8 f1 f2 f3
 all_goals first|(simp_all;done)|(simp_all;omega)
def tX (i:Nat) (c:Int):Bool:= !((decide (c>=97)&&decide (c<=122))||(decide (c>=65)&&decide (c<=90)))&&(((i:Int)==0)||((c !=95)&&(decide (c<48)||decide (c>57))))
def Ja (n:Bytes) (i:Nat):Int:=((n.getD i 0).toNat:Int)
def mi (n:Bytes):Bool:=(List.range n.length).all (fun i=> !tX i (Ja n i))&& !(n==[])&&decide (n.length<=32)
theorem JB (n:Bytes) (hn:n.length<=60):aE 83 [.s n] (.b (mi n)):=by
 refine eW call83 func83 ?_;refine qY ?_;refine ak (α:=Nat) (fun i=>n.length-i) (fun i=>⟨[(0, .v (.s n)),(7, .v (.i .i64 n.length)),(8, .v (.i .i64 (i:Nat)))],[],_⟩) (fun i=>i<=n.length/\ ∀j,j<i->tX j (Ja n j)=false) 0 (fun _=>aD _) ⟨aR _,fun j hj=>oO⟩ ?_ ?_
 ·exact lE
 ·rintro i ⟨hi,ha⟩ R hR
  by_cases hlt:i<n.length
  ·have hlt':(i:Int)<n.length:=oO;have hbad:tX i (Ja n i)=true->mi n=false:=by
    intro h;unfold mi;have:(List.range n.length).all (fun i=> !tX i (Ja n i))=false:=by
     rw[dy];intro g;have:=bH.1 g i (fS.2 hlt);rw[h]at this;cases this
    rw[this];rfl
   have hgo:tX i (Ja n i)=false-> ∀s',(AS.mk [(0, .v (.s n)),(7, .v (.i .i64 n.length)),(8, .v (.i .i64 ((i+1:Nat):Int)))] [] 1004).Le s'->R s':=by
    intro h s' hs;refine hR (i+1) ⟨oO,fun j hj=> ?_⟩ oO s' hs
    by_cases e:j=i
    ·subst e;exact h
    ·exact ha j oO
   clear hR ha;obtain⟨c,hcc⟩: ∃c,Ja n i=c:=⟨_,rfl⟩;have hcd:((n.getD i 0).toNat:Int)=c:=hcc;have h0:0<=c/\c<256:=by rw[<-hcd];have:=(n.getD i 0).toNat_lt;omega
   rw[hcc]at hbad hgo;unfold tX at hbad hgo;obtain⟨b1,h1⟩: ∃b,decide (c>=97)=b:=⟨_,rfl⟩;obtain⟨b2,h2⟩: ∃b,decide (c<=122)=b:=⟨_,rfl⟩;obtain⟨b3,h3⟩: ∃b,decide (c>=65)=b:=⟨_,rfl⟩;obtain⟨b4,h4⟩: ∃b,decide (c<=90)=b:=⟨_,rfl⟩;obtain⟨b5,h5⟩: ∃b,((i:Int)==0)=b:=⟨_,rfl⟩;obtain⟨b6,h6⟩: ∃b,(c !=95)=b:=⟨_,rfl⟩;obtain⟨b7,h7⟩: ∃b,decide (c<48)=b:=⟨_,rfl⟩;obtain⟨b8,h8⟩: ∃b,decide (c>57)=b:=⟨_,rfl⟩;rw[h1,h2,h3,h4,h5,h6,h7,h8]at hbad hgo;have e1:decide ((i:Int)<(n.length:Int))=true:=aV hlt';repeat' first|simp only[go_sem,seval,hcd,h1,h2,h3,h4,h5,h6,h7,h8,e1]|refine oE ?_|apply xX<;>intro hc
   all_goals clear h1 h2 h3 h4 h5 h6 h7 h8 hcd hcc h0
   all_goals try simp only[dW,wS]at*
   all_goals subst_vars
   all_goals first
     |(refine hgo rfl _ ?_;(refine AS.Le.of (by first|decide|omega) ?_ ?_<;>simp[dA,dz,aS,aB,AV.bd,AV.bd.bdL,u8,aq,au,aA]);done)
     |(rw[hbad rfl];done)
     |(cases b6<;>first|(simp at hc;done)|(refine hgo rfl _ ?_;(refine AS.Le.of (by first|decide|omega) ?_ ?_<;>simp[dA,dz,aS,aB,AV.bd,AV.bd.bdL,u8,aq,au,aA]);done)|(rw[hbad rfl];done)|fail)
     |fail
  ·obtain rfl:i=n.length:=oO;have e:mi n=(!(n==[])&&decide (n.length<=32)):=by
    unfold mi;have:(List.range n.length).all (fun i=> !tX i (Ja n i))=true:=by
     rw[bH];intro j hj;rw[ha j (fS.1 hj)];rfl
    rw[this,cj]
   rw[e];have e2:decide ((n.length:Int)<=32)=decide (n.length<=32):=by rw[fz];omega
   clear ha hR e;exact YL
theorem Qc (h:a*b<dC) (ha:a<dC) (hb:b<dC):aE 173 [N a,N b] (.tup [N (a*b),E 0]):=by
 have:=Bn (bR a) (bR b);simp only[ny,vB ha,vB hb,cX,az,aY,h]at this;exact this
theorem SQ (h:a+b<dC):aE 58 [N a,N b] (.tup [N (a+b),E 0]):=by
 have:=Fs (bR a) (bR b);simp only[iC,vB (show a<dC by omega),vB (show b<dC by omega),cX,az,aY,h]at this
 exact this
theorem zV (h:b<=a) (ha:a<dC):aE 138 [N a,N b] (.tup [N (a-b),E 0]):=by
 have:=Bq (bR a) (bR b);simp only[rM,vB ha,vB (show b<dC by omega),cX,az,aY,h]at this
 exact this
theorem DI (ha:a<dC) (hb:b<dC):aE 36 [N a,N b] (E (aZ a b)):=by
 have:=lV (bR a) (bR b);simp only[vB ha,vB hb,cX,az,aY]at this;exact this
theorem Cy (h:x.natAbs<dC):aE 159 [Z x] (.b true):=by
 have:=gO (zs x) (zb x)
 rwa[V1 h]at this
theorem Lp (hx:x.natAbs<dC) (hy:y.natAbs<dC):aE 412 [Z x,Z y] (.b true):=by
 have v1:=Cy hx;have v2:=Cy hy;refine eW call412 func412 ?_;repeat' first|simp only[go_sem,seval,Z]|refine cP v1 ?_|refine cP v2 ?_|refine oE ?_|apply xX<;>intro hc
theorem yd (b:Bool) (n:Nat) {z:Int} (h:(if b then-(n:Int)else n)=z):aE 92 [.b b,N n] (Z z):=by
 have:=wa b (bR n);rw[zmk,h]at this;exact this
theorem Ac {n:Nat} (h:n<dC):aE 38 [N n] (Z n):=mG (vB h)
theorem SI:aE 75 [E 1] (Z 1):=by
 have h1:=pz 1 oC;have hm:=yd false 1 rfl;refine eW call75 func75 ?_;repeat' first|simp only[go_sem,seval,Z]|refine cP h1 ?_|refine cP hm ?_|refine oE ?_|apply xX<;>intro hc
theorem Y5:aE 75 [E 0] (Z 0):=by
 have h1:=pz 0 oC;have hm:=yd false 0 rfl;refine eW call75 func75 ?_;repeat' first|simp only[go_sem,seval,Z]|refine cP h1 ?_|refine cP hm ?_|refine oE ?_|apply xX<;>intro hc
theorem Y4 (h:y.natAbs<dC):aE 77 [Z y] (Z (-y)):=by
 have hv:=Cy h;have hm:=yd (!zs y) y.natAbs (YJ y);refine eW call77 func77 ?_;repeat' first|simp only[go_sem,seval,Z]|refine cP hv ?_|refine cP hm ?_|refine oE ?_|apply xX<;>intro hc
theorem Me (hx:x.natAbs<dC) (hy:y.natAbs<dC) (h:x.natAbs*y.natAbs<dC):aE 302 [Z x,Z y] (.tup [Z (x*y),E 0]):=by
 have hb:=Lp hx hy;have hm:=Qc h hx hy;have hk:=yd (zs x !=zs y) (x.natAbs*y.natAbs) (YI x y);refine eW call302 func302 ?_;repeat' first|simp only[go_sem,seval,Z]|refine cP hb ?_|refine cP hm ?_|refine cP hk ?_|refine oE ?_|apply xX<;>intro hc
theorem Mf (hx:x.natAbs<dM) (hy:y.natAbs<dM):aE 302 [Z x,Z y] (.tup [Z (x*y),E 0]):=
 have hw:=zY
 Me oO oO (b9 (fE hx hy) Ff)
theorem Eb (hlim:x.natAbs+y.natAbs<dC):aE 304 [Z x,Z y] (.tup [Z (x+y),E 0]):=by
 have hb0:=Lp (x:=x) (y:=y) oO oO
 by_cases hs:zs x=zs y
 ·have ha:=SQ hlim;have hk:=yd (zs x) (x.natAbs+y.natAbs) (Sj hs);have hb: ∀ _:True,(zs x==zs y)=true:=fun _=>by rw[hs];simp
  clear hs hlim;refine eW call304 func304 ?_;repeat' first|simp only[go_sem,seval,Z,hb oT]|refine cP hb0 ?_|refine cP ha ?_|refine cP hk ?_|refine oE ?_|apply xX<;>intro hc
 have hb: ∀ _:True,(zs x==zs y)=false:=fun _=>by simpa using hs
 have hcm:=DI (a:=x.natAbs) (b:=y.natAbs) oO oO
 by_cases hl:y.natAbs<=x.natAbs
 ·have hd:=zV hl oO;have hk:=yd (zs x) (x.natAbs-y.natAbs) (Ob hs hl);have hg: ∀ _:True,decide (aZ x.natAbs y.natAbs<0)=false:=fun _=>bL (fun h=>by rw[fy]at h;omega)
  generalize aZ x.natAbs y.natAbs=cm at*;clear hs hlim;refine eW call304 func304 ?_;repeat' first|simp only[go_sem,seval,Z,hb oT,hg oT]|refine cP hb0 ?_|refine cP hcm ?_|refine cP hd ?_|refine cP hk ?_|refine oE ?_|apply xX<;>intro hc
 ·have hd:=zV (a:=y.natAbs) (b:=x.natAbs) oO oO;have hk:=yd (zs y) (y.natAbs-x.natAbs) (Sk hs oO);have hg: ∀ _:True,decide (aZ x.natAbs y.natAbs<0)=true:=fun _=>aV (by rw[fy];omega)
  generalize aZ x.natAbs y.natAbs=cm at*;clear hs hlim;refine eW call304 func304 ?_;repeat' first|simp only[go_sem,seval,Z,hb oT,hg oT]|refine cP hb0 ?_|refine cP hcm ?_|refine cP hd ?_|refine cP hk ?_|refine oE ?_|apply xX<;>intro hc
theorem W9 (hx:x.natAbs<dM) (hy:y.natAbs<dM):aE 304 [Z x,Z y] (.tup [Z (x+y),E 0]):=
 Eb (b9 (show _<dM*dM by unfold dM at*;omega) Ff)
theorem RM (hlim:x.natAbs+y.natAbs<dC):aE 303 [Z x,Z y] (.tup [Z (x-y),E 0]):=by
 have hb:=Lp (x:=x) (y:=y) oO oO;have hn:=Y4 (y:=y) oO;have ha:=Eb (x:=x) (y:= -y) oO;rw[<-Int.sub_eq_add_neg]at ha;refine eW call303 func303 ?_;repeat' first|simp only[go_sem,seval,Z]|refine cP hb ?_|refine cP hn ?_|refine cP ha ?_|refine oE ?_|apply xX<;>intro hc
theorem RN (hx:x.natAbs<dM) (hy:y.natAbs<dM):aE 303 [Z x,Z y] (.tup [Z (x-y),E 0]):=
 RM (b9 (show _<dM*dM by unfold dM at*;omega) Ff)
theorem s9:(2^64)<=dM:=by decide
theorem m9:(2^64)<=dC:=by unfold dC;decide+kernel
abbrev Z2 (x y:Int):PV:= .agg [.b (zs x), .s (zb x), .b (zs y), .s (zb y)]
theorem HA {q:Nat} {x0:Int} (hq:q<(2^64)) (h0:x0.natAbs<(2^64)+1) (h1:x1.natAbs<(2^64)+1) (hp:(((q:Nat):Int)*x1).natAbs<dM):aE 301 [Z2 x0 x1, .pt (.agg [N q]) 0] (Z2 x1 (x0-(q:Nat)*x1)):=by
 have w1:=s9;have w2:=m9;have hf:=Ac (n:=q) oO;have hm:=Mf (x:=(q:Int)) (y:=x1) (by rw[Int.natAbs_natCast];omega) (by unfold dM;omega)
 have hs:=RN (x:=x0) (y:=(q:Int)*x1) (by unfold dM;omega) hp
 generalize (q:Int)*x1=v at*;generalize x0-v=u at*;refine eW call301 func301 ?_;repeat' first|simp only[go_sem,seval,Z,mE,mD]|refine cP hf ?_|refine cP hm ?_|refine cP hs ?_|refine oE ?_|apply xX<;>intro hc
theorem H9 {r0 r1 B:Nat} (h0:0<r1) (h:x1.natAbs*r0<=B):((((r0/r1:Nat):Int))*x1).natAbs<=B:=by
 rw[lj,Int.natAbs_natCast];have h1:r0/r1<=r0:=eT _ _;have:=kS x1.natAbs h1;rw[bU]at this;omega
theorem Dn (ha:a<(2^64)) (hb:b<(2^64)) (h0:0<b): ∃X Y:Int,(Nat.gcd a b=1->X.natAbs<(2^64)/\X.natAbs%b=gH a b)/\aE 181 [N a,N b] (.tup [N (Nat.gcd a b),Z X,Z Y,E 0]):=by
 have w1:=s9;have w2:=m9;obtain⟨x',y',hE⟩:=DQ (a:=a) (b:=b) (f:=b+1) oO (r9.start h0);obtain⟨res,hres⟩: ∃res,res=DP (b+1) a b 1 0 0 1:=⟨_,rfl⟩;rw[<-hres]at hE;obtain⟨g,X0,Y0⟩:=res;simp only at hE;have hg:=hE.fin;have hgp:0<g:=by rw[hg];exact Nat.gcd_pos_of_pos_right _ h0
 have bx:=hE.bx0;have by':=hE.by0
 have hm1:b/g<=b:=eT _ _;have hk1:a/g<=a:=eT _ _;have v1:=aG (bR a);have v2:=aG (bR b);rw[vB (show a<dC by omega)]at v1
 rw[vB (show b<dC by omega)]at v2
 have e0:(bR b==([]:Bytes))=false:=pK oO;have d1:=jf (a:=b) (b:=g) hb (by have:g<=b:=(by rw[hg];exact De _ h0);omega) hgp
 have d2:=jf (a:=a) (b:=g) ha (by have:g<=b:=(by rw[hg];exact De _ h0);omega) hgp
 have f1:=Ac (n:=b/g) oO;have f2:=Ac (n:=a/g) oO;have ad:=W9 (x:=X0) (y:=((b/g:Nat):Int)) (by unfold dM;omega) (by rw[Int.natAbs_natCast];unfold dM;omega)
 have sb:=RN (x:=Y0) (y:=((a/g:Nat):Int)) (by unfold dM;omega) (by rw[Int.natAbs_natCast];unfold dM;omega)
 have o1:=SI;have o0:=Y5;refine⟨if X0<0 then X0+((b/g:Nat):Int)else X0,if X0<0 then Y0-((a/g:Nat):Int)else Y0,?_,?_⟩
 ·intro h1;have g1:g=1:=by rw[hg];exact h1
  subst g1;obtain⟨k1,k3,k2⟩:=hE.inv h0 _ rfl;rw[iq];exact⟨oO,k2⟩
 ·rw[<-hg];refine eW call181 func181 ?_;simp only[go_sem,seval,Z];repeat' first|simp only[go_sem,seval,e0,Z]|refine cP v1 ?_|refine cP v2 ?_|refine cP o1 ?_|refine cP o0 ?_|refine oE ?_|apply xX<;>intro hc
  refine ak (α:=Nat×Nat×Nat×Int×Int×Int×Int) (fun s=>s.2.2.1) (fun s=>⟨[(0, .v (N a)),(1, .v (N b)),(5, .p 1001 0 0),(6, .p 1002 0 0),(8, .p 1017 0 0),(9, .p 1025 0 0),(10, .p 1026 0 0)],[(1001,⟨0,[.v (.b false), .v (.s [])],false,some 94⟩),(1002,⟨0,[.v (.b false), .v (.s [])],false,some 94⟩),(1017,⟨0,[.v (N s.2.1), .v (N s.2.2.1)],false,some 330⟩),(1025,⟨0,[.v (.b (zs s.2.2.2.1)), .v (.s (zb s.2.2.2.1)), .v (.b (zs s.2.2.2.2.1)), .v (.s (zb s.2.2.2.2.1))],false,some 346⟩),(1026,⟨0,[.v (.b (zs s.2.2.2.2.2.1)), .v (.s (zb s.2.2.2.2.2.1)), .v (.b (zs s.2.2.2.2.2.2)), .v (.s (zb s.2.2.2.2.2.2))],false,some 346⟩)],_⟩) (fun s=>s.2.2.1<s.1/\r9 a b s.2.1 s.2.2.1 s.2.2.2.1 s.2.2.2.2.1 s.2.2.2.2.2.1 s.2.2.2.2.2.2/\s.2.1<(2^64)/\s.2.2.1<(2^64)/\DP s.1 s.2.1 s.2.2.1 s.2.2.2.1 s.2.2.2.2.1 s.2.2.2.2.2.1 s.2.2.2.2.2.2=(g,X0,Y0)) (b+1,a,b,1,0,0,1) (fun _=>aD _) ⟨by show b<b+1;omega,r9.start h0,ha,hb,hres.symm⟩ ?_ ?_
  ·exact lE
  ·rintro⟨f,r0,r1,x0,x1,y0,y1⟩ ⟨hf,hS,hr0,hr1,heq⟩ R hR;simp only at hf hS hr0 hr1 heq
   cases f with
   |zero=>omega
   |succ f=>
    unfold DP at heq
    by_cases hz:r1=0
    ·subst hz;rw[ah rfl]at heq;simp only[dP]at heq;obtain⟨rfl,rfl,rfl⟩:=heq
     by_cases hx:x0<0
     ·have hzs:zs x0=true:=by simp[zs,hx]
      simp only[Z,hzs,mE,mD]at ad f1 f2;simp only[Z,mE,mD]at sb;rw[ah hx,ah hx];clear hR hres hE hS;repeat' first|simp only[go_sem,seval,zP,Z,hzs,mE,mD]|refine cP d1 ?_|refine cP d2 ?_|refine cP f1 ?_|refine cP f2 ?_|refine cP ad ?_|refine cP sb ?_|refine oE ?_|apply xX<;>intro hc
     ·have hzs:zs x0=false:=by simp[zs,hx]
      rw[af hx,af hx];clear hR hres hE hS;repeat' first|simp only[go_sem,seval,zP,Z,hzs]|refine oE ?_|apply xX<;>intro hc
    ·rw[af hz]at heq;have hpos:0<r1:=oO;have hst:=hS.step hpos;have hml:=aP r0 hpos;have hq:r0/r1<=r0:=eT _ _;have dv:=jf hr0 hr1 hpos;have b1:=hS.bx0;have b2:=hS.bx1;have b3:=hS.by0;have b4:=hS.by1;have b5:=hS.hx;have b6:=hS.hy;have c1:=HA (q:=r0/r1) (x0:=x0) (x1:=x1) oO oO oO (by have:=H9 (r1:=r1) hpos (show x1.natAbs*r0<=b by omega);unfold dM;omega)
     have c2:=HA (q:=r0/r1) (x0:=y0) (x1:=y1) oO oO oO (by have:=H9 (r1:=r1) hpos (show y1.natAbs*r0<=a by omega);unfold dM;omega)
     have en:=pK hz;have hgo:=hR (f,r1,r0%r1,x1,x0-((r0/r1:Nat):Int)*x1,y1,y0-((r0/r1:Nat):Int)*y1) ⟨by show r0%r1<f;omega,hst,hr1,by show r0%r1< _;omega,heq⟩ hml
     clear hR heq hst hS b1 b2 b3 b4 b5 b6 hres hE;generalize x0-((r0/r1:Nat):Int)*x1=u at*;generalize y0-((r0/r1:Nat):Int)*y1=v at*;repeat' first|simp only[go_sem,seval,en,Z,Z2,bC]|refine cP dv ?_|refine cV c1 ?_|refine cV c2 ?_|refine oE ?_|apply xX<;>intro hc
     refine hgo _ ?_;exact lE
theorem qZ {a m:Nat} (ha:a<(2^64)) (hm:m<(2^64)) (h0:0<m) (hg:Nat.gcd a m=1):aE 94 [N a,N m] (.tup [N (gH a m),E 0]):=by
 have w1:=s9;have w2:=m9;have hc:=fun nm=>FJ nm (bR a) (bR m)
 rw[Ly ha hm h0]at hc;have hl:=aP a h0;have hd:=kP ha hm h0;have hg':Nat.gcd (a%m) m=1:=by rw[<-hg,<-nf,j4]
 obtain⟨X,Y,h1,h3⟩:=Dn (a:=a%m) (b:=m) oO hm h0;obtain⟨h4,h5⟩:=h1 hg';rw[hg']at h3;have hX:X.natAbs%m=gH a m:=by
  rw[h5];obtain⟨g1,g2⟩:=(mZ h0 hg').inv;exact(gI g1 (by rw[jy]at g2;exact g2)).symm
 have hr:aE 182 [.s (zb X),N m] (N (gH a m)):=by
  have:=kP h4 hm h0
  rwa[hX]at this
 clear h1 h4 h5 hX;refine eW call94 func94 ?_;repeat' first|simp only[go_sem,seval,Z,MI,dJ,o6,fW]|(refine bE (hc _) (by simp) ?_)|refine cP hd ?_|refine cP h3 ?_|refine cP hr ?_|refine oE ?_|apply xX<;>intro hc
