/- Part of the proof. -/
import Derived.Test.YtkmahpcpmgedkaaGreatDoorFC31
import Derived.Test.YtkmahpcpmgedkaaGreatDoorFC33
set_option linter.all false
set_option maxHeartbeats 16000000
set_option maxRecDepth 100000
namespace Go.Proofs.Tryz
open Go Go.Dom
def Al (b:Bytes) (i:Nat):eT:=⟨b,i,false,[1]⟩
structure abc (s:cU):Prop where
 l:s.eqs.length=s.vars.length
 t: ∀i,i<s.eqs.length-> ∃b,(s.eqs.getD i hG).terms=[Al b i]
end Go.Proofs.Tryz
namespace Go.Proofs.Tryz
open Go Go.Dom Go.Num
variable {n q x:Nat}
theorem qE {i:Nat} {p:Nat->Bool} (hi:i<n) (h:p i=false):(List.range n).all p=false:=by
 rw[fz];intro g;have:=bH.1 g i (dW.2 hi);rw[h]at this;cases this
theorem qf {p:Nat->Bool} (h: ∀i,i<n->p i=true):(List.range n).all p=true:=by
 rw[bH];intro i hi;exact h i (dW.1 hi)
theorem QO {L:List Bytes} {es:List dx} (hl:L.length=es.length) (h: ∀j,j<es.length->L.getD j []=(es.getD j hG).tgt):L=es.map (·.tgt):=by
 refine um (by simpa using hl) fun j h1 h2=> ?_
 have h2:j<es.length:=by simpa using h2
 have:=h j h2;rw[br,br,bw h1,bw h2]at this;simpa using this
theorem St (x:Bool×Bytes):aE 137 [cT x] (.b (!cz x)):=by
 obtain⟨n,a⟩:=x;have hv:=hO n a;have e:cz (n,a)=(aa a&& !(n&&a==[])):=rfl;rw[e];generalize (aa a&& !(n&&a==[]))=b at*;simp only[cT];refine eW call137 func137 ?_;exact z1 @hv
theorem Su (b:Bytes):aE 142 [cO b] (.s b):=by
 unfold cO;refine eW call142 func142 ?_;exact z0
theorem Sv (m:Bytes):aE 143 [.sl [G m []], .fn (.func 144)] (E (-1)):=by
 have h:aE 144 [G m []] (.b false):=by
  refine eW call144 func144 ?_;exact z0
 refine eW call143 func143 ?_;refine qB ?_;refine ai ?_;refine WA @h ?_;refine ai ?_;exact z0
theorem HS {vs:List Bytes} (sd:Bytes) {a:Int} (hl:vs.length<1000000):aE 66 [T vs sd a, .s [1],E 0] (if fQ vs a then .tup [.sl [],T vs sd a,E 0]else .tup [.sl [],T [] [] 0,E 3]):=by
 have h1:=tM vs sd a [1] oO;have e:vK vs a [1]=if fQ vs a then 0 else 3:=by unfold vK;cases fQ vs a<;>rfl
 rw[e]at h1;generalize fQ vs a=b at*;cases b
 ·refine eW call66 func66 ?_;exact z1 @h1
 ·refine eW call66 func66 ?_;exact WC @h1
theorem sA (l:List Bytes) (hl:l.length<1000000):aE 117 [.sl (l.map .s)] (.b (l.all aa)):=by
 have l5:(l.map PV.s).length=l.length:=aC ..;refine eW call117 func117 ?_;refine dH @l5 ?_;refine af (α:=Nat) (fun i=>l.length-i) (fun i=>⟨[(5, .v (.sl (l.map .s))),(6,E' l.length),(7,E' i)],[],_⟩) (fun i=>i<=l.length/\(l.drop i).all aa=l.all aa) 0 (fun _=>aA _) ⟨aI _,rfl⟩ ?_ ?_
 ·exact lE
 ·rintro i ⟨hi,hf⟩ R hR;rw[<-hf]
  by_cases hlt:i<l.length
  ·have e1:=eN hlt;have hgo:=hR (i+1);rw[<-hf]at hgo;rw[aW [] hlt,List.all_cons]at hgo⊢;generalize l.getD i []=x at*;have hv:=aT x;clear hR hf;generalize aa x=b at*;cases b
   ·repeat' first|simp only[go_sem,seval,l5,e1]|refine cP hv ?_|refine oE ?_|apply xX<;>intro hc
    all_goals simp
   ·have hgo:=hgo ⟨oO,by simp⟩ oO
    exact gV (aN @l5 @e1) @hgo @hv
  ·obtain rfl:i=l.length:=oO;rw[da];exact gi @l5
theorem mE (l:List Bytes) (hl:l.length<1000000):aE 25 [.sl (l.map .s)] (.b (l.all aa)):=by
 have l5:(l.map PV.s).length=l.length:=aC ..;refine eW call25 func25 ?_;refine dH @l5 ?_;refine af (α:=Nat) (fun i=>l.length-i) (fun i=>⟨[(5, .v (.sl (l.map .s))),(6,E' l.length),(7,E' i)],[],_⟩) (fun i=>i<=l.length/\(l.drop i).all aa=l.all aa) 0 (fun _=>aA _) ⟨aI _,rfl⟩ ?_ ?_
 ·exact lE
 ·rintro i ⟨hi,hf⟩ R hR;rw[<-hf]
  by_cases hlt:i<l.length
  ·have e1:=eN hlt;have hgo:=hR (i+1);rw[<-hf]at hgo;rw[aW [] hlt,List.all_cons]at hgo⊢;generalize l.getD i []=x at*;have hv:=aT x;clear hR hf;generalize aa x=b at*;cases b
   ·repeat' first|simp only[go_sem,seval,l5,e1]|refine cP hv ?_|refine oE ?_|apply xX<;>intro hc
    all_goals simp
   ·have hgo:=hgo ⟨oO,by simp⟩ oO
    exact gV (aN @l5 @e1) @hgo @hv
  ·obtain rfl:i=l.length:=oO;rw[da];exact gi @l5
theorem OK (vs:List Bytes) (sd:Bytes) (a:Int) (hl:vs.length<1000000):aE 118 [T vs sd a] (.b (fQ vs a)):=by
 have h:=sA vs hl;unfold fQ;rw[Gi,xO];generalize vs.all aa=b at*;cases b
 ·refine eW call118 func118 ?_;repeat' first|simp only[go_sem,seval]|refine cP h ?_|refine oE ?_|apply xX<;>intro hc
  all_goals simp
 ·refine eW call118 func118 ?_;repeat' first|simp only[go_sem,seval]|refine cP h ?_|refine oE ?_|apply xX<;>intro hc
  all_goals first|(simp;done)|(simp;omega)|(simp_all;done)|(simp_all;omega)
theorem Et (vs:List Bytes) (sd:Bytes) (a:Int) (hl:vs.length<1000000):aE 26 [T vs sd a] (.b (fQ vs a)):=by
 have h:=HS sd (a:=a) hl;generalize fQ vs a=b at*;cases b
 ·simp only[bu,aq]at h;refine eW call26 func26 ?_;exact z2 @sO @h
 ·simp only[ax]at h;refine eW call26 func26 ?_;exact z2 @sO @h
def Cl (q:Bytes) (ls:List (List Bytes)):Int:=if !(ls.all fun l=>l.all aa)then 3 else if jD q≠0 then jD q else if eY (num q)then 0 else 12
def LN (l:List Bytes):PV:= .sl (l.map .s)
theorem N4 {q:Bytes} (h:jD q=0):aa q=true/\q.length<=8:=by
 unfold jD at h
 split at h
 ·rename_i h1
  split at h
  ·exact⟨h1,by assumption⟩
  ·cases h
 ·cases h
theorem Dc (q:Bytes) (ls:List (List Bytes)) (h1:ls.length<1000000) (h2: ∀l∈ls,l.length<1000000):aE 124 [.s q, .sl (ls.map LN)] (E (Cl q ls)):=by
 have hp:=BJ q;have l1:(ls.map LN).length=ls.length:=aC ..;refine eW call124 func124 ?_;refine dH @l1 ?_;refine af (α:=Nat) (fun i=>ls.length-i) (fun i=>⟨[(0, .v (.s q)),(11, .v (.sl (ls.map LN))),(12,E' ls.length),(13,E' i)],[],_⟩) (fun i=>i<=ls.length/\(ls.drop i).all (fun l=>l.all aa)=ls.all (fun l=>l.all aa)) 0 (fun _=>aA _) ⟨aI _,rfl⟩ ?_ ?_
 ·exact lE
 ·rintro i ⟨hi,hf⟩ R hR
  by_cases hlt:i<ls.length
  ·have e1:(ls.map LN).getD i .fn0= .sl ((ls.getD i []).map .s):=getD_map LN ls [] hlt;have hgo:=fun h=>hR (i+1) ⟨oO,h⟩ oO
   rw[aW [] hlt,List.all_cons]at hf;have hl:=h2 _ (an [] hlt);generalize ls.getD i []=l at*;clear hR;have l2:(l.map PV.s).length=l.length:=aC ..;refine dH (aN @l1 (aN @l2 @e1)) ?_;refine af (α:=Nat) (fun j=>l.length-j) (fun j=>⟨[(0, .v (.s q)),(11, .v (.sl (ls.map LN))),(12,E' ls.length),(13,E' i),(17, .v (.sl (l.map .s))),(18,E' l.length),(19,E' j)],[],_⟩) (fun j=>j<=l.length/\(l.drop j).all aa=l.all aa) 0 (fun _=>aA _) ⟨aI _,rfl⟩ ?_ ?_
   ·exact lE
   ·rintro j ⟨hj,hk⟩ R' hR'
    by_cases hjl:j<l.length
    ·have e2:=eN hjl;have hgo':=fun h=>hR' (j+1) ⟨oO,h⟩ oO
     rw[aW [] hjl,List.all_cons]at hk;generalize l.getD j []=x at*;have hv:=aT x;clear hR'
     cases hb:aa x with
     |true=>
      rw[hb,cr]at hk;rw[hb]at hv;refine jm (aN @l2 @e2) @hv ?_;refine hgo' hk _ ?_;exact lE
     |false=>
      rw[hb,dK]at hk;rw[<-hk,dK]at hf;rw[hb]at hv;unfold Cl;rw[<-hf];clear hgo hgo' hk hf;exact m9 (aN @l2 @e2) @hv
    ·obtain rfl:j=l.length:=oO;rw[da]at hk;rw[<-hk]at hf;simp only[List.all_nil,cr]at hf;refine dI (aN @l1 @l2) ?_;refine hgo hf _ ?_;exact lE
  ·obtain rfl:i=ls.length:=oO;rw[da]at hf;unfold Cl;rw[<-hf];simp only[List.all_nil,bV,bu,aq];clear hf hR
   by_cases h0:jD q=0
   ·obtain⟨vq,lq⟩:=N4 h0;rw[h0,vq,aJ lq,cr,cr]at hp;rw[h0];generalize eY (num q)=b at*;cases b
    ·exact m9 @l1 @hp
    ·exact m9 @l1 @hp
   ·rw[ah h0];generalize (aa q&&decide (q.length<=8)&&eY (num q))=b at*;generalize jD q=e at*;exact m9 @l1 @hp
theorem tR {q:Bytes} (vq:aa q=true) {l:List Bytes} (hv: ∀x∈l,aa x=true) (hl:l.length<1000000):aE 125 [.s q, .sl (l.map .s)] (.b (l.all fun x=>decide (num x<num q))):=by
 have l5:(l.map PV.s).length=l.length:=aC ..;refine eW call125 func125 ?_;refine dH @l5 ?_;refine af (α:=Nat) (fun i=>l.length-i) (fun i=>⟨[(0, .v (.s q)),(7, .v (.sl (l.map .s))),(8,E' l.length),(9,E' i)],[],_⟩) (fun i=>i<=l.length/\(l.drop i).all (fun x=>decide (num x<num q))=l.all fun x=>decide (num x<num q)) 0 (fun _=>aA _) ⟨aI _,rfl⟩ ?_ ?_
 ·exact lE
 ·rintro i ⟨hi,hf⟩ R hR;rw[<-hf]
  by_cases hlt:i<l.length
  ·have e1:=eN hlt;have hgo:=hR (i+1);rw[<-hf]at hgo;rw[aW [] hlt,List.all_cons]at hgo⊢;have vx:=hv _ (an [] hlt);generalize l.getD i []=x at*;have hc:=sZ vx vq;have hg:=SZ (num x) (num q);clear hR hf hv vx;generalize bc (num x) (num q)=cm at*;generalize decide (num x<num q)=b at*;cases b
   ·repeat' first|simp only[go_sem,seval,l5,e1,hg]|refine cP hc ?_|refine oE ?_|apply xX<;>intro hc
    all_goals simp
   ·have hgo:=hgo ⟨oO,by simp⟩ oO
    exact gV (aN @l5 (aN @e1 @hg)) @hgo @hc
  ·obtain rfl:i=l.length:=oO;rw[da];exact gi @l5
theorem Xg:aY 0=[]:=by decide
theorem MX (h0:0<q) (cs:List Nat) (x:Nat) {k:Nat} (hk:k<cs.length):(xf q ((nI cs).drop k) x).toNat=((xf q ((nI cs).drop (k+1)) x).toNat*x%q+cs.getD k 0)%q:=by
 have hb:=(yW (q:=q) oO x ((nI cs).drop (k+1))).1;obtain⟨y,hy⟩: ∃y:Nat,xf q ((nI cs).drop (k+1)) x=y:=⟨_,(lD hb).symm⟩;rw[MW (by rw[sf];exact hk),hy,tx,Int.toNat_natCast]
 have e:((y:Int)*x%q+((cs.getD k 0:Nat):Int))%q=(((y*x%q+cs.getD k 0)%q:Nat):Int):=by push_cast;rfl
 rw[e,Int.toNat_natCast]
theorem B3 (hq:q<(2^64)) (h0:0<q) {cs:List Nat} (hc: ∀c∈cs,c<(2^64)) (hx:x<(2^64)) (hl:cs.length<1000000):aE 126 [N q, .sl (cs.map cZ),N x] (N (xf q (nI cs) x).toNat):=by
 have l5:(cs.map cZ).length=cs.length:=aC ..;have hw: ∀ _:True,IntKind.i64.wrap ((cs.length:Int)-1)=(cs.length:Int)-1:=fun _=>IntWalk.i64_in _ oO
 refine eW call126 func126 ?_;refine dH (aN @l5 (hw oT)) ?_;refine af (α:=Nat) (fun k=>k) (fun k=>⟨[(0, .v (N q)),(1, .v (.sl (cs.map cZ))),(2, .v (N x)),(7, .v (N (xf q ((nI cs).drop k) x).toNat)),(8, .v (.i .i64 ((k:Int)-1)))],[],_⟩) (fun k=>k<=cs.length) cs.length (fun _=>aA _) (aA _) ?_ ?_
 ·have e:(nI cs).drop cs.length=[]:=il (by rw[sf];exact aA _)
  have e2:N (xf q ((nI cs).drop cs.length) x).toNat= .s []:=by rw[e];exact congrArg PV.s Xg
  rw[e2];exact lE
 ·intro k hk R hR
  cases k with
  |zero=>
   rw[pJ];exact z0
  |succ k=>
   have hgo:=hR k oO oO;rw[MX h0 cs x oO]at hgo;have hb:=yW (q:=q) oO x ((nI cs).drop (k+1));have e1: ∀ _:True,((k+1:Nat):Int)-1=(k:Int):=fun _=>oO
   have hge: ∀ _:True,decide ((k:Int)>=0)=true:=fun _=>by simp
   have hwk: ∀ _:True,IntKind.i64.wrap ((k:Int)-1)=(k:Int)-1:=fun _=>IntWalk.i64_in _ oO
   have e2:=pf cs (i:=k) oO;have hck:=hc _ (an 0 (show k<cs.length by omega))
   obtain⟨y,hy⟩: ∃y,y=(xf q ((nI cs).drop (k+1)) x).toNat:=⟨_,rfl⟩;rw[<-hy]at hgo⊢;have hyq:y<q:=oO;generalize cs.getD k 0=c at*;have m1:=ql (a:=y) (b:=x) (m:=q) oO hx hq h0;have m2:=BB (a:=y*x%q) (b:=c) (m:=q) (by have:=aL (y*x) h0;omega) hck hq h0
   clear hR hy hb hc;exact vY (aN (e1 oT) (aN (hge oT) (aN (hwk oT) (aN @l5 @e2)))) @hgo @m1 @m2
theorem Ld {l:List Bytes} (hd:l.Nodup) (hl:l.length<1000000):aE 329 [.sl (l.map .s)] (.b false):=by
 have l5:(l.map PV.s).length=l.length:=aC ..;refine eW call329 func329 ?_;refine dH @l5 ?_;refine af (α:=Nat) (fun i=>l.length-i) (fun i=>⟨[(3, .mp 1001),(7, .v (.sl (l.map .s))),(8,E' l.length),(9,E' i)],[(1001,⟨0,l9 PV.s (l.take i),false,none⟩)],_⟩) (fun i=>i<=l.length) 0 (fun _=>aA _) (aI _) ?_ ?_
 ·rw[List.take_zero,FK];exact lE
 ·intro i hi R hR
  by_cases hlt:i<l.length
  ·have e1:=eN hlt;have hgo:=hR (i+1) oO oO;rw[cF [] hlt]at hgo;have hnm:l.getD i []∉l.take i:=fun hm=>by
    obtain⟨j,hj,he⟩:=uk.1 hm;exact(DW.1 hd) j i oO hlt oO (he.trans (by simp[br,hlt]))
   generalize l.getD i []=x at*;generalize l.take i=p at*;have m1:=qm Ni x p;have m2:oJ true (.b false) (.s x) (l9 PV.s p)= .b false:=by rw[qM Ni];simp[hnm]
   have m3:=qL Ni hnm;clear hR;refine dI (aN @l5 (aN @e1 (aN @m1 (aN @m2 @m3)))) ?_;refine hgo _ ?_;refine lG ?_;exact fun c hc=>(xy PV.s (p++[x]) _).mpr oT c hc
  ·obtain rfl:i=l.length:=oO;exact gi @l5
theorem Nt (l:List Nat):l.map cZ=(l.map aY).map PV.s:=by rw[iV];rfl
theorem tG (hq:q<(2^64)):jD (aY q)=0:=by
 unfold jD;rw[vN hq,ah rfl,ah (o6.2 hq)]
theorem UA (hq:q<(2^64)) (hp:eY q=true) {ls:List (List Bytes)} (h: ∀l∈ls,∀x∈l,aa x=true):Cl (aY q) ls=0:=by
 have h1:(ls.all fun l=>l.all aa)=true:=by
  rw[bH];intro l hl;rw[bH];exact h l hl
 unfold Cl;rw[h1,tG hq,aQ,hp];rfl
theorem L9 {l:List Nat} (h: ∀x∈l,x<q):((l.map aY).all fun x=>decide (num x<num (aY q)))=true:=by
 rw[bH];intro x hx;obtain⟨n,hn,rfl⟩:=bm.1 hx;rw[aQ,aQ];exact aJ (h n hn)
theorem Hv (hq:q<(2^64)) (hp:eY q=true) {xs ys:List Nat} (hl:ys.length=xs.length) (h256:xs.length<=256) (hx: ∀a∈xs,a<q) (hy: ∀a∈ys,a<q) (ha:x<q) (hd:xs.Nodup):
  aE 214 [N q, .sl (xs.map cZ), .sl (ys.map cZ),N x] (E 0):=by
 have vl: ∀{l:List Nat},(∀a∈l,a<q)-> ∀b∈l.map aY,aa b=true:=fun{l} h b hb=>by
  obtain⟨n,hn,rfl⟩:=bm.1 hb;exact vN (by have:=h n hn;omega)
 have h1:=Dc (aY q) [xs.map aY,ys.map aY,[aY x]] (by simp) (by simp;omega)
 rw[UA hq hp (by
  intro l hl b hb;simp only[cb,iD,or_false]at hl;rcases hl with rfl|rfl|rfl
  ·exact vl hx b hb
  ·exact vl hy b hb
  ·exact vl (l:=[x]) (by simpa using ha) b (by simpa using hb))]at h1
 simp only[bC,bR,LN]at h1;rw[<-Nt,<-Nt]at h1;have h2:=tR (q:=aY q) (vN hq) (vl hx) (by simp;omega)
 rw[L9 hx,<-Nt]at h2;have h3:=tR (q:=aY q) (vN hq) (vl hy) (by simp;omega)
 rw[L9 hy,<-Nt]at h3;have h4:=tR (q:=aY q) (vN hq) (l:=[aY x]) (vl (l:=[x]) (by simpa using ha)) (by simp)
 rw[show([aY x].all fun y=>decide (num y<num (aY q)))=true from L9 (l:=[x]) (by simpa using ha)]at h4
 have h5:=Ld (l:=xs.map aY) (hd.map aY fun a b h e=>h (by rw[<-aQ a,e,aQ])) (by simp;omega)
 rw[<-Nt]at h5;have l1:(xs.map cZ).length=xs.length:=aC ..;have l2:(ys.map cZ).length=xs.length:=by rw[aC];exact hl
 simp only[bC,bR]at h4;refine eW call214 func214 ?_;exact Jl (aN @l1 @l2) @h1 @h2 @h3 @h4 @h5 oT oT
end Go.Proofs.Tryz
namespace Go.Proofs.Tryz
open Go Go.Dom
variable {c ch sl:Bytes} {ls:List (List (Bool×Bytes))} {rs:List (Bool×Bytes)}
abbrev Y9:PV:= .agg [.sl [], .s [], .sl []]
abbrev B0:PV:= .agg [.sl [], .sl []]
theorem Ko (hr:sP c sl) {s:cU} {gs:List Bytes} (h1:rs.length<1000000) (h2:gs.length<=1000) (h3:ls.length<=1000) (h4: ∀l∈ls,l.length<4611686018427387904) (hf:fP c s.vars.length ch rs gs ls≠0):
  aE 209 [X0 c sl s,xz ch rs gs ls] (.tup [Y9,B0,E (fP c s.vars.length ch rs gs ls)]):=by
 have hfo:=Cy (c:=c) (sl:=sl) hr.vc s ch rs gs ls h1 h2 h3 h4;have hb:(fP c s.vars.length ch rs gs ls==0)=false:=by simpa using hf
 generalize fP c s.vars.length ch rs gs ls=e at*;obtain⟨gq,vs,es⟩:=s;simp only[X0,xz]at hfo⊢;refine eW call209 func209 ?_;repeat' first|simp only[go_sem,seval,hb]|refine cP hfo ?_|refine oE ?_|apply xX<;>intro hc
 all_goals skip
abbrev sy:Bytes:=[100,111,109,105,110,111,32,112,114,111,111,102]
abbrev vM:Bytes:=[99,111,110,116,101,120,116]
abbrev Ho:Bytes:=[102,111,114,109,117,108,97]
abbrev OF:Bytes:=[102,105,114,115,116]
def Bs (ctx:Bytes) (s:cU) (fs:List Bytes):Bytes:=gK (fy (mO (fy (mj sy) vM ctx) s) Ho []) OF fs
theorem Gh (s:cU) (x:PV) (n:Bytes):aE 210 [X0 c sl s,B0, .s n] (.b true):=by
 obtain⟨gq,vs,es⟩:=s;simp only[X0];refine eW call210 func210 ?_;exact z0
noncomputable def o9 (s:cU) (ch:Bytes) (rs:List (Bool×Bytes)):List Bytes:=s.eqs.map fun q=>aY (gG s.groups ch rs q)
theorem Bq {nv:Nat} {gs:List Bytes} (h:fP c nv ch rs gs ls=0):gs=[]/\ls=[]:=by
 unfold fP at h
 split at h
 ·exact aM h oC
 ·split at h
  ·exact aM h oC
  ·rename_i hm;exact⟨im fun h=>hm (.inr (.inl h)),im fun h=>hm (.inr (.inr h))⟩
end Go.Proofs.Tryz
namespace Go.Proofs.Tryz
open Go Go.Dom Go.Num
variable {M i:Nat} {n sd x:Bytes} {vs:List Bytes}
def Ae (vs:List Bytes) (sd:Bytes) (i M:Nat):Except Int Int:=
 match jd vs sd i (aY (2*M-1))with
 | .error e=> .error e
 | .ok x=> .ok ((num x:Int)-(M-1:Nat))
theorem B4 (st:Bytes) {c:Bytes} (h:2<=num c):iU st c<num c:=aL _ oO
theorem Sj {f:Nat->Bytes} {n:Nat}: ∀{k a:Nat},FJ f n a k=some x->num x<n/\ ∃b,x=f b:=by
 intro k
 induction k with
 |zero=>intro a h;cases h
 |succ k ih=>
  intro a h;rw[FJ]at h
  split at h
  ·rename_i hlt;injection h with h
   subst h;exact⟨hlt,a,rfl⟩
  ·exact ih h
theorem je (hv:vs.all aa=true) (hn:aa n=true) (hl:vs.length<1000000) (hi:i<=2147483647) (h:jd vs sd i n= .ok x):aa x=true/\num x<num n/\i+1<=2147483647:=by
 unfold jd at h
 split at h
 ·rename_i hiv
  split at h
  ·cases h
  ·rename_i hlt;injection h with h
   subst h;exact⟨bH.1 hv _ (EI hiv),oO,oO⟩
 ·split at h
  ·cases h
  ·rename_i hs;have hi2:i≠2147483647:=fun e=>hs (.inr e)
   split at h
   ·rename_i y hy;injection h with h
    subst h;obtain⟨h1,b,hb⟩:=Sj hy;exact⟨by rw[hb];exact yp sd i b (Ej hn),h1,oO⟩
   ·cases h
theorem OO {z:Int} (hv:vs.all aa=true) (h1:1<=M) (h2:2*M<dZ) (hl:vs.length<1000000) (hi:i<=2147483647) (h:Ae vs sd i M= .ok z):z.natAbs<M/\i+1<=2147483647:=by
 unfold Ae at h
 split at h
 ·cases h
 ·rename_i x hx;obtain⟨-,h3,h4⟩:=je hv (vB oO) hl hi hx;rw[aQ]at h3;injection h with h
  subst h;exact⟨oO,h4⟩
theorem oG {e:Int} (h:jd vs sd i n= .error e):e=2\/e=14:=by
 unfold jd at h
 split at h
 ·split at h
  ·injection h with h;exact .inl h.symm
  ·cases h
 ·split at h
  ·injection h with h;exact .inr h.symm
  ·split at h
   ·cases h
   ·injection h with h;exact .inr h.symm
theorem Lc {e:Int} (h:Ae vs sd i M= .error e):e=2\/e=14:=by
 unfold Ae at h
 split at h
 ·rename_i e' he;injection h with h
  subst h;exact oG he
 ·cases h
theorem CE (h:aa x=true):nf (num x:Int)=(false,x):=by
 have e:aY (num x)=x:=by have:=eH h;injection this
 simp[nf,zs,zb,e]
end Go.Proofs.Tryz
namespace Go.Proofs.Tryz
open Go Go.Dom Go.Num
variable {a i n q:Nat} {xs:List Nat}
theorem dp {l:List Nat} (h:l.length=n):List.take n (aD l)=aD l:=cl (by rw[bA];omega)
theorem eQ (l:List Nat):(aD l).all AV.one=true:=by simp[aD,AV.one,PV.one]
theorem dE (hf:Nat->Option aF) (k:Nat) (l:List Nat):bz (view hf (k+1)) (aD l)=some (l.map cZ):=by
 have:=fm hf k (l.map cZ)
 rwa[iV]at this
theorem dJ {l:List Nat} (h:l.length=n):chunk 1 n (l.map cZ)=l.map cZ:=by
 have:=oe (l.map cZ)
 rwa[aC,h]at this
theorem pB (l:List Int) (i:Nat) (x:Int):(tN l).set i x.toNat=tN (l.set i x):=by simp[tN,uh]
theorem Bt (p:List Int) (h:i<p.length):((tN p).map cZ).getD i .fn0=N (p.getD i 0).toNat:=by
 rw[pf _ (by rw[jH];exact h),j8]
theorem j6 {q x:Int} (h:0<=x/\x<q): ∃n:Nat,x=n:=⟨x.toNat,(lD h.1).symm⟩
abbrev oR (e:Option TypeId) (x:AV):aF:=⟨0,[x],false,e⟩
abbrev tI:Option TypeId:=some 3
abbrev tL:Option TypeId:=some 27
abbrev tA:Option TypeId:=some 22
theorem Sp (nm:Nat) (hq:q<(2^64)) (h1:1<q) (hx: ∀a∈xs,a<(2^64)) (hi:i<xs.length) (hxl:xs.length<1000000) (ha:a<(2^64)) {p:List Int} (hp:p≠[]) (hin:Lv q p) (hpl:p.length<1000000) {s:Nat} (hs:s<q):
  ml prog 330 nm [(1017,oR tL (.v (.sl ((tN p).map cZ)))),(1000,oR none (.v (N q))),(1001,oR none (.v (.sl (xs.map cZ)))),(1012,oR tI (.v (E i))),(1018,oR tA (.v (N s)))] [.v (N a), .p 1017 0 0, .p 1000 0 0, .p 1001 0 0, .p 1012 0 0, .p 1018 0 0] (.tup []) [(1017,some (oR tL (.v (.sl ((tN (mc q p a)).map cZ))))),(1018,some (oR tA (.v (N (s*((((xs.getD i 0:Nat):Int)-a)%q).toNat%q)))))]:=by
 have q0:0<q:=oO;obtain⟨n,hn⟩: ∃n,n=p.length:=⟨_,rfl⟩;have lP:(tN p).length=n:=by rw[jH,hn]
 have ht: ∀ _:True,((n:Int)+1).toNat=n+1:=fun _=>oO
 have r0:tN (jF q p a 0)=List.replicate (n+1) 0:=by rw[Ow,hn];simp[tN]
 have rE:jF q p a n=mc q p a:=by rw[hn];exact Fy hp hin
 have rL: ∀j,j<=n->(tN (jF q p a j)).length=n+1:=fun j hj=>by rw[jH,Fz oO,hn]
 have rS: ∀j,j<n->((tN (jF q p a j)).set (j+1) (p.getD j 0).toNat).set j ((mc q p a).getD j 0).toNat=tN (jF q p a (j+1)):=fun j hj=>by
  rw[pB,pB,BU oO]
 have rN: ∀j,j<n->(tN (jF q p a j)).getD (j+1) 0=0:=fun j hj=>by rw[j8,BT oO];rfl
 have rA: ∀j,j<=n->(tN (jF q p a j)).getD j 0=((0::p).getD j 0).toNat:=fun j hj=>by rw[j8,I4 oO]
 have rM:=fun j=>GM q a p j
 have e3:=pf xs hi;have xi:=hx _ (an 0 hi);have d1:=ID (a:=xs.getD i 0) (b:=a) (m:=q) xi ha hq q0;have hdl:(((xs.getD i 0:Nat):Int)-a)%q<q:=ig _ oO;have hd0:0<=(((xs.getD i 0:Nat):Int)-a)%q:=gU _ oO;generalize (((xs.getD i 0:Nat):Int)-a)%q=dz at*;obtain⟨dn,rfl⟩: ∃d:Nat,dz=d:=⟨dz.toNat,oO⟩;rw[Int.toNat_natCast]at d1⊢;have d2:=ql (a:=s) (b:=dn) (m:=q) oO oO hq q0;have lE:(tN (mc q p a)).length=n+1:=by rw[<-rE];exact rL n (aA _)
 have k1:=dp lE;have k2:=eQ (tN (mc q p a));have k3:=dJ lE;have k4:(aD (tN (mc q p a))).length=n+1:=by rw[bA,lE]
 generalize xs.getD i 0=xv at*;refine ml.w mixed call330 func330 rfl (nh.1 _ _ _ (by cbv)) (nh.2 _ _ (by cbv)) (obs:=[oR tL (.v (.sl ((tN p).map cZ))),oR none (.v (N q)),oR none (.v (.sl (xs.map cZ))),oR tI (.v (E i)),oR tA (.v (N s))]) (args:=[.v (N a), .p 0 0 0, .p 1 0 0, .p 2 0 0, .p 3 0 0, .p 4 0 0]) (fs:=[some (some (oR tL (.v (.sl ((tN (mc q p a)).map cZ))))),none,none,none,some (some (oR tA (.v (N (s*dn%q)))))]) (j:=none) (nw:=none) (v:= .tup []) (ns:=[1017,1000,1001,1012,1018]) (obsA:=[oR tL (.v (.sl ((tN p).map cZ))),oR none (.v (N q)),oR none (.v (.sl (xs.map cZ))),oR tI (.v (E i)),oR tA (.v (N s))]) rfl ?_ (by simp) (by simp) rfl (by simp[bz,aF.aZ,AV.aZ,AV.aZ.renL]) (by simp[bz,AV.aZ,dM]) (by simp[AV.aZ,AV.aZ.renL]) (by simp[gY,outs,aF.aZ,AV.aZ,AV.aZ.renL])
 simp only[go_sem,seval];repeat' first|simp only[go_sem,seval,lP,ht oT,fX]|refine oE ?_|apply xX<;>intro hc
 refine af (α:=Nat) (fun j=>n-j) (fun j=>⟨[(0, .v (N a)),(1, .p 0 0 0),(2, .p 1 0 0),(3, .p 2 0 0),(4, .p 3 0 0),(5, .p 4 0 0),(7, .rs 1003 0 0 (n+1) 1),(18, .v (.sl ((tN p).map cZ))),(19,E' n),(20,E' j)],[(0,oR tL (.v (.sl ((tN p).map cZ)))),(1,oR none (.v (N q))),(2,oR none (.v (.sl (xs.map cZ)))),(3,oR tI (.v (E i))),(4,oR tA (.v (N s))),(1003,⟨0,aD (tN (jF q p a j)),false,none⟩)],_⟩) (fun j=>j<=n) 0 (fun _=>aA _) (aI _) ?_ ?_
 ·rw[r0];refine lG ?_;all_goals exact fun c hc=>dS hc
 ·intro j hj R hR
  by_cases hlt:j<n
  ·have hgo:=hR (j+1) oO oO;have e1:=Bt p (i:=j) oO;have hrm:=rM j;have hrn:=rN j hlt;have hra:=rA j oO;have hrs:=rS j hlt;have hrl:=rL j oO;rw[<-hrs,hrm]at hgo;obtain⟨c,hc⟩:=j6 (hin j);have hcq:=(hin j).2;obtain⟨v,hv⟩:=j6 (x:=(0::p).getD j 0) (q:=q) (by
    cases j with
    |zero=>exact⟨mB _,by simp;omega⟩
    |succ j=>exact hin j)
   have hvq:v<q:=by
    have:(0::p).getD j 0<(q:Int):=by
     cases j with
     |zero=>simp;omega
     |succ j=>exact(hin j).2
    omega
   rw[hc]at hcq e1 hgo;rw[hv]at hra hgo;rw[Int.toNat_natCast]at e1 hra hgo;have m1:=BB (a:=0) (b:=c) (m:=q) oC oO hq q0;rw[dF,b9 oO]at m1;have m2:=ql (a:=c) (b:=a) (m:=q) oO ha hq q0;have m3:=ID (a:=v) (b:=c*a%q) (m:=q) oO (by have:=aL (c*a) q0;omega) hq q0
   rw[show(((c*a%q:Nat):Int))=(c:Int)*a%q by push_cast;rfl]at m3
   generalize (((v:Int)-(c:Int)*a%q)%q).toNat=z at*;have ht1: ∀ _:True,((j:Int)+1).toNat=j+1:=fun _=>oO
   generalize tN (jF q p a j)=R0 at*;have g0:(aD R0).length=n+1:=by rw[bA,hrl]
   have g1:(aD R0).getD (j+1) .u= .v (N 0):=by rw[fW oO,hrn]
   have g2:List.take (j+1) (aD R0)++[AV.v (.s (aY c))]++List.drop (j+1+1) (aD R0)=aD (R0.set (j+1) c):=dU oO;have g3:(aD (R0.set (j+1) c)).getD j .u= .v (N v):=by
    rw[fW (by rw[fA];omega),<-hra]
    simp[br,nX]
   have g4:(aD (R0.set (j+1) c)).length=n+1:=by rw[bA,fA,hrl]
   have g5:List.take j (aD (R0.set (j+1) c))++[AV.v (.s (aY z))]++List.drop (j+1) (aD (R0.set (j+1) c))=aD ((R0.set (j+1) c).set j z):=dU (by rw[fA];omega)
   clear hR rM rN rA rS rL d1 d2 k1 k2 k3 k4 r0 rE hin;refine vZ (aN @lP (aN @e1 (aN (ht1 oT) (aN @g0 (aN @g1 (aN @g2 (aN @g3 (aN @g4 @g5)))))))) @m1 @m2 @m3 oT ?_;refine hgo _ ?_;refine lG ?_;all_goals exact fun c hc=>dS hc
  ·obtain rfl:j=n:=oO;rw[rE];clear hR rM rN rA rS rL;repeat' first|simp only[go_sem,seval,true_or,or_true,false_or,or_false,aj,kD,fE,jB,ia,ic,fG,rq,rX,iL,jY,eP,aV,AV.aZ,AV.aZ.renL,aO,lP,e3,k1,k2,k3,k4,dE]|refine cP d1 ?_|refine cP d2 ?_|refine oE ?_|apply xX<;>intro hc
   all_goals trivial
theorem So (nm:Nat) (hq:q<(2^64)) (h1:1<q) (hx: ∀a∈xs,a<(2^64)) (hi:i<xs.length) (hxl:xs.length<1000000) (ha:a<(2^64)) {p:List Int} (hp:p≠[]) (hin:Lv q p) (hpl:p.length<1000000) {s:Nat} (hs:s<q):
  ml prog 330 nm [(1017,oR tL (.fs ((tN p).map cZ))),(1000,oR none (.v (N q))),(1001,oR none (.v (.sl (xs.map cZ)))),(1012,oR tI (.v (E i))),(1018,oR tA (.v (N s)))] [.v (N a), .p 1017 0 0, .p 1000 0 0, .p 1001 0 0, .p 1012 0 0, .p 1018 0 0] (.tup []) [(1017,some (oR tL (.v (.sl ((tN (mc q p a)).map cZ))))),(1018,some (oR tA (.v (N (s*((((xs.getD i 0:Nat):Int)-a)%q).toNat%q)))))]:=by
 have q0:0<q:=oO;obtain⟨n,hn⟩: ∃n,n=p.length:=⟨_,rfl⟩;have lP:(tN p).length=n:=by rw[jH,hn]
 have ht: ∀ _:True,((n:Int)+1).toNat=n+1:=fun _=>oO
 have r0:tN (jF q p a 0)=List.replicate (n+1) 0:=by rw[Ow,hn];simp[tN]
 have rE:jF q p a n=mc q p a:=by rw[hn];exact Fy hp hin
 have rL: ∀j,j<=n->(tN (jF q p a j)).length=n+1:=fun j hj=>by rw[jH,Fz oO,hn]
 have rS: ∀j,j<n->((tN (jF q p a j)).set (j+1) (p.getD j 0).toNat).set j ((mc q p a).getD j 0).toNat=tN (jF q p a (j+1)):=fun j hj=>by
  rw[pB,pB,BU oO]
 have rN: ∀j,j<n->(tN (jF q p a j)).getD (j+1) 0=0:=fun j hj=>by rw[j8,BT oO];rfl
 have rA: ∀j,j<=n->(tN (jF q p a j)).getD j 0=((0::p).getD j 0).toNat:=fun j hj=>by rw[j8,I4 oO]
 have rM:=fun j=>GM q a p j
 have e3:=pf xs hi;have xi:=hx _ (an 0 hi);have d1:=ID (a:=xs.getD i 0) (b:=a) (m:=q) xi ha hq q0;have hdl:(((xs.getD i 0:Nat):Int)-a)%q<q:=ig _ oO;have hd0:0<=(((xs.getD i 0:Nat):Int)-a)%q:=gU _ oO;generalize (((xs.getD i 0:Nat):Int)-a)%q=dz at*;obtain⟨dn,rfl⟩: ∃d:Nat,dz=d:=⟨dz.toNat,oO⟩;rw[Int.toNat_natCast]at d1⊢;have d2:=ql (a:=s) (b:=dn) (m:=q) oO oO hq q0;have lE:(tN (mc q p a)).length=n+1:=by rw[<-rE];exact rL n (aA _)
 have k1:=dp lE;have k2:=eQ (tN (mc q p a));have k3:=dJ lE;have k4:(aD (tN (mc q p a))).length=n+1:=by rw[bA,lE]
 generalize xs.getD i 0=xv at*;refine ml.w mixed call330 func330 rfl (nh.1 _ _ _ (by cbv)) (nh.2 _ _ (by cbv)) (obs:=[oR tL (.fs ((tN p).map cZ)),oR none (.v (N q)),oR none (.v (.sl (xs.map cZ))),oR tI (.v (E i)),oR tA (.v (N s))]) (args:=[.v (N a), .p 0 0 0, .p 1 0 0, .p 2 0 0, .p 3 0 0, .p 4 0 0]) (fs:=[some (some (oR tL (.v (.sl ((tN (mc q p a)).map cZ))))),none,none,none,some (some (oR tA (.v (N (s*dn%q)))))]) (j:=none) (nw:=none) (v:= .tup []) (ns:=[1017,1000,1001,1012,1018]) (obsA:=[oR tL (.fs ((tN p).map cZ)),oR none (.v (N q)),oR none (.v (.sl (xs.map cZ))),oR tI (.v (E i)),oR tA (.v (N s))]) rfl ?_ (by simp) (by simp) rfl (by simp[bz,aF.aZ,AV.aZ,AV.aZ.renL]) (by simp[bz,AV.aZ,dM]) (by simp[AV.aZ,AV.aZ.renL]) (by simp[gY,outs,aF.aZ,AV.aZ,AV.aZ.renL])
 simp only[go_sem,seval];repeat' first|simp only[go_sem,seval,lP,ht oT,fX]|refine oE ?_|apply xX<;>intro hc
 refine af (α:=Nat) (fun j=>n-j) (fun j=>⟨[(0, .v (N a)),(1, .p 0 0 0),(2, .p 1 0 0),(3, .p 2 0 0),(4, .p 3 0 0),(5, .p 4 0 0),(7, .rs 1003 0 0 (n+1) 1),(18, .fs ((tN p).map cZ)),(19,E' n),(20,E' j)],[(0,oR tL (.fs ((tN p).map cZ))),(1,oR none (.v (N q))),(2,oR none (.v (.sl (xs.map cZ)))),(3,oR tI (.v (E i))),(4,oR tA (.v (N s))),(1003,⟨0,aD (tN (jF q p a j)),false,none⟩)],_⟩) (fun j=>j<=n) 0 (fun _=>aA _) (aI _) ?_ ?_
 ·rw[r0];refine lG ?_;all_goals exact fun c hc=>dS hc
 ·intro j hj R hR
  by_cases hlt:j<n
  ·have hgo:=hR (j+1) oO oO;have e1:=Bt p (i:=j) oO;have hrm:=rM j;have hrn:=rN j hlt;have hra:=rA j oO;have hrs:=rS j hlt;have hrl:=rL j oO;rw[<-hrs,hrm]at hgo;obtain⟨c,hc⟩:=j6 (hin j);have hcq:=(hin j).2;obtain⟨v,hv⟩:=j6 (x:=(0::p).getD j 0) (q:=q) (by
    cases j with
    |zero=>exact⟨mB _,by simp;omega⟩
    |succ j=>exact hin j)
   have hvq:v<q:=by
    have:(0::p).getD j 0<(q:Int):=by
     cases j with
     |zero=>simp;omega
     |succ j=>exact(hin j).2
    omega
   rw[hc]at hcq e1 hgo;rw[hv]at hra hgo;rw[Int.toNat_natCast]at e1 hra hgo;have m1:=BB (a:=0) (b:=c) (m:=q) oC oO hq q0;rw[dF,b9 oO]at m1;have m2:=ql (a:=c) (b:=a) (m:=q) oO ha hq q0;have m3:=ID (a:=v) (b:=c*a%q) (m:=q) oO (by have:=aL (c*a) q0;omega) hq q0
   rw[show(((c*a%q:Nat):Int))=(c:Int)*a%q by push_cast;rfl]at m3
   generalize (((v:Int)-(c:Int)*a%q)%q).toNat=z at*;have ht1: ∀ _:True,((j:Int)+1).toNat=j+1:=fun _=>oO
   generalize tN (jF q p a j)=R0 at*;have g0:(aD R0).length=n+1:=by rw[bA,hrl]
   have g1:(aD R0).getD (j+1) .u= .v (N 0):=by rw[fW oO,hrn]
   have g2:List.take (j+1) (aD R0)++[AV.v (.s (aY c))]++List.drop (j+1+1) (aD R0)=aD (R0.set (j+1) c):=dU oO;have g3:(aD (R0.set (j+1) c)).getD j .u= .v (N v):=by
    rw[fW (by rw[fA];omega),<-hra]
    simp[br,nX]
   have g4:(aD (R0.set (j+1) c)).length=n+1:=by rw[bA,fA,hrl]
   have g5:List.take j (aD (R0.set (j+1) c))++[AV.v (.s (aY z))]++List.drop (j+1) (aD (R0.set (j+1) c))=aD ((R0.set (j+1) c).set j z):=dU (by rw[fA];omega)
   clear hR rM rN rA rS rL d1 d2 k1 k2 k3 k4 r0 rE hin;refine vZ (aN @lP (aN @e1 (aN (ht1 oT) (aN @g0 (aN @g1 (aN @g2 (aN @g3 (aN @g4 @g5)))))))) @m1 @m2 @m3 oT ?_;refine hgo _ ?_;refine lG ?_;all_goals exact fun c hc=>dS hc
  ·obtain rfl:j=n:=oO;rw[rE];clear hR rM rN rA rS rL;repeat' first|simp only[go_sem,seval,true_or,or_true,false_or,or_false,aj,kD,fE,jB,ia,ic,fG,rq,rX,iL,jY,eP,aV,AV.aZ,AV.aZ.renL,aO,lP,e3,k1,k2,k3,k4,dE]|refine cP d1 ?_|refine cP d2 ?_|refine oE ?_|apply xX<;>intro hc
   all_goals trivial
noncomputable def fN (q:Nat) (xs ys:List Nat) (k:Nat):Int:=((ys.getD k 0*fR (wH q (xs.getD k 0:Nat) ((nI xs).eraseIdx k)).toNat q%q:Nat):Int)
noncomputable def sC (q:Nat) (xs ys:List Nat):List Nat:=tN (Li q (nI xs) (fN q xs ys))
theorem XK:(tN [1]).map cZ=[PV.s [1]]:=congrArg (fun b=>[PV.s b]) (by decide:aY 1=[1])
theorem FW (hq:q<(2^64)) (h1:1<q) {ys:List Nat} (hx: ∀a∈xs,a<(2^64)) (hy: ∀a∈ys,a<(2^64)) (hl:ys.length=xs.length) (hxl:xs.length<1000000) (hg: ∀i,i<xs.length->Nat.gcd (wH q (xs.getD i 0:Nat) ((nI xs).eraseIdx i)).toNat q=1):aE 215 [N q, .sl (xs.map cZ), .sl (ys.map cZ)] (.sl ((sC q xs ys).map cZ)):=by
 have q0:0<q:=oO;obtain⟨n,hn⟩: ∃n,n=xs.length:=⟨_,rfl⟩;have lX:xs.length=n:=hn.symm;have lY:ys.length=n:=by rw[hl,hn]
 have lI:(nI xs).length=n:=by rw[sf,hn]
 obtain⟨P,hP⟩: ∃P:Nat->List Int,P=fun k=>AK q ((nI xs).eraseIdx k):=⟨_,rfl⟩
 obtain⟨f,hf⟩: ∃f:Nat->Int,f=fN q xs ys:=⟨_,rfl⟩;have hT:sC q xs ys=tN (fg q P f n n 0):=by
  unfold sC;rw[<-lI,hP,Fb,hf]
 rw[hT];have r0:tN (fg q P f n 0 0)=List.replicate n 0:=by rw[NS];simp[tN]
 have rl: ∀i,(tN (fg q P f n i 0)).length=n:=fun i=>by rw[jH,lZ]
 clear hT;refine eW call215 func215 ?_;repeat' first|simp only[go_sem,seval,lX,fX]|refine oE ?_|apply xX<;>intro hc
 refine af (α:=Nat) (fun i=>n-i) (fun i=>⟨[(2, .v (.sl (ys.map cZ))),(3, .p 1000 0 0),(4, .p 1001 0 0),(7, .rs 1005 0 0 n 1),(25, .v (.sl (xs.map cZ))),(26,E' n),(27,E' i)],[(1000,oR none (.v (N q))),(1001,oR none (.v (.sl (xs.map cZ)))),(1005,⟨0,aD (tN (fg q P f n i 0)),false,none⟩)],_⟩) (fun i=>i<=n) 0 (fun _=>aA _) (aI _) ?_ ?_
 ·rw[r0];refine lG ?_;all_goals exact fun c hc=>dS hc
 ·intro i hi Ro hRo
  by_cases hlt:i<n
  ·have hi':i<xs.length:=oO;obtain⟨x,hxi⟩: ∃x:Nat,x=xs.getD i 0:=⟨_,rfl⟩;obtain⟨L,hL⟩: ∃L:List Int,L=nI xs:=⟨_,rfl⟩;have hgi:=hg i hi';rw[<-hL,<-hxi]at hgi;have hfi0:f i=((ys.getD i 0*fR (wH q x (L.eraseIdx i)).toNat q%q:Nat):Int):=by rw[hf,hL,hxi];rfl
   have hpi:P i=AK q (L.eraseIdx i):=by rw[hP,hL]
   repeat' first|simp only[go_sem,seval,lX]|refine cP sO ?_|refine oE ?_|apply xX<;>intro hc
   refine af (α:=Nat×Bool) (fun s=>n-s.1) (fun s=>match s with|(k,true)=>⟨[(2, .v (.sl (ys.map cZ))),(3, .p 1000 0 0),(4, .p 1001 0 0),(7, .rs 1005 0 0 n 1),(25, .v (.sl (xs.map cZ))),(26,E' n),(27,E' i),(8, .p 1012 0 0),(9, .p 1017 0 0),(10, .p 1018 0 0),(11, .fn (.func 330) [] [.p 1017 0 0, .p 1000 0 0, .p 1001 0 0, .p 1012 0 0, .p 1018 0 0]),(34, .v (.sl (xs.map cZ))),(35,E' n),(36,E' k)],[(1000,oR none (.v (N q))),(1001,oR none (.v (.sl (xs.map cZ)))),(1005,⟨0,aD (tN (fg q P f n i 0)),false,none⟩),(1012,oR tI (.v (E i))),(1017,oR tL (.v (.sl ((tN (AK q (pV L i k))).map cZ)))),(1018,oR tA (.v (N (wH q x (pV L i k)).toNat)))],1026⟩|(k,false)=>⟨[(2, .v (.sl (ys.map cZ))),(3, .p 1000 0 0),(4, .p 1001 0 0),(7, .rs 1005 0 0 n 1),(25, .v (.sl (xs.map cZ))),(26,E' n),(27,E' i),(8, .p 1012 0 0),(9, .p 1017 0 0),(10, .p 1018 0 0),(11, .fn (.func 330) [] [.p 1017 0 0, .p 1000 0 0, .p 1001 0 0, .p 1012 0 0, .p 1018 0 0]),(34, .v (.sl (xs.map cZ))),(35,E' n),(36,E' k)],[(1000,oR none (.v (N q))),(1001,oR none (.v (.sl (xs.map cZ)))),(1005,⟨0,aD (tN (fg q P f n i 0)),false,none⟩),(1012,oR tI (.v (E i))),(1017,oR tL (.fs [.s [1]])),(1018,oR tA (.v (.s [1])))],1026⟩) (fun s=>s.1<=n/\(s.2=false->pV L i s.1=[])) (0,false) (fun s=>by obtain⟨k,b⟩:=s;cases b<;>exact bQ rfl) ⟨aI _,fun _=>MD _ _⟩ ?_ ?_
   ·refine lG ?_;all_goals exact fun c hc=>dS hc
   ·rintro⟨k,b⟩ ⟨hk,hb⟩ R hR;simp only at hk hb
    by_cases hkn:k<n
    ·by_cases hki:k=i
     ·have hex:pV L i (k+1)=pV L i k:=by rw[hki];exact ME (by rw[hL];omega)
      have hgo:=hR (k+1,b) ⟨by show k+1<=n;omega,fun h=>by show pV L i (k+1)=[];rw[hex];exact hb h⟩ (by show n-(k+1)<n-k;omega)
      have e2:=pf xs (i:=k) oO;clear hR hRo hg
      cases b<;>simp only[hex]at hgo<;>clear hb hex hgi hfi0 hpi
      ·refine dI (aN @lX @e2) ?_;refine hgo _ ?_;refine lG ?_;all_goals exact fun c hc=>dS hc
      ·refine dI (aN @lX @e2) ?_;refine hgo _ ?_;refine lG ?_;all_goals exact fun c hc=>dS hc
     ·have hex:pV L i (k+1)=pV L i k++[((xs.getD k 0:Nat):Int)]:=by rw[MF (by rw[hL];omega) hki,hL,tx]
      have hgo:=hR (k+1,true) ⟨by show k+1<=n;omega,fun h=>by cases h⟩ (by show n-(k+1)<n-k;omega)
      simp only[hex,EU,FG]at hgo;have e2:=pf xs (i:=k) oO;have xk:=hx _ (an 0 (show k<xs.length by omega))
      have hnki: ¬((k:Int)=(i:Int)):=oO;clear hR hRo hg hgi hfi0 hpi;cases b
      ·have he:=hb rfl;rw[he]at hgo;have hc:=fun nm=>So nm hq h1 hx hi' hxl xk (p:=[1]) (by simp) (NR oO) oC (s:=1) h1
       rw[XK,<-hxi]at hc;rw[show N 1= .s [1]from congrArg PV.s (by decide:aY 1=[1])]at hc
       have hs1:(wH q x []*((((x:Nat):Int)-(xs.getD k 0:Nat))%q)%q).toNat=1*((((x:Nat):Int)-(xs.getD k 0:Nat))%q).toNat%q:=by
        obtain⟨d,hd⟩:=j6 (q:=(q:Int)) ⟨gU (((x:Nat):Int)-(xs.getD k 0:Nat)) oO,ig _ oO⟩;rw[hd,Int.toNat_natCast,show wH q x []=((1:Nat):Int)from rfl,<-Int.natCast_mul,<-Int.natCast_emod,Int.toNat_natCast]
       rw[hs1,show AK q []=[1]from rfl]at hgo
       generalize xs.getD k 0=y at*;generalize 1*((((x:Nat):Int)-y)%q).toNat%q=s2 at*;generalize mc q [1] y=p2 at*;clear hb he;repeat' first|simp only[go_sem,seval,lX,e2]|(refine cu (hc _) (by simp[ay]) ?_)|refine oE ?_|apply xX<;>intro hc
       refine hgo _ ?_;refine lG ?_;all_goals exact fun c hc=>dS hc
      ·have hsi:=vO (q:=(q:Int)) oO x (pV L i k);obtain⟨s0,hs0⟩:=j6 hsi;have hc:=fun nm=>Sp nm hq h1 hx hi' hxl xk (p:=AK q (pV L i k)) (by intro h;have:=CN q (pV L i k);rw[h]at this;simp at this) (CM oO _) (by rw[CN];unfold pV;have:=List.length_eraseIdx_le (L.take k) i;have:=List.length_take_le k L;omega) (s:=s0) oO
       rw[<-hxi]at hc;have hs1:(wH q x (pV L i k)*((((x:Nat):Int)-(xs.getD k 0:Nat))%q)%q).toNat=s0*((((x:Nat):Int)-(xs.getD k 0:Nat))%q).toNat%q:=by
        obtain⟨d,hd⟩:=j6 (q:=(q:Int)) ⟨gU (((x:Nat):Int)-(xs.getD k 0:Nat)) oO,ig _ oO⟩;rw[hs0,hd,Int.toNat_natCast,<-Int.natCast_mul,<-Int.natCast_emod,Int.toNat_natCast]
       rw[hs1]at hgo;simp only[hs0,Int.toNat_natCast];generalize xs.getD k 0=y at*;generalize s0*((((x:Nat):Int)-y)%q).toNat%q=s2 at*;generalize AK q (pV L i k)=p1 at*;generalize mc q p1 y=p2 at*;clear hb hsi hs0 hs1 hex;repeat' first|simp only[go_sem,seval,lX,e2]|(refine cu (hc _) (by simp[ay]) ?_)|refine oE ?_|apply xX<;>intro hc
       refine hgo _ ?_;refine lG ?_;all_goals exact fun c hc=>dS hc
    ·obtain rfl:n=k:=oO;have hend:pV L i n=L.eraseIdx i:=by have:=Ig L i;rwa[show L.length=n by rw[hL];exact lI]at this
     rw[hend]at hb;have e4:=pf ys (i:=i) oO;have yi:=hy _ (an 0 (show i<ys.length by omega))
     generalize ys.getD i 0=y at*;obtain⟨p,hpd⟩: ∃p,p=AK q (L.eraseIdx i):=⟨_,rfl⟩;have hpp:p=P i:=by rw[hpd,hpi]
     have hin:Lv q p:=by rw[hpd];exact CM oO _
     have hpl:p.length=n:=by rw[hpd,CN,List.length_eraseIdx,ah (by rw[hL];omega),hL,lI];omega
     have lP:(tN p).length=n:=by rw[jH,hpl]
     obtain⟨s0,hs0⟩:=j6 (vO (q:=(q:Int)) oO x (L.eraseIdx i));have hsq:=(vO (q:=(q:Int)) oO x (L.eraseIdx i)).2;rw[hs0,Int.toNat_natCast]at hgi hfi0;rw[hs0]at hsq;have iv:=rJ (a:=s0) (m:=q) oO hq q0 hgi;have ivl:fR s0 q<q:=(gL q0 hgi).inv.1;have m0:=ql (a:=y) (b:=fR s0 q) (m:=q) yi oO hq q0;obtain⟨fi,hfi1⟩: ∃fi,fi=y*fR s0 q%q:=⟨_,rfl⟩;have hfiq:fi<q:=by rw[hfi1];exact aL _ q0
     rw[<-hfi1]at hfi0 m0;have hfi:f i=(fi:Int):=hfi0;have hgl:=hg;clear hR hg hfi0 hfi1;cases b
     ·have he:=hb rfl;rw[he]at hpd hs0;have hp1:p=[1]:=hpd;have hs1:s0=1:=by have:wH (q:Int) x []=1:=rfl;omega
      rw[hs1,show N 1= .s [1]from congrArg PV.s (by decide:aY 1=[1])]at iv
      rw[hs1]at m0;have hpq:([PV.s [1]]:List PV)=(tN p).map cZ:=by rw[hp1,XK]
      have l1:([PV.s [1]]:List PV).length=n:=by rw[hpq,aC];exact lP
      simp only[List.length_cons,List.length_nil]at l1;clear hpd hs0 hs1 hgi he hb;simp only[hpq];repeat' first|simp only[go_sem,seval,lX,lY,lP,e4]|refine cP iv ?_|refine cP m0 ?_|refine oE ?_|apply xX<;>intro hc
      refine af (α:=Nat) (fun j=>n-j) (fun j=>⟨[(2, .v (.sl (ys.map cZ))),(3, .p 1000 0 0),(4, .p 1001 0 0),(7, .rs 1005 0 0 n 1),(25, .v (.sl (xs.map cZ))),(26,E' n),(27,E' i),(16, .v (N fi)),(64, .fs ((tN p).map cZ)),(65,E' n),(66,E' j)],[(1000,oR none (.v (N q))),(1001,oR none (.v (.sl (xs.map cZ)))),(1005,⟨0,aD (tN (fg q P f n i j)),false,none⟩)],1050⟩) (fun j=>j<=n) 0 (fun _=>bQ rfl) (aI _) ?_ ?_
      ·refine lG ?_;all_goals exact fun c hc=>dS hc
      ·intro j hj R hR
       by_cases hjn:j<n
       ·have hgo:=hR (j+1) oO oO;have e5:=Bt p (i:=j) oO;have ho1:(tN (fg q P f n i j)).getD j 0=(AB q P f j i).toNat:=by rw[j8,CU hjn]
        have ho2:(tN (fg q P f n i j)).set j (AB q P f j (i+1)).toNat=tN (fg q P f n i (j+1)):=by rw[pB,vE hjn]
        have hol:(tN (fg q P f n i j)).length=n:=by rw[jH,lZ]
        rw[<-ho2]at hgo;obtain⟨a0,ha0⟩:=j6 (rO (q:=(q:Int)) oO P f j i);have ha0q:=(rO (q:=(q:Int)) oO P f j i).2;have hstep:AB q P f j (i+1)=(AB q P f j i+p.getD j 0*f i%q)%q:=by rw[hpp];rfl
        obtain⟨c,hc⟩:=j6 (hin j);have hcq:=(hin j).2;rw[hc]at hcq e5 hstep;rw[ha0]at ho1 ha0q hstep;rw[hfi,show((a0:Int)+(c:Int)*(fi:Int)%q)%q=(((a0+c*fi%q)%q:Nat):Int) by push_cast;rfl]at hstep
        rw[hstep]at hgo;rw[Int.toNat_natCast]at e5 ho1 hgo;have m1:=ql (a:=c) (b:=fi) (m:=q) oO oO hq q0;have m2:=BB (a:=a0) (b:=c*fi%q) (m:=q) oO (by have:=aL (c*fi) q0;omega) hq q0
        generalize (a0+c*fi%q)%q=z at*;generalize tN (fg q P f n i j)=R0 at*;have g0:(aD R0).length=n:=by rw[bA,hol]
        have g1:(aD R0).getD j .u= .v (N a0):=by rw[fW oO,ho1]
        have g2:List.take j (aD R0)++[AV.v (.s (aY z))]++List.drop (j+1) (aD R0)=aD (R0.set j z):=dU oO;clear hR hRo hgl hstep ho2;refine qC (aN @lX (aN @lP (aN @e5 (aN @g0 (aN @g1 @g2))))) @m1 @m2 ?_;refine hgo _ ?_;refine lG ?_;all_goals exact fun c hc=>dS hc
       ·obtain rfl:j=n:=oO;rw[vD];have hgo:=hRo (i+1) oO oO;clear hR hRo;refine dI (aN @lX @lP) ?_;refine hgo _ ?_;refine lG ?_;all_goals exact fun c hc=>dS hc
     ·simp only[hend,<-hpd,hs0,Int.toNat_natCast];clear hpd hs0 hgi hb;repeat' first|simp only[go_sem,seval,lX,lY,lP,e4]|refine cP iv ?_|refine cP m0 ?_|refine oE ?_|apply xX<;>intro hc
      refine af (α:=Nat) (fun j=>n-j) (fun j=>⟨[(2, .v (.sl (ys.map cZ))),(3, .p 1000 0 0),(4, .p 1001 0 0),(7, .rs 1005 0 0 n 1),(25, .v (.sl (xs.map cZ))),(26,E' n),(27,E' i),(16, .v (N fi)),(64, .v (.sl ((tN p).map cZ))),(65,E' n),(66,E' j)],[(1000,oR none (.v (N q))),(1001,oR none (.v (.sl (xs.map cZ)))),(1005,⟨0,aD (tN (fg q P f n i j)),false,none⟩)],1050⟩) (fun j=>j<=n) 0 (fun _=>bQ rfl) (aI _) ?_ ?_
      ·refine lG ?_;all_goals exact fun c hc=>dS hc
      ·intro j hj R hR
       by_cases hjn:j<n
       ·have hgo:=hR (j+1) oO oO;have e5:=Bt p (i:=j) oO;have ho1:(tN (fg q P f n i j)).getD j 0=(AB q P f j i).toNat:=by rw[j8,CU hjn]
        have ho2:(tN (fg q P f n i j)).set j (AB q P f j (i+1)).toNat=tN (fg q P f n i (j+1)):=by rw[pB,vE hjn]
        have hol:(tN (fg q P f n i j)).length=n:=by rw[jH,lZ]
        rw[<-ho2]at hgo;obtain⟨a0,ha0⟩:=j6 (rO (q:=(q:Int)) oO P f j i);have ha0q:=(rO (q:=(q:Int)) oO P f j i).2;have hstep:AB q P f j (i+1)=(AB q P f j i+p.getD j 0*f i%q)%q:=by rw[hpp];rfl
        obtain⟨c,hc⟩:=j6 (hin j);have hcq:=(hin j).2;rw[hc]at hcq e5 hstep;rw[ha0]at ho1 ha0q hstep;rw[hfi,show((a0:Int)+(c:Int)*(fi:Int)%q)%q=(((a0+c*fi%q)%q:Nat):Int) by push_cast;rfl]at hstep
        rw[hstep]at hgo;rw[Int.toNat_natCast]at e5 ho1 hgo;have m1:=ql (a:=c) (b:=fi) (m:=q) oO oO hq q0;have m2:=BB (a:=a0) (b:=c*fi%q) (m:=q) oO (by have:=aL (c*fi) q0;omega) hq q0
        generalize (a0+c*fi%q)%q=z at*;generalize tN (fg q P f n i j)=R0 at*;have g0:(aD R0).length=n:=by rw[bA,hol]
        have g1:(aD R0).getD j .u= .v (N a0):=by rw[fW oO,ho1]
        have g2:List.take j (aD R0)++[AV.v (.s (aY z))]++List.drop (j+1) (aD R0)=aD (R0.set j z):=dU oO;clear hR hRo hgl hstep ho2;refine qC (aN @lX (aN @lP (aN @e5 (aN @g0 (aN @g1 @g2))))) @m1 @m2 ?_;refine hgo _ ?_;refine lG ?_;all_goals exact fun c hc=>dS hc
       ·obtain rfl:j=n:=oO;rw[vD];have hgo:=hRo (i+1) oO oO;clear hR hRo;refine dI (aN @lX @lP) ?_;refine hgo _ ?_;refine lG ?_;all_goals exact fun c hc=>dS hc
  ·obtain rfl:i=n:=oO;have k1:=dp (rl i);have k2:=eQ (tN (fg q P f i i 0));have k3:=dJ (rl i);have k4:(aD (tN (fg q P f i i 0))).length=i:=by rw[bA,rl]
   clear hRo;repeat' first|simp only[go_sem,seval,lX,k1,k2,k3,k4,dE]|refine oE ?_|apply xX<;>intro hc
   all_goals trivial
def tS (vs:List Bytes) (sd:Bytes) (i:Nat):Except Int Int->PV
 | .ok z=> .tup [Z z,T vs sd (i+1:Nat),E 0]
 | .error e=> .tup [.agg [.b false, .s []],T [] [] 0,E e]
theorem Be {vs:List Bytes} {sd:Bytes} {M:Nat} (hv:vs.all aa=true) (hi:i<=2147483647) (hl:vs.length<1000000) (hsd:sd.length<1000000) (h1:1<=M) (h2:3*M<dZ):aE 259 [T vs sd i,N M] (tS vs sd i (Ae vs sd i M)):=by
 have hM:aY M≠[]:=by rw[ne_eq,iJ];omega
 have hN:aa (aY (2*M-1))=true:=vB oO;have hr:=tM vs sd i (aY M) oO;rw[Hh hv (vB oO) hM hi]at hr;have ha:=P2 (a:=M) (b:=M) oO;have hs:=wT (a:=M) (b:=1) oO oO;have ho:=wT (a:=M+M) (b:=1) oO oO;have hd:=yL (sd:=sd) hv hN (by rw[aQ];omega) hi hl hsd
 rw[<-e9]at hs ho;rw[show M+M-1=2*M-1 by omega]at ho
 unfold Ae;generalize hD:jd vs sd i (aY (2*M-1))=r at*
 cases r with
 |error e=>
  unfold pS at hd;unfold tS;rcases oG hD with rfl|rfl
  ·refine eW call259 func259 ?_;exact z7 @hr @ha @hs @ho @hd oT oT
  ·refine eW call259 func259 ?_;exact z7 @hr @ha @hs @ho @hd oT oT
 |ok x=>
  obtain⟨vx,hx,-⟩:=je hv hN hl hi hD;rw[aQ]at hx;have hz:=S2 (x:=(num x:Int)) (y:=((M-1:Nat):Int)) oO;have e1:Z (num x:Int)= .agg [.b false, .s x]:=by rw[<-Q5,CE vx];rfl
  have e2:Z ((M-1:Nat):Int)= .agg [.b false,N (M-1)]:=rfl;rw[e1,e2]at hz;unfold pS at hd;unfold tS;simp only;refine eW call259 func259 ?_;exact z7 @hr @ha @hs @ho @hd @hz oT
end Go.Proofs.Tryz
namespace Go.Proofs.Tryz
open Go Go.Dom


theorem kP (l:List (Bool×Bytes)) (hl:l.length<4611686018427387904):aE 85 [.sl (l.map cT)] (.b (l.all cz)):=by
 have l5:(l.map cT).length=l.length:=aC ..;refine eW call85 func85 ?_;refine qB ?_;refine af (α:=Nat) (fun i=>l.length-i) (fun i=>⟨[(0, .v (.sl (l.map cT))),(3,E' i)],[],_⟩) (fun i=>i<=l.length/\(l.drop i).all cz=l.all cz) 0 (fun _=>aA _) ⟨aI _,rfl⟩ ?_ ?_
 ·exact lE
 ·rintro i ⟨hi,hf⟩ R hR;rw[<-hf]
  by_cases hlt:i<l.length
  ·have e1:=getD_map cT l fU hlt;have hgo:=hR (i+1);rw[<-hf]at hgo;rw[aW fU hlt,List.all_cons]at hgo⊢;obtain⟨x,hx⟩: ∃x,x=l.getD i fU:=⟨_,rfl⟩;rw[<-hx]at e1 hgo⊢;clear hx hf hR;obtain⟨n,a⟩:=x;have hv:=jE n a;have e:cz (n,a)=(aa a&& !(n&&a==[])):=rfl;rw[e]at hgo⊢;clear e;simp only[cT]at e1;generalize (aa a&& !(n&&a==[]))=b at*;cases b
   ·repeat' first|simp only[go_sem,seval,l5,e1]|refine cP hv ?_|refine oE ?_|apply xX<;>intro hc
    all_goals simp
   ·have hgo:=hgo ⟨oO,by simp⟩ oO
    exact gV (aN @l5 @e1) @hgo @hv
  ·obtain rfl:i=l.length:=oO;rw[da];exact gi @l5
theorem pq (l:List Bytes) (hl:l.length<4611686018427387904):aE 190 [.sl (l.map .s)] (.b (l.all aa)):=by
 have l5:(l.map PV.s).length=l.length:=aC ..;refine eW call190 func190 ?_;refine qB ?_;refine af (α:=Nat) (fun i=>l.length-i) (fun i=>⟨[(0, .v (.sl (l.map .s))),(3,E' i)],[],_⟩) (fun i=>i<=l.length/\(l.drop i).all aa=l.all aa) 0 (fun _=>aA _) ⟨aI _,rfl⟩ ?_ ?_
 ·exact lE
 ·rintro i ⟨hi,hf⟩ R hR;rw[<-hf]
  by_cases hlt:i<l.length
  ·have e1:=getD_map PV.s l ([]:Bytes) hlt;have hgo:=hR (i+1);rw[<-hf]at hgo;rw[aW ([]:Bytes) hlt,List.all_cons]at hgo⊢;generalize l.getD i []=a at*;clear hf hR;have hv:=aK a;generalize aa a=b at*;cases b
   ·repeat' first|simp only[go_sem,seval,l5,e1]|refine cP hv ?_|refine oE ?_|apply xX<;>intro hc
    all_goals simp
   ·have hgo:=hgo ⟨oO,by simp⟩ oO
    exact gV (aN @l5 @e1) @hgo @hv
  ·obtain rfl:i=l.length:=oO;rw[da];exact gi @l5
