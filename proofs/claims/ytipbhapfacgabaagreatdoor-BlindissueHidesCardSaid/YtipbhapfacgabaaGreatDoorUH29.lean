/- Part of the proof. -/
import Derived.Test.YtipbhapfacgabaaGreatDoorUH28
set_option linter.all false
set_option maxHeartbeats 16000000
set_option maxRecDepth 100000
namespace Go.Dom
structure dq {α:Type} (f:α->PV) (z:Nat):Prop where
 len: ∀x,(f x).cells.length=z
 one: ∀x,∀y∈(f x).cells,y.one=true
 z1:z=1-> ∀x,(f x).cells=[f x]
 zn:z≠1-> ∀x,f x= .agg (f x).cells
def bI {α:Type} (f:α->PV) (l:List α):List AV:=(l.flatMap fun x=>(f x).cells).map AV.v
variable {α:Type} {f:α->PV} {z:Nat}
theorem dq.s:dq PV.s 1:=⟨fun _=>rfl,fun _ y hy=>by cases ik.1 hy;rfl,fun _ _=>rfl,fun h=>aJ rfl h⟩
theorem J3 (h:dq f z) (l:List α):(l.flatMap fun x=>(f x).cells).length=l.length*z:=by
 induction l with
 |nil=>simp
 |cons x l ih=>rw[fP,bU,ih,h.len,List.length_cons,kz];omega
theorem dw (h:dq f z) (l:List α):(bI f l).length=l.length*z:=by rw[bI,aR,J3 h]
theorem eD (h:dq f z) (l:List α):(bI f l).take (l.length*z)=bI f l:=dc (by rw[dw h];exact aB _)
theorem gH (h:dq f z) (l:List α):(bI f l).all AV.one=true:=by
 rw[bJ];intro y hy;obtain⟨c,hc,rfl⟩:=cG.1 hy;obtain⟨x,-,hx⟩:=jS.1 hc;exact h.one x c hx
theorem gI (hf:Nat->Option aC) (k:Nat) (l:List α):aU (view hf (k+1)) (bI f l)=some (l.flatMap fun x=>(f x).cells):=iI _ _ _
theorem Ha (hf:Nat->Option aC) (k:Nat) (l:List α):(bI f l).flatMap (aX hf (k+1))=[]:=by
 unfold bI
 induction (l.flatMap fun x=>(f x).cells)with
 |nil=>rfl
 |cons x l ih=>simp_all[aX]
theorem eC (h:dq f z) (l:List α):chunk z l.length (l.flatMap fun x=>(f x).cells)=l.map f:=by
 induction l with
 |nil=>rfl
 |cons x l ih=>
  have hl:=h.len x;rw[List.length_cons,fP,chunk,List.drop_left' hl,ih,br];congr 1
  by_cases h1:z=1
  ·rw[ah h1,h.z1 h1 x];rfl
  ·rw[af h1,List.take_left' hl];exact(h.zn h1 x).symm
theorem cf {l:List α} {c:AV} {n:Nat} (h:c∈bI f l):c.bd n=true:=by
 obtain⟨x,-,rfl⟩:=cG.1 h;rfl
theorem dQ (l:List α) (x:α):bI f (l++[x])=bI f l++(f x).cells.map AV.v:=by
 simp[bI,tS]
theorem uT (h: ∀x,(f x).cells=[f x]) (l:List α) (d:α) {i:Nat} (hi:i<l.length):(bI f l).getD i .u= .v (f (l.getD i d)):=by
 have e:bI f l=l.map fun x=>AV.v (f x):=by
  unfold bI;clear hi
  induction l with
  |nil=>rfl
  |cons x l ih=>rw[fP,h x,nk,ih];rfl
 rw[e];simp[bR,hi]
theorem u4 (h:dq f z) {hf:Nat->Option aC} {k n ver:Nat} {gr:Bool} {el:Option TypeId} {l:List α} {m:Nat} (hm:m=l.length) (hg:hf n=some ⟨ver,bI f l,gr,el⟩):view hf (k+2) (.rs n ver 0 m z)=some (.sl (l.map f)):=by
 subst hm;have h1:=dw h l;have h2:=gH h l;have h3:=eD h l;simp[view,hg,h1,h2,h3,gI,eC h]
theorem Hs (h:dq f z) {hf:Nat->Option aC} {k n ver:Nat} {gr:Bool} {el:Option TypeId} {l:List α} {m:Nat} (hm:m=l.length) (hg:hf n=some ⟨ver,bI f l,gr,el⟩):aX hf (k+2) (.rs n ver 0 m z)=[n]:=by
 subst hm;simp[aX,hg,eD h,Ha]
theorem aY {α:Type} {l:List α} {i:Nat} (d:α) (h:i<l.length):l.take (i+1)=l.take i++[l.getD i d]:=by
 rw[List.take_succ,bG h,bR,bG h];rfl
theorem jD {α:Type} (l:List α) (p:α->Bool):(l.any fun x=> !p x)= !l.all p:=by
 induction l with
 |nil=>rfl
 |cons x l ih=>rw[List.any_cons,List.all_cons,ih];cases p x<;>simp
end Go.Dom
namespace Go.Proofs.Tryz
open Go Go.Dom Go.Num
structure fS where
 (base:Bytes) (var:Int) (neg:Bool) (abs:Bytes)
def fS.pv:fS->PV
 |⟨b,v,n,a⟩=> .agg [.s b, .i .i64 v, .b n, .s a]
structure dS where
 (jA:Int) (tgt:Bytes) (terms:List fS)
def dS.pv:dS->PV
 |⟨g,t,l⟩=> .agg [.i .i64 g, .s t, .sl (l.map fS.pv)]
def gV:Bytes×Bytes->PV
 |(m,o)=> .agg [.s m, .s o]
def dE (b:Bytes):PV:= .agg [.s b]
def fw:Bool×Bytes->PV
 |(n,a)=> .agg [.b n, .s a]
structure cY where
 (groups:List (Bytes×Bytes)) (vars:List Bytes) (eqs:List dS)
def cY.pv (s:cY):PV:= .agg [.sl (s.groups.map gV), .sl (s.vars.map dE), .sl (s.eqs.map dS.pv)]
def jB (z:Int):Bool×Bytes:=(zs z,zb z)
theorem QR (z:Int):fw (jB z)=Z z:=rfl
def Zp (z:Int):PV:=fw (jB z)
def dh (x:Bool×Bytes):Bool:=aa x.2&& !(x.1&&x.2==[])
def jl:fS:=⟨[],0,false,[]⟩
def jz:dS:=⟨0,[],[]⟩
def iC:Bytes×Bytes:=([],[])
def lU:Bool×Bytes:=(false,[])
structure WW (s:cY):Prop where
 g: ∀p∈s.groups,gE p.1 p.2=0/\p.1.length<=8/\p.2.length<=8
 v: ∀b∈s.vars,aa b=true/\b≠[]/\b.length<=16
 q: ∀q∈s.eqs,0<=q.jA/\q.jA<s.groups.length/\lf (s.groups.getD q.jA.toNat iC).1 (s.groups.getD q.jA.toNat iC).2 q.tgt=true/\q.terms.length<=64/\
  ∀t∈q.terms,0<=t.var/\t.var<s.vars.length/\lf (s.groups.getD q.jA.toNat iC).1 (s.groups.getD q.jA.toNat iC).2 t.base=true/\dh (t.neg,t.abs)=true
 ng:s.groups.length<=8
 nv:s.vars.length<=64
 ne:s.eqs.length<=64
structure Y5 (s:cY):Prop where
 g: ∀p∈s.groups,gE p.1 p.2=0/\p.1.length<=8/\p.2.length<=8
 q: ∀q∈s.eqs,0<=q.jA/\q.jA<s.groups.length/\lf (s.groups.getD q.jA.toNat iC).1 (s.groups.getD q.jA.toNat iC).2 q.tgt=true/\q.terms.length<=64/\
  ∀t∈q.terms,0<=t.var/\t.var<s.vars.length/\lf (s.groups.getD q.jA.toNat iC).1 (s.groups.getD q.jA.toNat iC).2 t.base=true/\dh (t.neg,t.abs)=true
 ng:s.groups.length<=8
 nv:s.vars.length<=64
 ne:s.eqs.length<=64
theorem WW.m {s:cY} (h:WW s):Y5 s:=⟨h.g,h.q,h.ng,h.nv,h.ne⟩
theorem getD_map {α:Type} (f:α->PV) (l:List α) (d:α) {i:Nat} (h:i<l.length):(l.map f).getD i .fn0=f (l.getD i d):=by
 simp[bR,h]
theorem bL {α:Type} {l:List α} {i:Nat} (d:α) (h:i<l.length):l.drop i=l.getD i d::l.drop (i+1):=by
 rw[jL h,bR,bG h];rfl
theorem aG {α:Type} {l:List α} {i:Nat} (d:α) (h:i<l.length):l.getD i d∈l:=by
 rw[bR,bG h];exact jQ h
theorem rv {m o x:Bytes} (hE:gE m o=0) (h:lf m o x=true):aa x=true:=((eY hE).1 h).1
theorem zX (l:List (Bool×Bytes)) (f:FuncId) (p:(Bool×Bytes)->Bool) (hl:l.length<4611686018427387904) (h: ∀x,aF f [fw x] (.b (p x))):aF 251 [.sl (l.map fw), .fn (.func f)] (E (dR p 0 l)):=by
 have hlm:(l.map fw).length=l.length:=aR ..;refine eW call251 func251 ?_;refine fq @hlm ?_;refine aq (α:=Nat) (fun i=>l.length-i) (fun i=>⟨[(0, .v (.sl (l.map fw))),(1, .v (.fn (.func f))),(7, .v (.i .i64 l.length)),(8, .v (.i .i64 (i:Nat)))],[],_⟩) (fun i=>i<=l.length/\dR p i (l.drop i)=dR p 0 l) 0 (fun _=>aB _) ⟨aT _,rfl⟩ ?_ ?_
 ·exact lE
 ·rintro i ⟨hi,hx⟩ R hR;rw[<-hx]
  by_cases hlt:i<l.length
  ·have e1:=getD_map fw l lU hlt;have hf:=h (l.getD i lU);have hgo:=hR (i+1);rw[<-hx,bL lU hlt]at hgo;rw[bL lU hlt];simp only[dR]at hgo⊢;clear hx hR h;obtain⟨b,hb⟩: ∃b,b=p (l.getD i lU):=⟨_,rfl⟩;rw[<-hb]at hf hgo⊢;clear hb;obtain⟨x,hxx⟩: ∃x,x=l.getD i lU:=⟨_,rfl⟩;rw[<-hxx]at e1 hf;clear hxx;cases x;simp only[fw]at e1 hf;cases b
   ·have hgo:=hgo ⟨oO,rfl⟩ oO;exact qe (aN @hlm @e1) @hgo @hf
   ·exact ot (aN @hlm @e1) @hf
  ·obtain rfl:i=l.length:=oO;rw[dO];repeat' first|simp only[go_sem,seval,hlm]|refine oE ?_|apply xX<;>intro hc
   all_goals simp[dR]
theorem gD (l:List (Bool×Bytes)) (f:FuncId) (p:(Bool×Bytes)->Bool) (hl:l.length<4611686018427387904) (h: ∀x,aF f [fw x] (.b (p x))):aF 169 [.sl (l.map fw), .fn (.func f)] (.b (l.any p)):=by
 have hi:=zX l f p hl h;have e:decide (dR p 0 l>=0)=l.any p:=by
  rw[cI,decide_eq_true_iff];exact jd
 refine eW call169 func169 ?_;exact ot @e @hi
theorem z6 (l:List dS) (f:FuncId) (p:dS->Bool) (hl:l.length<4611686018427387904) (h: ∀x,aF f [dS.pv x] (.b (p x))):aF 381 [.sl (l.map dS.pv), .fn (.func f)] (E (dR p 0 l)):=by
 have hlm:(l.map dS.pv).length=l.length:=aR ..;refine eW call381 func381 ?_;refine fq @hlm ?_;refine aq (α:=Nat) (fun i=>l.length-i) (fun i=>⟨[(0, .v (.sl (l.map dS.pv))),(1, .v (.fn (.func f))),(7, .v (.i .i64 l.length)),(8, .v (.i .i64 (i:Nat)))],[],_⟩) (fun i=>i<=l.length/\dR p i (l.drop i)=dR p 0 l) 0 (fun _=>aB _) ⟨aT _,rfl⟩ ?_ ?_
 ·exact lE
 ·rintro i ⟨hi,hx⟩ R hR;rw[<-hx]
  by_cases hlt:i<l.length
  ·have e1:=getD_map dS.pv l jz hlt;have hf:=h (l.getD i jz);have hgo:=hR (i+1);rw[<-hx,bL jz hlt]at hgo;rw[bL jz hlt];simp only[dR]at hgo⊢;clear hx hR h;obtain⟨b,hb⟩: ∃b,b=p (l.getD i jz):=⟨_,rfl⟩;rw[<-hb]at hf hgo⊢;clear hb;obtain⟨x,hxx⟩: ∃x,x=l.getD i jz:=⟨_,rfl⟩;rw[<-hxx]at e1 hf;clear hxx;cases x;simp only[dS.pv]at e1 hf;cases b
   ·have hgo:=hgo ⟨oO,rfl⟩ oO;exact qe (aN @hlm @e1) @hgo @hf
   ·exact ot (aN @hlm @e1) @hf
  ·obtain rfl:i=l.length:=oO;rw[dO];repeat' first|simp only[go_sem,seval,hlm]|refine oE ?_|apply xX<;>intro hc
   all_goals simp[dR]
theorem uf (l:List dS) (f:FuncId) (p:dS->Bool) (hl:l.length<4611686018427387904) (h: ∀x,aF f [dS.pv x] (.b (p x))):aF 357 [.sl (l.map dS.pv), .fn (.func f)] (.b (l.any p)):=by
 have hi:=z6 l f p hl h;have e:decide (dR p 0 l>=0)=l.any p:=by
  rw[cI,decide_eq_true_iff];exact jd
 refine eW call357 func357 ?_;exact ot @e @hi
theorem Aa (l:List fS) (f:FuncId) (c:List PV) (p:fS->Bool) (hl:l.length<4611686018427387904) (h: ∀x,aF f (x.pv::c) (.b (p x))):aF 382 [.sl (l.map fS.pv), .fc f [] c] (E (dR p 0 l)):=by
 have hlm:(l.map fS.pv).length=l.length:=aR ..;refine eW call382 func382 ?_;refine fq @hlm ?_;refine aq (α:=Nat) (fun i=>l.length-i) (fun i=>⟨[(0, .v (.sl (l.map fS.pv))),(1, .v (.fc f [] c)),(7, .v (.i .i64 l.length)),(8, .v (.i .i64 (i:Nat)))],[],_⟩) (fun i=>i<=l.length/\dR p i (l.drop i)=dR p 0 l) 0 (fun _=>aB _) ⟨aT _,rfl⟩ ?_ ?_
 ·exact lE
 ·rintro i ⟨hi,hx⟩ R hR;rw[<-hx]
  by_cases hlt:i<l.length
  ·have e1:=getD_map fS.pv l jl hlt;have hf:=h (l.getD i jl);have hgo:=hR (i+1);rw[<-hx,bL jl hlt]at hgo;rw[bL jl hlt];simp only[dR]at hgo⊢;clear hx hR h;obtain⟨b,hb⟩: ∃b,b=p (l.getD i jl):=⟨_,rfl⟩;rw[<-hb]at hf hgo⊢;clear hb;obtain⟨x,hxx⟩: ∃x,x=l.getD i jl:=⟨_,rfl⟩;rw[<-hxx]at e1 hf;clear hxx;cases x;simp only[fS.pv]at e1 hf;cases b
   ·have hgo:=hgo ⟨oO,rfl⟩ oO;repeat' first|simp only[go_sem,seval,hlm,e1]|(refine iw hf (lH _ _) ?_)|refine oE ?_|apply xX<;>intro hc
    refine hgo _ ?_;exact lE
   ·repeat' first|simp only[go_sem,seval,hlm,e1]|(refine iw hf (lH _ _) ?_)|refine oE ?_|apply xX<;>intro hc
    all_goals rfl
  ·obtain rfl:i=l.length:=oO;rw[dO];repeat' first|simp only[go_sem,seval,hlm]|refine oE ?_|apply xX<;>intro hc
   all_goals simp[dR]
theorem ug (l:List fS) (f:FuncId) (c:List PV) (p:fS->Bool) (hl:l.length<4611686018427387904) (h: ∀x,aF f (x.pv::c) (.b (p x))):aF 359 [.sl (l.map fS.pv), .fc f [] c] (.b (l.any p)):=by
 have hi:=Aa l f c p hl h;have e:decide (dR p 0 l>=0)=l.any p:=by
  rw[cI,decide_eq_true_iff];exact jd
 refine eW call359 func359 ?_;exact ot @e @hi
theorem Ab (l:List Bytes) (f:FuncId) (p:Bytes->Bool) (hl:l.length<4611686018427387904) (h: ∀x,aF f [dE x] (.b (p x))):aF 364 [.sl (l.map dE), .fn (.func f)] (E (dR p 0 l)):=by
 have hlm:(l.map dE).length=l.length:=aR ..;refine eW call364 func364 ?_;refine fq @hlm ?_;refine aq (α:=Nat) (fun i=>l.length-i) (fun i=>⟨[(0, .v (.sl (l.map dE))),(1, .v (.fn (.func f))),(7, .v (.i .i64 l.length)),(8, .v (.i .i64 (i:Nat)))],[],_⟩) (fun i=>i<=l.length/\dR p i (l.drop i)=dR p 0 l) 0 (fun _=>aB _) ⟨aT _,rfl⟩ ?_ ?_
 ·exact lE
 ·rintro i ⟨hi,hx⟩ R hR;rw[<-hx]
  by_cases hlt:i<l.length
  ·have e1:=getD_map dE l [] hlt;have hf:=h (l.getD i []);have hgo:=hR (i+1);rw[<-hx,bL [] hlt]at hgo;rw[bL [] hlt];simp only[dR]at hgo⊢;clear hx hR h;generalize p (l.getD i [])=b at*;generalize l.getD i []=x at*;simp only[dE]at e1 hf;cases b
   ·have hgo:=hgo ⟨oO,rfl⟩ oO;exact qe (aN @hlm @e1) @hgo @hf
   ·exact ot (aN @hlm @e1) @hf
  ·obtain rfl:i=l.length:=oO;rw[dO];repeat' first|simp only[go_sem,seval,hlm]|refine oE ?_|apply xX<;>intro hc
   all_goals simp[dR]
theorem uh (l:List Bytes) (f:FuncId) (p:Bytes->Bool) (hl:l.length<4611686018427387904) (h: ∀x,aF f [dE x] (.b (p x))):aF 322 [.sl (l.map dE), .fn (.func f)] (.b (l.any p)):=by
 have hi:=Ab l f p hl h;have e:decide (dR p 0 l>=0)=l.any p:=by
  rw[cI,decide_eq_true_iff];exact jd
 refine eW call322 func322 ?_;exact ot @e @hi
end Go.Proofs.Tryz
namespace Go.Proofs.Tryz
open Go Go.Dom
theorem KC (s:Bytes):aF 332 [.s s] (.s s):=by
 refine eW call332 func332 ?_;exact z0
theorem LA (s:Bytes):aF 278 [.s s] (.s s):=by
 refine eW call278 func278 ?_;exact z0
theorem Ly (n:Bool) (s:Bytes) (hs:s.length<1000000):aF 335 [.agg [.b n, .s s]] (.s (oG (n,s))):=by
 cases n;all_goals simp only[oG]
 refine eW call335 func335 ?_;repeat' first|simp only[go_sem,seval]|refine oE ?_|apply xX<;>intro hc
 refine eW call335 func335 ?_;exact z0
theorem QF (k:Nat) {c:Int} (hc:c=IntKind.u8.wrap (k:Int)) (l more:List Bytes) (hm:more≠[]) (hn:l.length+more.length<=1000) (hb: ∀s∈l++more,s.length<=100000):aF 331 [.i .u8 c, .sl (l.map .s), .sl (more.map .s), .fn (.func 332)] (.s (nG (ig k (l++more)))):=by
 subst hc;obtain⟨m0,mr,hmr⟩: ∃m0 mr,more=m0::mr:=by cases more with
  |nil=>exact aJ rfl hm
  |cons a b=>exact⟨a,b,rfl⟩
 have hml:more.length=mr.length+1:=by rw[hmr];rfl
 have w1:=fun nm=>YO FR EM 1001 nm k
 have w2:=fun nm=>pQ 1001 1004 nm 0 [UInt8.ofNat k] (l.length+more.length) oC (dD (aB 1) oC) oO
 have ht:=KC;have hpos: ∀ _:True,(0:Int)<(more.length:Int):=fun _=>oO
 have g0:(more.map PV.s).getD 0 .fn0= .s m0:=by rw[hmr];rfl
 have c1: ∀x∈l.map PV.s,x.cells.length=1:=fun x hx=>by obtain⟨c,-,rfl⟩:=cG.1 hx;rfl
 refine eW call331 func331 ?_;repeat' first|simp only[go_sem,seval]|(refine aW (w1 _) (by simp[hget,bF]) ?_)|(refine aW (w2 _) (by simp[hget]) ?_)|refine oE ?_|apply xX<;>intro hc
 refine aj ?_;repeat' first|simp only[go_sem,seval,g0,hpos oT]|refine cP ((ht _)) ?_|refine oE ?_|apply xX<;>intro hc
 refine⟨⟨oO,c1⟩,?_⟩;repeat' first|simp only[go_sem,seval]|refine cP ((ht _)) ?_|refine oE ?_|apply xX<;>intro hc
 refine⟨⟨c1,oO,oO⟩,rfl,?_⟩;have hro:List.map AV.v (List.flatMap PV.cells (List.map PV.s l))++[AV.v (PV.s m0)]=bI PV.s (l++more.take 1):=by
  rw[hmr,bI,tS,nk,qt];rfl
 rw[hro];obtain⟨H,hH⟩: ∃H,H=UInt8.ofNat k::be 8 (l.length+more.length):=⟨_,rfl⟩;rw[<-hH];have hHl:H.length=9:=by rw[hH,List.length_cons,cA]
 have hfr:ig k (l++more)=H++cE (l++more):=by rw[hH,ig,bU];rfl
 rw[hfr];clear hro hfr w1 w2 g0 c1;refine aq (α:=Nat) (fun j=>more.length-j) (fun j=>⟨[(1, .rs 1028 j 0 (l.length+1+j) 1),(3, .v (.fn (.func 332))),(9, .p 1001 0 0),(23, .v (.sl (more.map PV.s))),(24,E' more.length),(25,E' (j+1))],[(1001,bB FR 1001 1004 8 H),(1004,bD 8 H),(1028,⟨j,bI PV.s (l++more.take (j+1)),true,some 9⟩)],1032⟩) (fun j=>j+1<=more.length) 0 (fun _=>fk rfl) oO ?_ ?_
 ·refine lG ?_;exact⟨lC _ _ _ _ _ _ oC oC,lD _ _ _,fun c hc=>cf hc⟩
 ·intro j hj R hR;have hlr:(l++more.take (j+1)).length=l.length+1+j:=by rw[bU,da];omega
  have q0:(bI PV.s (l++more.take (j+1))).length=l.length+1+j:=by rw[dw dq.s,hlr,eH]
  have q1:List.take (l.length+1+j) (bI PV.s (l++more.take (j+1)))=bI PV.s (l++more.take (j+1)):=dc oO
  by_cases hjt:j+1<more.length
  ·have e2:=getD_map PV.s more ([]:Bytes) hjt;have hgo:=hR (j+1) oO oO;rw[aY ([]:Bytes) hjt,<-gZ,dQ]at hgo;generalize more.getD (j+1) ([]:Bytes)=y at e2 hgo;have e3: ∀ _:True,((j:Int)+1).toNat=j+1:=fun _=>oO
   clear hR hlr;repeat' first|simp only[go_sem,seval,q0,q1,e2,e3 oT]|refine cP ((ht _)) ?_|refine oE ?_|apply xX<;>intro hc
   refine hgo _ ?_
   (refine AS.Le.of (by first|decide|omega) ?_ ?_<;>simp[dG,dF,aO,hget,AV.bd,AV.bd.bdL,u8,ar,au,az])
   all_goals first|omega|exact⟨lC _ _ _ _ _ _ oC oC,lD _ _ _,by rw[q1];rfl,fun c hc=>by rcases hc with hc|⟨a,ha,rfl⟩;exact cf hc;rfl⟩
  ·have h:j+1=more.length:=oO;rw[h,cq]at q0 q1⊢;refine eJ (aN @q0 @q1) ?_;have hP:(l++more).length=l.length+1+j:=by rw[bU];omega
   have hPb: ∀i,i<=(l++more).length->(H++cE ((l++more).take i)).length<=9+i*100008:=fun i hi=>by
    rw[bU,hHl];have h1:=oJ ((l++more).take i) (n:=100000) fun s hs=>hb s (kO hs)
    rw[da,pk hi]at h1;omega
   clear hR ht hmr hml hH hpos;rw[<-hP];rw[<-hP]at q0;generalize hPP:l++more=P at*;have hP3:P.length<=1000:=by rw[hP];omega
   refine aq (α:=Nat) (fun i=>P.length-i) (fun i=>⟨[(9, .p 1001 0 0),(41, .rs 1028 j 0 P.length 1),(42,E' P.length),(43,E' i)],[(1001,bB FR 1001 1004 (8+9*i) (H++cE (P.take i))),(1004,bD (8+9*i) (H++cE (P.take i))),(1028,⟨j,bI PV.s P,true,some 9⟩)],1036⟩) (fun i=>i<=P.length) 0 (fun _=>fk rfl) (aT _) ?_ ?_
   ·(refine AS.Le.of (by first|decide|omega) ?_ ?_<;>simp[dG,dF,aO,hget,AV.bd,AV.bd.bdL,u8,ar,au,az])
    have e0:H++cE []=H:=jr H;rw[e0];exact⟨rfl,lC _ _ _ _ _ _ oC oC,rfl,lD _ _ _,fun c hc=>cf hc⟩
   ·intro i hi R hR
    by_cases hit:i<P.length
    ·have e2:=uT (f:=PV.s) (fun _=>rfl) P ([]:Bytes) hit
     have hgo:=hR (i+1) oO oO;have hbs:=hb (P.getD i []) (aG [] hit);have hPi:=hPb i hi;rw[aY ([]:Bytes) hit,mY,<-gZ,<-gZ]at hgo;generalize P.getD i []=y at e2 hgo hbs;generalize hB:H++cE (P.take i)=B at hgo hPi⊢;have w1:=fun nm=>pQ 1001 1004 nm (8+9*i) B y.length oC oO oO
     have w2:=fun nm=>Y9 FR 1001 1004 nm (8+9*i+8) (B++be 8 y.length) y oC (by rw[bU,cA];omega)
     simp only[show 8+9*(i+1)=8+9*i+8+1 by omega]at hgo
     clear hR hb hPb;repeat' first|simp only[go_sem,seval,q0,e2]|(refine aW (w1 _) (by simp[hget]) ?_)|(refine aW (w2 _) (by simp[hget]) ?_)|refine oE ?_|apply xX<;>intro hc
     refine hgo _ ?_;refine lG ?_;all_goals exact⟨lC _ _ _ _ _ _ oC oC,lD _ _ _,fun c hc=>cf hc⟩
    ·have h:i=P.length:=oO;rw[h,cq];have hl2:=hPb P.length (aB _);rw[cq]at hl2;have hne:H++cE P≠[]:=by intro h0;have:=congrArg List.length h0;rw[bU,hHl]at this;simp at this
     generalize H++cE P=B at hl2 hne⊢;have w3:=fun nm=>Ld FR 1001 1004 nm (8+9*P.length) B oC (fun h0=>hne (iZ.1 h0)) oO
     have hsu:=q9 (s:=B) oO;repeat' first|simp only[go_sem,seval,q0]|(refine aW (w3 _) (by simp[hget]) ?_)|refine cP hsu ?_|refine oE ?_|apply xX<;>intro hc
theorem QE (k:Nat) {c:Int} (hc:c=IntKind.u8.wrap (k:Int)) (l more:List Bytes) (hm:more≠[]) (hn:l.length+more.length<=1000) (hb: ∀s∈l++more,s.length<=100000):aF 277 [.i .u8 c, .sl (l.map .s), .sl (more.map .s), .fn (.func 278)] (.s (nG (ig k (l++more)))):=by
 subst hc;obtain⟨m0,mr,hmr⟩: ∃m0 mr,more=m0::mr:=by cases more with
  |nil=>exact aJ rfl hm
  |cons a b=>exact⟨a,b,rfl⟩
 have hml:more.length=mr.length+1:=by rw[hmr];rfl
 have w1:=fun nm=>YO FR EM 1001 nm k
 have w2:=fun nm=>pQ 1001 1004 nm 0 [UInt8.ofNat k] (l.length+more.length) oC (dD (aB 1) oC) oO
 have ht:=LA;have hpos: ∀ _:True,(0:Int)<(more.length:Int):=fun _=>oO
 have g0:(more.map PV.s).getD 0 .fn0= .s m0:=by rw[hmr];rfl
 have c1: ∀x∈l.map PV.s,x.cells.length=1:=fun x hx=>by obtain⟨c,-,rfl⟩:=cG.1 hx;rfl
 refine eW call277 func277 ?_;repeat' first|simp only[go_sem,seval]|(refine aW (w1 _) (by simp[hget,bF]) ?_)|(refine aW (w2 _) (by simp[hget]) ?_)|refine oE ?_|apply xX<;>intro hc
 refine aj ?_;repeat' first|simp only[go_sem,seval,g0,hpos oT]|refine cP ((ht _)) ?_|refine oE ?_|apply xX<;>intro hc
 refine⟨⟨oO,c1⟩,?_⟩;repeat' first|simp only[go_sem,seval]|refine cP ((ht _)) ?_|refine oE ?_|apply xX<;>intro hc
 refine⟨⟨c1,oO,oO⟩,rfl,?_⟩;have hro:List.map AV.v (List.flatMap PV.cells (List.map PV.s l))++[AV.v (PV.s m0)]=bI PV.s (l++more.take 1):=by
  rw[hmr,bI,tS,nk,qt];rfl
 rw[hro];obtain⟨H,hH⟩: ∃H,H=UInt8.ofNat k::be 8 (l.length+more.length):=⟨_,rfl⟩;rw[<-hH];have hHl:H.length=9:=by rw[hH,List.length_cons,cA]
 have hfr:ig k (l++more)=H++cE (l++more):=by rw[hH,ig,bU];rfl
 rw[hfr];clear hro hfr w1 w2 g0 c1;refine aq (α:=Nat) (fun j=>more.length-j) (fun j=>⟨[(1, .rs 1028 j 0 (l.length+1+j) 1),(3, .v (.fn (.func 278))),(9, .p 1001 0 0),(23, .v (.sl (more.map PV.s))),(24,E' more.length),(25,E' (j+1))],[(1001,bB FR 1001 1004 8 H),(1004,bD 8 H),(1028,⟨j,bI PV.s (l++more.take (j+1)),true,some 9⟩)],1032⟩) (fun j=>j+1<=more.length) 0 (fun _=>fk rfl) oO ?_ ?_
 ·refine lG ?_;exact⟨lC _ _ _ _ _ _ oC oC,lD _ _ _,fun c hc=>cf hc⟩
 ·intro j hj R hR;have hlr:(l++more.take (j+1)).length=l.length+1+j:=by rw[bU,da];omega
  have q0:(bI PV.s (l++more.take (j+1))).length=l.length+1+j:=by rw[dw dq.s,hlr,eH]
  have q1:List.take (l.length+1+j) (bI PV.s (l++more.take (j+1)))=bI PV.s (l++more.take (j+1)):=dc oO
  by_cases hjt:j+1<more.length
  ·have e2:=getD_map PV.s more ([]:Bytes) hjt;have hgo:=hR (j+1) oO oO;rw[aY ([]:Bytes) hjt,<-gZ,dQ]at hgo;generalize more.getD (j+1) ([]:Bytes)=y at e2 hgo;have e3: ∀ _:True,((j:Int)+1).toNat=j+1:=fun _=>oO
   clear hR hlr;repeat' first|simp only[go_sem,seval,q0,q1,e2,e3 oT]|refine cP ((ht _)) ?_|refine oE ?_|apply xX<;>intro hc
   refine hgo _ ?_
   (refine AS.Le.of (by first|decide|omega) ?_ ?_<;>simp[dG,dF,aO,hget,AV.bd,AV.bd.bdL,u8,ar,au,az])
   all_goals first|omega|exact⟨lC _ _ _ _ _ _ oC oC,lD _ _ _,by rw[q1];rfl,fun c hc=>by rcases hc with hc|⟨a,ha,rfl⟩;exact cf hc;rfl⟩
  ·have h:j+1=more.length:=oO;rw[h,cq]at q0 q1⊢;refine eJ (aN @q0 @q1) ?_;have hP:(l++more).length=l.length+1+j:=by rw[bU];omega
   have hPb: ∀i,i<=(l++more).length->(H++cE ((l++more).take i)).length<=9+i*100008:=fun i hi=>by
    rw[bU,hHl];have h1:=oJ ((l++more).take i) (n:=100000) fun s hs=>hb s (kO hs)
    rw[da,pk hi]at h1;omega
   clear hR ht hmr hml hH hpos;rw[<-hP];rw[<-hP]at q0;generalize hPP:l++more=P at*;have hP3:P.length<=1000:=by rw[hP];omega
   refine aq (α:=Nat) (fun i=>P.length-i) (fun i=>⟨[(9, .p 1001 0 0),(41, .rs 1028 j 0 P.length 1),(42,E' P.length),(43,E' i)],[(1001,bB FR 1001 1004 (8+9*i) (H++cE (P.take i))),(1004,bD (8+9*i) (H++cE (P.take i))),(1028,⟨j,bI PV.s P,true,some 9⟩)],1036⟩) (fun i=>i<=P.length) 0 (fun _=>fk rfl) (aT _) ?_ ?_
   ·(refine AS.Le.of (by first|decide|omega) ?_ ?_<;>simp[dG,dF,aO,hget,AV.bd,AV.bd.bdL,u8,ar,au,az])
    have e0:H++cE []=H:=jr H;rw[e0];exact⟨rfl,lC _ _ _ _ _ _ oC oC,rfl,lD _ _ _,fun c hc=>cf hc⟩
   ·intro i hi R hR
    by_cases hit:i<P.length
    ·have e2:=uT (f:=PV.s) (fun _=>rfl) P ([]:Bytes) hit
     have hgo:=hR (i+1) oO oO;have hbs:=hb (P.getD i []) (aG [] hit);have hPi:=hPb i hi;rw[aY ([]:Bytes) hit,mY,<-gZ,<-gZ]at hgo;generalize P.getD i []=y at e2 hgo hbs;generalize hB:H++cE (P.take i)=B at hgo hPi⊢;have w1:=fun nm=>pQ 1001 1004 nm (8+9*i) B y.length oC oO oO
     have w2:=fun nm=>Y9 FR 1001 1004 nm (8+9*i+8) (B++be 8 y.length) y oC (by rw[bU,cA];omega)
     simp only[show 8+9*(i+1)=8+9*i+8+1 by omega]at hgo
     clear hR hb hPb;repeat' first|simp only[go_sem,seval,q0,e2]|(refine aW (w1 _) (by simp[hget]) ?_)|(refine aW (w2 _) (by simp[hget]) ?_)|refine oE ?_|apply xX<;>intro hc
     refine hgo _ ?_;refine lG ?_;all_goals exact⟨lC _ _ _ _ _ _ oC oC,lD _ _ _,fun c hc=>cf hc⟩
    ·have h:i=P.length:=oO;rw[h,cq];have hl2:=hPb P.length (aB _);rw[cq]at hl2;have hne:H++cE P≠[]:=by intro h0;have:=congrArg List.length h0;rw[bU,hHl]at this;simp at this
     generalize H++cE P=B at hl2 hne⊢;have w3:=fun nm=>Ld FR 1001 1004 nm (8+9*P.length) B oC (fun h0=>hne (iZ.1 h0)) oO
     have hsu:=q9 (s:=B) oO;repeat' first|simp only[go_sem,seval,q0]|(refine aW (w3 _) (by simp[hget]) ?_)|refine cP hsu ?_|refine oE ?_|apply xX<;>intro hc
theorem QD (k:Nat) {c:Int} (hc:c=IntKind.u8.wrap (k:Int)) (l:List Bytes) (n:Bool) (a:Bytes) (hn:l.length<=999) (hb: ∀s∈l++[oG (n,a)],s.length<=100000):aF 334 [.i .u8 c, .sl (l.map .s), .sl [.agg [.b n, .s a]], .fn (.func 335)] (.s (nG (ig k (l++[oG (n,a)])))):=by
 subst hc;have ha:a.length<1000000:=by
  have:=hb (oG (n,a)) (by simp)
  simp only[oG,List.length_cons]at this;omega
 have w1:=fun nm=>YO FR EM 1001 nm k
 have w2:=fun nm=>pQ 1001 1004 nm 0 [UInt8.ofNat k] (l.length+1) oC (dD (aB 1) oC) oO
 have ht:=Ly n a ha;have c1: ∀x∈l.map PV.s,x.cells.length=1:=fun x hx=>by obtain⟨c,-,rfl⟩:=cG.1 hx;rfl
 refine eW call334 func334 ?_;repeat' first|simp only[go_sem,seval]|(refine aW (w1 _) (by simp[hget,bF]) ?_)|(refine aW (w2 _) (by simp[hget]) ?_)|refine oE ?_|apply xX<;>intro hc
 refine aj ?_;refine Za @ht ?_;refine⟨⟨oO,c1⟩,?_⟩;refine Za @ht ?_;refine⟨⟨c1,oO,oO⟩,rfl,?_⟩;refine aj ?_;refine xy ?_;have hro:List.map AV.v (List.flatMap PV.cells (List.map PV.s l))++[AV.v (PV.s (oG (n,a)))]=bI PV.s (l++[oG (n,a)]):=by
  rw[bI,tS,nk,qt];rfl
 rw[hro];obtain⟨H,hH⟩: ∃H,H=UInt8.ofNat k::be 8 (l.length+1):=⟨_,rfl⟩;rw[<-hH];have hHl:H.length=9:=by rw[hH,List.length_cons,cA]
 have hfr:ig k (l++[oG (n,a)])=H++cE (l++[oG (n,a)]):=by rw[hH,ig,bU];rfl
 rw[hfr];have hP:(l++[oG (n,a)]).length=l.length+1:=by rw[bU];rfl
 have q0:(bI PV.s (l++[oG (n,a)])).length=(l++[oG (n,a)]).length:=by rw[dw dq.s,eH]
 have hPb: ∀i,i<=(l++[oG (n,a)]).length->(H++cE ((l++[oG (n,a)]).take i)).length<=9+i*100008:=fun i hi=>by
  rw[bU,hHl];have h1:=oJ ((l++[oG (n,a)]).take i) (n:=100000) fun s hs=>hb s (kO hs)
  rw[da,pk hi]at h1;omega
 clear hro hfr w1 w2 c1 hH;rw[<-hP];generalize l++[oG (n,a)]=P at*;have hP3:P.length<=1000:=by rw[hP];omega
 clear ha ht hP;refine aq (α:=Nat) (fun i=>P.length-i) (fun i=>⟨[(9, .p 1001 0 0),(41, .rs 1029 0 0 P.length 1),(42,E' P.length),(43,E' i)],[(1001,bB FR 1001 1004 (8+9*i) (H++cE (P.take i))),(1004,bD (8+9*i) (H++cE (P.take i))),(1029,⟨0,bI PV.s P,true,some 9⟩)],1037⟩) (fun i=>i<=P.length) 0 (fun _=>fk rfl) (aT _) ?_ ?_
 ·(refine AS.Le.of (by first|decide|omega) ?_ ?_<;>simp[dG,dF,aO,hget,AV.bd,AV.bd.bdL,u8,ar,au,az])
  have e0:H++cE []=H:=jr H;rw[e0];exact⟨rfl,lC _ _ _ _ _ _ oC oC,rfl,lD _ _ _,fun c hc=>cf hc⟩
 ·intro i hi R hR
  by_cases hit:i<P.length
  ·have e2:=uT (f:=PV.s) (fun _=>rfl) P ([]:Bytes) hit
   have hgo:=hR (i+1) oO oO;have hbs:=hb (P.getD i []) (aG [] hit);have hPi:=hPb i hi;rw[aY ([]:Bytes) hit,mY,<-gZ,<-gZ]at hgo;generalize P.getD i []=y at e2 hgo hbs;generalize hB:H++cE (P.take i)=B at hgo hPi⊢;have w1:=fun nm=>pQ 1001 1004 nm (8+9*i) B y.length oC oO oO
   have w2:=fun nm=>Y9 FR 1001 1004 nm (8+9*i+8) (B++be 8 y.length) y oC (by rw[bU,cA];omega)
   simp only[show 8+9*(i+1)=8+9*i+8+1 by omega]at hgo
   clear hR hb hPb;repeat' first|simp only[go_sem,seval,q0,e2]|(refine aW (w1 _) (by simp[hget]) ?_)|(refine aW (w2 _) (by simp[hget]) ?_)|refine oE ?_|apply xX<;>intro hc
   refine hgo _ ?_;refine lG ?_;all_goals exact⟨lC _ _ _ _ _ _ oC oC,lD _ _ _,fun c hc=>cf hc⟩
  ·have h:i=P.length:=oO;rw[h,cq];have hl2:=hPb P.length (aB _);rw[cq]at hl2;have hne:H++cE P≠[]:=by intro h0;have:=congrArg List.length h0;rw[bU,hHl]at this;simp at this
   generalize H++cE P=B at hl2 hne⊢;have w3:=fun nm=>Ld FR 1001 1004 nm (8+9*P.length) B oC (fun h0=>hne (iZ.1 h0)) oO
   have hsu:=q9 (s:=B) oO;repeat' first|simp only[go_sem,seval,q0]|(refine aW (w3 _) (by simp[hget]) ?_)|refine cP hsu ?_|refine oE ?_|apply xX<;>intro hc
end Go.Proofs.Tryz
namespace Go.Proofs.Tryz
open Go Go.Dom Go.Num
variable {b c sl:Bytes}
theorem Q2 (q:dS):aF 358 [q.pv] (.b (decide (64<q.terms.length))):=by
 obtain⟨g,t,l⟩:=q;have l4:(l.map fS.pv).length=l.length:=aR ..;have hd:decide ((l.length:Int)>64)=decide (64<l.length):=by rw[jm];omega
 unfold dS.pv;refine eW call358 func358 ?_;exact oo (aN @l4 @hd)
theorem QU {m:Bytes} (lm:m.length<=8) {o:Bytes} (lo:o.length<=8) (t:fS):aF 360 [t.pv, .pt (gV (m,o)) 0] (.b (!Cd m o t.base)):=by
 obtain⟨b,v,n,a⟩:=t;have h:=MY lm lo b;simp only[fS.pv,gV];generalize Cd m o b=z at*;refine eW call360 func360 ?_;exact z1 @h
theorem UZ (b:Bytes):aF 361 [dE b] (.b (b==[])):=by
 unfold dE;refine eW call361 func361 ?_;exact z0
def bZ:List (Bytes×Bytes)->Bytes
 |[]=>[]
 |g::r=>if g.2=[]then bZ r else g.2
theorem BA (s:cY) (hl:s.groups.length<1000000):aF 257 [s.pv] (.s (bZ s.groups)):=by
 obtain⟨gs,vs,es⟩:=s;simp only at hl;have l1:(gs.map gV).length=gs.length:=aR ..;unfold cY.pv;simp only;refine eW call257 func257 ?_;refine fq @l1 ?_;refine aq (α:=Nat) (fun i=>gs.length-i) (fun i=>⟨[(1, .p 1000 0 0),(6, .v (.sl (gs.map gV))),(7,E' gs.length),(8,E' i)],[(1000,⟨0,[.v (.sl (gs.map gV)), .v (.sl (vs.map dE)), .v (.sl (es.map dS.pv))],false,none⟩)],_⟩) (fun i=>i<=gs.length/\bZ (gs.drop i)=bZ gs) 0 (fun _=>aB _) ⟨aT _,rfl⟩ ?_ ?_
 ·exact lE
 ·rintro i ⟨hi,hf⟩ R hR;rw[<-hf]
  by_cases hlt:i<gs.length
  ·have e1:=getD_map gV gs iC hlt;have hgo:=hR (i+1);rw[<-hf]at hgo;rw[bL iC hlt]at hgo⊢;obtain⟨x,hx⟩: ∃x,x=gs.getD i iC:=⟨_,rfl⟩;rw[<-hx]at e1 hgo⊢;clear hx hf hR;obtain⟨m,o⟩:=x;simp only[bZ]at hgo⊢;simp only[gV]at e1
   by_cases ho:o=[]
   ·subst ho;simp only[aA]at hgo⊢;have hgo:=hgo ⟨oO,trivial⟩ oO;exact ua (aN @l1 (aN @e1 @nn)) @hgo
   ·have hb:(o==([]:Bytes))=false:=by simpa using ho
    rw[af ho];exact oo (aN @l1 (aN @e1 @hb))
  ·obtain rfl:i=gs.length:=oO;rw[dO];exact oo @l1
theorem OI (h:b≠[]):aF 258 [dE b] (E 1):=by
 have hb:(b==([]:Bytes))=false:=by simpa using h
 unfold dE;refine eW call258 func258 ?_;exact oo @hb
structure r9 (c sl:Bytes):Prop where
 vc:aa c=true
 vs:aa sl=true
 lc:c.length<=8
 ls:sl.length<=8
 c2:2<=num c
 s2:2<=num sl
def yB (c sl b:Bytes):Nat:=num sl*num c*num b
def UU (c sl b:Bytes):Nat:=num sl*num c*num b-(num c-1)*(num b-1)
def XA (c sl b:Bytes):PV:= .agg [N (yB c sl b),N (UU c sl b)]
theorem Iv (h:b.length<=16):num b<gN:=ba (cu b) (cW oC h)
theorem Cp (hr:r9 c sl) (hb:b.length<=16):yB c sl b<dP:=by
 have h1:num sl*num c<(2^64)*(2^64):=gK (cU hr.ls) (cU hr.lc);have h2:yB c sl b<(2^64)*(2^64)*gN:=gK h1 (Iv hb);exact ba h2 (by unfold dP gN;decide+kernel)
theorem UW (hr:r9 c sl):(num c-1)*(num b-1)<=yB c sl b:=by
 unfold yB;have h1:(num c-1)*(num b-1)<=num c*num b:=jq oO oO;have h2:num c*num b<=num sl*(num c*num b):=Nat.le_mul_of_pos_left _ (by have:=hr.s2;omega)
 rw[cr];omega
theorem sZ {q:Bytes} (hr:r9 c sl) (vb:aa b=true) (hb:b≠[]) (lb:b.length<=16):aF 260 [.agg [.s c, .s sl, .s q], .s b] (.tup [XA c sl b,E 0]):=by
 have h64:=oY;have hw:=Sc;have hML:=Cp hr lb;have hle:=UW (b:=b) hr;have hnc:=cU hr.lc;have hns:=cU hr.ls;have hnb:=oI (bY vb) hb;have hb16:=Iv lb;have e1:=eT hr.vc;have e2:=eT hr.vs;have e3:=eT vb;have m1:=Q7 (a:=num sl) (b:=num c) (ba (gK hns hnc) (by unfold dP;decide+kernel)) oO oO
 have m2:=Q7 (a:=num sl*num c) (b:=num b) hML (ba (gK hns hnc) (by unfold dP;decide+kernel)) (by have:=Ln;omega)
 have s1:=Al (a:=num c) (b:=1) (by have:=hr.c2;omega) oO
 have s2:=Al (a:=num b) (b:=1) oO (by have:=Ln;omega)
 have m3:=Q7 (a:=num c-1) (b:=num b-1) oO oO (by have:=Ln;omega)
 have s3:=Al (a:=num sl*num c*num b) (b:=(num c-1)*(num b-1)) hle hML;rw[e1,e2]at m1;rw[e3]at m2;rw[e1]at s1;rw[e3]at s2;have hP:XA c sl b= .agg [N (num sl*num c*num b),N (num sl*num c*num b-(num c-1)*(num b-1))]:=rfl;rw[hP];clear hML hle hP;generalize num sl*num c*num b=A at*;generalize num sl*num c=B at*;generalize A-(num c-1)*(num b-1)=C at*;generalize (num c-1)*(num b-1)=D at*;refine eW call260 func260 ?_;exact Wy @du @xI @m1 @m2 @s1 @s2 @m3 @s3
