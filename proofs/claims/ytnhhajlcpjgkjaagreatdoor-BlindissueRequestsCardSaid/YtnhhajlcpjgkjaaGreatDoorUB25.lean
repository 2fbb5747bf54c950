/- Part of the proof. -/
import Derived.Test.YtnhhajlcpjgkjaaGreatDoorUB24
set_option linter.all false
set_option maxHeartbeats 16000000
set_option maxRecDepth 100000
namespace Go.Dom
structure cU {α:Type} (f:α->PV) (z:Nat):Prop where
 len: ∀x,(f x).cells.length=z
 one: ∀x,∀y∈(f x).cells,y.one=true
 z1:z=1-> ∀x,(f x).cells=[f x]
 zn:z≠1-> ∀x,f x= .agg (f x).cells
def aT {α:Type} (f:α->PV) (l:List α):List AV:=(l.flatMap fun x=>(f x).cells).map AV.v
variable {α:Type} {f:α->PV} {z:Nat}
variable {el:Option TypeId} {i k n ver:Nat}
theorem cU.s:cU PV.s 1:=⟨fun _=>rfl,fun _ y hy=>by cases fz.1 hy;rfl,fun _ _=>rfl,fun h=>aP rfl h⟩
theorem KH (h:cU f z) (l:List α):(l.flatMap fun x=>(f x).cells).length=l.length*z:=by
 induction l with
 |nil=>simp
 |cons x l ih=>rw[fy,bU,ih,h.len,List.length_cons,kP];omega
theorem cf (h:cU f z) (l:List α):(aT f l).length=l.length*z:=by rw[aT,aG,KH h]
theorem ct (h:cU f z) (l:List α):(aT f l).take (l.length*z)=aT f l:=cZ (by rw[cf h];exact aD _)
theorem dY (h:cU f z) (l:List α):(aT f l).all AV.one=true:=by
 rw[bH];intro y hy;obtain⟨c,hc,rfl⟩:=cE.1 hy;obtain⟨x,-,hx⟩:=kM.1 hc;exact h.one x c hx
theorem ek (hf:Nat->Option aJ) (k:Nat) (l:List α):bc (view hf (k+1)) (aT f l)=some (l.flatMap fun x=>(f x).cells):=fX _ _ _
theorem H0 (hf:Nat->Option aJ) (k:Nat) (l:List α):(aT f l).flatMap (bJ hf (k+1))=[]:=by
 unfold aT
 induction (l.flatMap fun x=>(f x).cells)with
 |nil=>rfl
 |cons x l ih=>simp_all[bJ]
theorem de (h:cU f z) (l:List α):chunk z l.length (l.flatMap fun x=>(f x).cells)=l.map f:=by
 induction l with
 |nil=>rfl
 |cons x l ih=>
  have hl:=h.len x;rw[List.length_cons,fy,chunk,List.drop_left' hl,ih,bV];congr 1
  by_cases h1:z=1
  ·rw[ah h1,h.z1 h1 x];rfl
  ·rw[af h1,List.take_left' hl];exact(h.zn h1 x).symm
theorem cv {l:List α} {c:AV} (h:c∈aT f l):c.bd n=true:=by
 obtain⟨x,-,rfl⟩:=cE.1 h;rfl
theorem bT (l:List α) (x:α):aT f (l++[x])=aT f l++(f x).cells.map AV.v:=by
 simp[aT,uL]
theorem rv (h: ∀x,(f x).cells=[f x]) (l:List α) (d:α) (hi:i<l.length):(aT f l).getD i .u= .v (f (l.getD i d)):=by
 have e:aT f l=l.map fun x=>AV.v (f x):=by
  unfold aT;clear hi
  induction l with
  |nil=>rfl
  |cons x l ih=>rw[fy,h x,mj,ih];rfl
 rw[e];simp[b9,hi]
theorem kJ (h:cU f z) {hf:Nat->Option aJ} {gr:Bool} {l:List α} {m:Nat} (hm:m=l.length) (hg:hf n=some ⟨ver,aT f l,gr,el⟩):view hf (k+2) (.rs n ver 0 m z)=some (.sl (l.map f)):=by
 subst hm;have h1:=cf h l;have h2:=dY h l;have h3:=ct h l;simp[view,hg,h1,h2,h3,ek,de h]
theorem mY (h:cU f z) {hf:Nat->Option aJ} {gr:Bool} {l:List α} {m:Nat} (hm:m=l.length) (hg:hf n=some ⟨ver,aT f l,gr,el⟩):bJ hf (k+2) (.rs n ver 0 m z)=[n]:=by
 subst hm;simp[bJ,hg,ct h,H0]
theorem leZ (hr:cU f z) {t t':List (Nat×AV)} {h h':List (Nat×aJ)} {n n' k m ver len:Nat} {gr:Bool} {l:List α} (hk:aS t' k= .rs m ver 0 len z) (hg:aC h' m=some ⟨ver,aT f l,gr,el⟩) (hl:len=l.length) (ht:dw t' n t) (hh:du h' n h) (hm1:1000<=m:=by decide) (hmh:aC h m=none:=by rfl) (hn:n<=n':=by first|decide|omega):(AS.mk ((k, .v (.sl (l.map f)))::t) h n).Le ⟨t',h',n'⟩:=
 AS.Le.ofZ [(k, .sl (l.map f))] [m] (fun x hx=>by obtain rfl:=fz.1 hx;exact⟨hm1,hmh⟩) (fun q hq=>by
  obtain rfl:=fz.1 hq;simp only[hk];exact⟨kJ hr hl hg,fun x hx=>by rw[mY hr hl hg]at hx;exact hx⟩) hn ht hh
theorem aL {α:Type} {l:List α} (d:α) (h:i<l.length):l.take (i+1)=l.take i++[l.getD i d]:=by
 rw[List.take_succ,cb h,b9,cb h];rfl
theorem jG {α:Type} (l:List α) (p:α->Bool):(l.any fun x=> !p x)= !l.all p:=by
 induction l with
 |nil=>rfl
 |cons x l ih=>rw[List.any_cons,List.all_cons,ih];cases p x<;>simp
end Go.Dom
namespace Go.Proofs.Tryz
open Go Go.Dom Go.Num
structure dM where
 (base:Bytes) (var:Int) (neg:Bool) (abs:Bytes)
def dM.pv:dM->PV
 |⟨b,v,n,a⟩=> .agg [.s b, .i .i64 v, .b n, .s a]
structure c9 where
 (lL:Int) (tgt:Bytes) (terms:List dM)
def c9.pv:c9->PV
 |⟨g,t,l⟩=> .agg [.i .i64 g, .s t, .sl (l.map dM.pv)]
def dO:Bytes×Bytes->PV
 |(m,o)=> .agg [.s m, .s o]
def cz (b:Bytes):PV:= .agg [.s b]
def cI:Bool×Bytes->PV
 |(n,a)=> .agg [.b n, .s a]
structure cG where
 (groups:List (Bytes×Bytes)) (vars:List Bytes) (eqs:List c9)
def cG.pv (s:cG):PV:= .agg [.sl (s.groups.map dO), .sl (s.vars.map cz), .sl (s.eqs.map c9.pv)]
def fQ (z:Int):Bool×Bytes:=(zs z,zb z)
theorem RO (z:Int):cI (fQ z)=Z z:=rfl
def Zp (z:Int):PV:=cI (fQ z)
def cg (x:Bool×Bytes):Bool:=aa x.2&& !(x.1&&x.2==[])
def dE:dM:=⟨[],0,false,[]⟩
def fJ:c9:=⟨0,[],[]⟩
def eV:Bytes×Bytes:=([],[])
def fm:Bool×Bytes:=(false,[])
structure XT (s:cG):Prop where
 g: ∀p∈s.groups,gE p.1 p.2=0/\p.1.length<=8/\p.2.length<=8
 v: ∀b∈s.vars,aa b=true/\b≠[]/\b.length<=16
 q: ∀q∈s.eqs,0<=q.lL/\q.lL<s.groups.length/\jJ (s.groups.getD q.lL.toNat eV).1 (s.groups.getD q.lL.toNat eV).2 q.tgt=true/\q.terms.length<=64/\
  ∀t∈q.terms,0<=t.var/\t.var<s.vars.length/\jJ (s.groups.getD q.lL.toNat eV).1 (s.groups.getD q.lL.toNat eV).2 t.base=true/\cg (t.neg,t.abs)=true
 ng:s.groups.length<=8
 nv:s.vars.length<=64
 ne:s.eqs.length<=64
structure UC (s:cG):Prop where
 g: ∀p∈s.groups,gE p.1 p.2=0/\p.1.length<=8/\p.2.length<=8
 q: ∀q∈s.eqs,0<=q.lL/\q.lL<s.groups.length/\jJ (s.groups.getD q.lL.toNat eV).1 (s.groups.getD q.lL.toNat eV).2 q.tgt=true/\q.terms.length<=64/\
  ∀t∈q.terms,0<=t.var/\t.var<s.vars.length/\jJ (s.groups.getD q.lL.toNat eV).1 (s.groups.getD q.lL.toNat eV).2 t.base=true/\cg (t.neg,t.abs)=true
 ng:s.groups.length<=8
 nv:s.vars.length<=64
 ne:s.eqs.length<=64
theorem XT.m {s:cG} (h:XT s):UC s:=⟨h.g,h.q,h.ng,h.nv,h.ne⟩
theorem getD_map {α:Type} (f:α->PV) (l:List α) (d:α) {i:Nat} (h:i<l.length):(l.map f).getD i .fn0=f (l.getD i d):=by
 simp[b9,h]
theorem aY {α:Type} {l:List α} {i:Nat} (d:α) (h:i<l.length):l.drop i=l.getD i d::l.drop (i+1):=by
 rw[jQ h,b9,cb h];rfl
theorem au {α:Type} {l:List α} {i:Nat} (d:α) (h:i<l.length):l.getD i d∈l:=by
 rw[b9,cb h];exact kK h
theorem gb {m o x:Bytes} (hE:gE m o=0) (h:jJ m o x=true):aa x=true:=((cJ hE).1 h).1
theorem AW (l:List (Bool×Bytes)) (f:FuncId) (p:(Bool×Bytes)->Bool) (hl:l.length<4611686018427387904) (h: ∀x,aE f [cI x] (.b (p x))):aE 313 [.sl (l.map cI), .fn (.func f)] (E (eK p 0 l)):=by
 have hlm:(l.map cI).length=l.length:=aG ..;refine eW call313 func313 ?_;refine dH @hlm ?_;refine ak (α:=Nat) (fun i=>l.length-i) (fun i=>⟨[(0, .v (.sl (l.map cI))),(1, .v (.fn (.func f))),(7, .v (.i .i64 l.length)),(8, .v (.i .i64 (i:Nat)))],[],_⟩) (fun i=>i<=l.length/\eK p i (l.drop i)=eK p 0 l) 0 (fun _=>aD _) ⟨aO _,rfl⟩ ?_ ?_
 ·exact lE
 ·rintro i ⟨hi,hx⟩ R hR;rw[<-hx]
  by_cases hlt:i<l.length
  ·have e1:=getD_map cI l fm hlt;have hf:=h (l.getD i fm);have hgo:=hR (i+1);rw[<-hx,aY fm hlt]at hgo;rw[aY fm hlt];simp only[eK]at hgo⊢;clear hx hR h;obtain⟨b,hb⟩: ∃b,b=p (l.getD i fm):=⟨_,rfl⟩;rw[<-hb]at hf hgo⊢;clear hb;obtain⟨x,hxx⟩: ∃x,x=l.getD i fm:=⟨_,rfl⟩;rw[<-hxx]at e1 hf;clear hxx;cases x;simp only[cI]at e1 hf;cases b
   ·have hgo:=hgo ⟨oO,rfl⟩ oO;exact js (aN @hlm @e1) @hgo @hf
   ·exact jE (aN @hlm @e1) @hf
  ·obtain rfl:i=l.length:=oO;rw[dj];repeat' first|simp only[go_sem,seval,hlm]|refine oE ?_|apply xX<;>intro hc
   all_goals simp[eK]
theorem gG (l:List (Bool×Bytes)) (f:FuncId) (p:(Bool×Bytes)->Bool) (hl:l.length<4611686018427387904) (h: ∀x,aE f [cI x] (.b (p x))):aE 188 [.sl (l.map cI), .fn (.func f)] (.b (l.any p)):=by
 have hi:=AW l f p hl h;have e:decide (eK p 0 l>=0)=l.any p:=by
  rw[cX,decide_eq_true_iff];exact iY
 refine eW call188 func188 ?_;exact jE @e @hi
theorem Ba (l:List c9) (f:FuncId) (p:c9->Bool) (hl:l.length<4611686018427387904) (h: ∀x,aE f [c9.pv x] (.b (p x))):aE 515 [.sl (l.map c9.pv), .fn (.func f)] (E (eK p 0 l)):=by
 have hlm:(l.map c9.pv).length=l.length:=aG ..;refine eW call515 func515 ?_;refine dH @hlm ?_;refine ak (α:=Nat) (fun i=>l.length-i) (fun i=>⟨[(0, .v (.sl (l.map c9.pv))),(1, .v (.fn (.func f))),(7, .v (.i .i64 l.length)),(8, .v (.i .i64 (i:Nat)))],[],_⟩) (fun i=>i<=l.length/\eK p i (l.drop i)=eK p 0 l) 0 (fun _=>aD _) ⟨aO _,rfl⟩ ?_ ?_
 ·exact lE
 ·rintro i ⟨hi,hx⟩ R hR;rw[<-hx]
  by_cases hlt:i<l.length
  ·have e1:=getD_map c9.pv l fJ hlt;have hf:=h (l.getD i fJ);have hgo:=hR (i+1);rw[<-hx,aY fJ hlt]at hgo;rw[aY fJ hlt];simp only[eK]at hgo⊢;clear hx hR h;obtain⟨b,hb⟩: ∃b,b=p (l.getD i fJ):=⟨_,rfl⟩;rw[<-hb]at hf hgo⊢;clear hb;obtain⟨x,hxx⟩: ∃x,x=l.getD i fJ:=⟨_,rfl⟩;rw[<-hxx]at e1 hf;clear hxx;cases x;simp only[c9.pv]at e1 hf;cases b
   ·have hgo:=hgo ⟨oO,rfl⟩ oO;exact js (aN @hlm @e1) @hgo @hf
   ·exact jE (aN @hlm @e1) @hf
  ·obtain rfl:i=l.length:=oO;rw[dj];repeat' first|simp only[go_sem,seval,hlm]|refine oE ?_|apply xX<;>intro hc
   all_goals simp[eK]
theorem vg (l:List c9) (f:FuncId) (p:c9->Bool) (hl:l.length<4611686018427387904) (h: ∀x,aE f [c9.pv x] (.b (p x))):aE 480 [.sl (l.map c9.pv), .fn (.func f)] (.b (l.any p)):=by
 have hi:=Ba l f p hl h;have e:decide (eK p 0 l>=0)=l.any p:=by
  rw[cX,decide_eq_true_iff];exact iY
 refine eW call480 func480 ?_;exact jE @e @hi
theorem Bb (l:List dM) (f:FuncId) (c:List PV) (p:dM->Bool) (hl:l.length<4611686018427387904) (h: ∀x,aE f (x.pv::c) (.b (p x))):aE 516 [.sl (l.map dM.pv), .fc f [] c] (E (eK p 0 l)):=by
 have hlm:(l.map dM.pv).length=l.length:=aG ..;refine eW call516 func516 ?_;refine dH @hlm ?_;refine ak (α:=Nat) (fun i=>l.length-i) (fun i=>⟨[(0, .v (.sl (l.map dM.pv))),(1, .v (.fc f [] c)),(7, .v (.i .i64 l.length)),(8, .v (.i .i64 (i:Nat)))],[],_⟩) (fun i=>i<=l.length/\eK p i (l.drop i)=eK p 0 l) 0 (fun _=>aD _) ⟨aO _,rfl⟩ ?_ ?_
 ·exact lE
 ·rintro i ⟨hi,hx⟩ R hR;rw[<-hx]
  by_cases hlt:i<l.length
  ·have e1:=getD_map dM.pv l dE hlt;have hf:=h (l.getD i dE);have hgo:=hR (i+1);rw[<-hx,aY dE hlt]at hgo;rw[aY dE hlt];simp only[eK]at hgo⊢;clear hx hR h;obtain⟨b,hb⟩: ∃b,b=p (l.getD i dE):=⟨_,rfl⟩;rw[<-hb]at hf hgo⊢;clear hb;obtain⟨x,hxx⟩: ∃x,x=l.getD i dE:=⟨_,rfl⟩;rw[<-hxx]at e1 hf;clear hxx;cases x;simp only[dM.pv]at e1 hf;cases b
   ·have hgo:=hgo ⟨oO,rfl⟩ oO;repeat' first|simp only[go_sem,seval,hlm,e1]|(refine gQ hf (l9 _ _) ?_)|refine oE ?_|apply xX<;>intro hc
    refine hgo _ ?_;exact lE
   ·repeat' first|simp only[go_sem,seval,hlm,e1]|(refine gQ hf (l9 _ _) ?_)|refine oE ?_|apply xX<;>intro hc
    all_goals rfl
  ·obtain rfl:i=l.length:=oO;rw[dj];repeat' first|simp only[go_sem,seval,hlm]|refine oE ?_|apply xX<;>intro hc
   all_goals simp[eK]
theorem vi (l:List dM) (f:FuncId) (c:List PV) (p:dM->Bool) (hl:l.length<4611686018427387904) (h: ∀x,aE f (x.pv::c) (.b (p x))):aE 482 [.sl (l.map dM.pv), .fc f [] c] (.b (l.any p)):=by
 have hi:=Bb l f c p hl h;have e:decide (eK p 0 l>=0)=l.any p:=by
  rw[cX,decide_eq_true_iff];exact iY
 refine eW call482 func482 ?_;exact jE @e @hi
theorem Bc (l:List Bytes) (f:FuncId) (p:Bytes->Bool) (hl:l.length<4611686018427387904) (h: ∀x,aE f [cz x] (.b (p x))):aE 487 [.sl (l.map cz), .fn (.func f)] (E (eK p 0 l)):=by
 have hlm:(l.map cz).length=l.length:=aG ..;refine eW call487 func487 ?_;refine dH @hlm ?_;refine ak (α:=Nat) (fun i=>l.length-i) (fun i=>⟨[(0, .v (.sl (l.map cz))),(1, .v (.fn (.func f))),(7, .v (.i .i64 l.length)),(8, .v (.i .i64 (i:Nat)))],[],_⟩) (fun i=>i<=l.length/\eK p i (l.drop i)=eK p 0 l) 0 (fun _=>aD _) ⟨aO _,rfl⟩ ?_ ?_
 ·exact lE
 ·rintro i ⟨hi,hx⟩ R hR;rw[<-hx]
  by_cases hlt:i<l.length
  ·have e1:=getD_map cz l [] hlt;have hf:=h (l.getD i []);have hgo:=hR (i+1);rw[<-hx,aY [] hlt]at hgo;rw[aY [] hlt];simp only[eK]at hgo⊢;clear hx hR h;generalize p (l.getD i [])=b at*;generalize l.getD i []=x at*;simp only[cz]at e1 hf;cases b
   ·have hgo:=hgo ⟨oO,rfl⟩ oO;exact js (aN @hlm @e1) @hgo @hf
   ·exact jE (aN @hlm @e1) @hf
  ·obtain rfl:i=l.length:=oO;rw[dj];repeat' first|simp only[go_sem,seval,hlm]|refine oE ?_|apply xX<;>intro hc
   all_goals simp[eK]
theorem vj (l:List Bytes) (f:FuncId) (p:Bytes->Bool) (hl:l.length<4611686018427387904) (h: ∀x,aE f [cz x] (.b (p x))):aE 421 [.sl (l.map cz), .fn (.func f)] (.b (l.any p)):=by
 have hi:=Bc l f p hl h;have e:decide (eK p 0 l>=0)=l.any p:=by
  rw[cX,decide_eq_true_iff];exact iY
 refine eW call421 func421 ?_;exact jE @e @hi
end Go.Proofs.Tryz
namespace Go.Proofs.Tryz
open Go Go.Dom Go.Num
variable {b c sl:Bytes}
theorem R4 (q:c9):aE 481 [q.pv] (.b (decide (64<q.terms.length))):=by
 obtain⟨g,t,l⟩:=q;have l4:(l.map dM.pv).length=l.length:=aG ..;have hd:decide ((l.length:Int)>64)=decide (64<l.length):=by rw[fh];omega
 unfold c9.pv;refine eW call481 func481 ?_;exact fP (aN @l4 @hd)
theorem RR {m:Bytes} (lm:m.length<=8) {o:Bytes} (lo:o.length<=8) (t:dM):aE 483 [t.pv, .pt (dO (m,o)) 0] (.b (!xq m o t.base)):=by
 obtain⟨b,v,n,a⟩:=t;have h:=Nw lm lo b;simp only[dM.pv,dO];generalize xq m o b=z at*;refine eW call483 func483 ?_;exact z1 @h
theorem VJ (b:Bytes):aE 484 [cz b] (.b (b==[])):=by
 unfold cz;refine eW call484 func484 ?_;exact z0
def bj:List (Bytes×Bytes)->Bytes
 |[]=>[]
 |g::r=>if g.2=[]then bj r else g.2
theorem Cq (s:cG) (hl:s.groups.length<1000000):aE 319 [s.pv] (.s (bj s.groups)):=by
 obtain⟨gs,vs,es⟩:=s;simp only at hl;have l1:(gs.map dO).length=gs.length:=aG ..;unfold cG.pv;simp only;refine eW call319 func319 ?_;refine dH @l1 ?_;refine ak (α:=Nat) (fun i=>gs.length-i) (fun i=>⟨[(1, .p 1000 0 0),(6, .v (.sl (gs.map dO))),(7,E' gs.length),(8,E' i)],[(1000,⟨0,[.v (.sl (gs.map dO)), .v (.sl (vs.map cz)), .v (.sl (es.map c9.pv))],false,none⟩)],_⟩) (fun i=>i<=gs.length/\bj (gs.drop i)=bj gs) 0 (fun _=>aD _) ⟨aO _,rfl⟩ ?_ ?_
 ·exact lE
 ·rintro i ⟨hi,hf⟩ R hR;rw[<-hf]
  by_cases hlt:i<gs.length
  ·have e1:=getD_map dO gs eV hlt;have hgo:=hR (i+1);rw[<-hf]at hgo;rw[aY eV hlt]at hgo⊢;obtain⟨x,hx⟩: ∃x,x=gs.getD i eV:=⟨_,rfl⟩;rw[<-hx]at e1 hgo⊢;clear hx hf hR;obtain⟨m,o⟩:=x;simp only[bj]at hgo⊢;simp only[dO]at e1
   by_cases ho:o=[]
   ·subst ho;simp only[aB]at hgo⊢;have hgo:=hgo ⟨oO,trivial⟩ oO;exact jr (aN @l1 (aN @e1 @nn)) @hgo
   ·have hb:(o==([]:Bytes))=false:=by simpa using ho
    rw[af ho];exact fP (aN @l1 (aN @e1 @hb))
  ·obtain rfl:i=gs.length:=oO;rw[dj];exact fP @l1
theorem Pz (h:b≠[]):aE 320 [cz b] (E 1):=by
 have hb:(b==([]:Bytes))=false:=by simpa using h
 unfold cz;refine eW call320 func320 ?_;exact fP @hb
structure tF (c sl:Bytes):Prop where
 vc:aa c=true
 vs:aa sl=true
 lc:c.length<=8
 ls:sl.length<=8
 c2:2<=num c
 s2:2<=num sl
def qA (c sl b:Bytes):Nat:=num sl*num c*num b
def Od (c sl b:Bytes):Nat:=num sl*num c*num b-(num c-1)*(num b-1)
def YJ (c sl b:Bytes):PV:= .agg [N (qA c sl b),N (Od c sl b)]
theorem Fz (h:b.length<=16):num b<dP:=br (cF b) (cQ oC h)
theorem xM (hr:tF c sl) (hb:b.length<=16):qA c sl b<da:=by
 have h1:num sl*num c<(2^64)*(2^64):=fO (dS hr.ls) (dS hr.lc);have h2:qA c sl b<(2^64)*(2^64)*dP:=fO h1 (Fz hb);exact br h2 (by unfold da dP;decide+kernel)
theorem Oe (hr:tF c sl):(num c-1)*(num b-1)<=qA c sl b:=by
 unfold qA;have h1:(num c-1)*(num b-1)<=num c*num b:=jZ oO oO;have h2:num c*num b<=num sl*(num c*num b):=D6 _ (by have:=hr.s2;omega)
 rw[cK];omega
theorem uy {q:Bytes} (hr:tF c sl) (vb:aa b=true) (hb:b≠[]) (lb:b.length<=16):aE 322 [.agg [.s c, .s sl, .s q], .s b] (.tup [YJ c sl b,E 0]):=by
 have h64:=kW;have hw:=GC;have hML:=xM hr lb;have hle:=Oe (b:=b) hr;have hnc:=dS hr.lc;have hns:=dS hr.ls;have hnb:=nB (bL vb) hb;have hb16:=Fz lb;have e1:=dN hr.vc;have e2:=dN hr.vs;have e3:=dN vb;have m1:=R7 (a:=num sl) (b:=num c) (br (fO hns hnc) (by unfold da;decide+kernel)) oO oO
 have m2:=R7 (a:=num sl*num c) (b:=num b) hML (br (fO hns hnc) (by unfold da;decide+kernel)) (by have:=xD;omega)
 have s1:=Bo (a:=num c) (b:=1) (by have:=hr.c2;omega) oO
 have s2:=Bo (a:=num b) (b:=1) oO (by have:=xD;omega)
 have m3:=R7 (a:=num c-1) (b:=num b-1) oO oO (by have:=xD;omega)
 have s3:=Bo (a:=num sl*num c*num b) (b:=(num c-1)*(num b-1)) hle hML;rw[e1,e2]at m1;rw[e3]at m2;rw[e1]at s1;rw[e3]at s2;have hP:YJ c sl b= .agg [N (num sl*num c*num b),N (num sl*num c*num b-(num c-1)*(num b-1))]:=rfl;rw[hP];clear hML hle hP;generalize num sl*num c*num b=A at*;generalize num sl*num c=B at*;generalize A-(num c-1)*(num b-1)=C at*;generalize (num c-1)*(num b-1)=D at*;refine eW call322 func322 ?_;exact P7 @dQ @yN @m1 @m2 @s1 @s2 @m3 @s3
theorem Cp (x:Bool×Bytes):aE 497 [cI x] (.b (!cg x)):=by
 obtain⟨n,a⟩:=x;have hv:=il n a;have e:cg (n,a)=(aa a&& !(n&&a==[])):=rfl;rw[e];generalize (aa a&& !(n&&a==[]))=b at*;simp only[cI];refine eW call497 func497 ?_;exact z1 @hv
theorem Py (l:List (Bool×Bytes)) (hl:l.length<1000000):aE 441 [.sl (l.map cI)] (.b (l.all cg)):=by
 have h1:=gG l _ _ oO Cp;have e:(l.all cg)= !(l.any fun x=> !cg x):=by
  induction l with
  |nil=>rfl
  |cons x l ih=>
   have:=ih (by simp at hl;omega)
   rw[List.all_cons,List.any_cons,this]
   ·cases cg x<;>simp
   ·exact gG l _ _ (by simp at hl;omega) Cp
 rw[e];generalize (l.any fun x=> !cg x)=b at*
 refine eW call441 func441 ?_;exact z1 @h1
noncomputable def rU (M:Nat) (l:List (Bool×Bytes)) (x:Nat) (t:dM):Nat:=
 x*dJ M (dJ M (num t.base) t.neg (num t.abs)) (l.getD t.var.toNat fm).1 (num (l.getD t.var.toNat fm).2)%M
noncomputable def gn (gs:List (Bytes×Bytes)) (c:Bytes) (l:List (Bool×Bytes)) (q:c9):Nat:=
 q.terms.foldl (rU (num (gs.getD q.lL.toNat eV).1) l) (dJ (num (gs.getD q.lL.toNat eV).1) (num q.tgt) (!(c==[])) (num c))
theorem o7 (vc:aa c=true):aE 77 [.agg [.b false, .s c]] (.agg [.b (!(c==[])), .s c]):=by
 have hv:=il false c;rw[vc]at hv;have hm:=xN true c;rw[cq]at hm;refine eW call77 func77 ?_;exact z2 @hv @hm
theorem DC {s:cG} (hs:UC s) (h0:s.eqs≠[]) (vc:aa c=true) {l:List (Bool×Bytes)} (hlen:l.length=s.vars.length) (hl: ∀x∈l,cg x=true):aE 443 [s.pv, .s c, .sl (l.map cI)] (.sl (s.eqs.map fun q=>N (gn s.groups c l q))):=by
 obtain⟨gs,vs,es⟩:=s;obtain⟨hg,hq,ng,nv,ne⟩:=hs;simp only at hg hq ng nv ne h0 hlen;have hpos:0<es.length:=je.2 h0;have l1:(gs.map dO).length=gs.length:=aG ..;have l3:(es.map c9.pv).length=es.length:=aG ..;have l5:(l.map cI).length=l.length:=aG ..;have fr:=nc vc;have ng':=o7 vc;have hM:cU (fun q=>N (gn gs c l q)) 1:=⟨fun _=>rfl,fun _ y hy=>by cases fz.1 hy;rfl,fun _ _=>rfl,fun h=>aP rfl h⟩
 have row1: ∀{i:Nat},i<es.length->aT (fun q=>N (gn gs c l q)) (es.take (i+1))=aT (fun q=>N (gn gs c l q)) (es.take i)++[.v (N (gn gs c l (es.getD i fJ)))]:=fun h=>by
  rw[aL fJ h,bT];rfl
 have rn1:aT (fun q=>N (gn gs c l q)) []=[]:=rfl
 unfold cG.pv;simp only;refine eW call443 func443 ?_;refine dH @l3 ?_;refine aj ?_;have e1:=getD_map c9.pv es fJ hpos;obtain⟨q1,q2,q3,q4,q5⟩:=hq _ (au fJ hpos);have r1:=row1 hpos;obtain⟨x,hx⟩: ∃x,x=es.getD 0 fJ:=⟨_,rfl⟩;rw[<-hx]at e1 q1 q2 q3 q4 q5 r1;clear hx;obtain⟨gr,tg,ts⟩:=x;simp only at q1 q2 q3 q4 q5;have hgl:gr.toNat<gs.length:=oO;have kg:=hg _ (au eV hgl);have e3:=getD_map dO gs eV hgl;have hmQ:gn gs c l ⟨gr,tg,ts⟩=ts.foldl (rU (num (gs.getD gr.toNat eV).1) l) (dJ (num (gs.getD gr.toNat eV).1) (num tg) (!(c==[])) (num c)):=rfl;obtain⟨z,hz⟩: ∃z,z=gs.getD gr.toNat eV:=⟨_,rfl⟩;rw[<-hz]at q3 q5 kg e3 hmQ;clear hz;obtain⟨m,o⟩:=z;simp only at q3 q5 kg hmQ;obtain⟨vt,gt⟩:=(cJ kg.1).1 q3;have m1:=(lO kg.1).2.2.1;have hzc:(!(c==[])&&c==[])=false:=by cases(c==([]:Bytes))<;>rfl
 have xe:=rf kg.2.1 kg.2.2 kg.1 gt vc hzc;rw[dN vt]at xe;have gx0:=gt.dJ m1 (!(c==[])) (num c);obtain⟨x0,hx0⟩: ∃x0,x0=dJ (num m) (num tg) (!(c==[])) (num c):=⟨_,rfl⟩;rw[<-hx0]at xe gx0 hmQ;rw[hmQ]at r1;clear hx0 hmQ gt vt;have l4:(ts.map dM.pv).length=ts.length:=aG ..;simp only[dO]at e3;simp only[c9.pv]at e1;refine tj (aN @l1 (aN @l3 (aN @e1 (aN @e3 @l4)))) @fr @ng' @xe oT ?_;refine ak (α:=Nat×Nat) (fun s=>ts.length-s.1) (fun s=>⟨[(1, .v (.s c)),(2, .v (.sl (l.map cI))),(3, .p 1000 0 0),(7, .sn),(18, .v (.sl (es.map c9.pv))),(19,E' es.length),(20,E' 0),(10, .p 1018 0 0),(11, .v (N s.2)),(41, .v (.sl (ts.map dM.pv))),(42,E' ts.length),(43,E' s.1)],[(1000,⟨0,[.v (.sl (gs.map dO)), .v (.sl (vs.map cz)), .v (.sl (es.map c9.pv))],false,none⟩),(1018,⟨0,[.v (.s m), .v (.s o)],false,some 26⟩)],1036⟩) (fun s=>s.1<=ts.length/\GP m o s.2/\(ts.drop s.1).foldl (rU (num m) l) s.2=ts.foldl (rU (num m) l) x0) (0,x0) (fun _=>dr rfl) ⟨aO _,gx0,rfl⟩ ?_ ?_
 ·(refine AS.Le.of (by first|decide|omega) ?_ ?_<;>simp[dw,du,aS,aC,AV.bd,AV.bd.bdL,u8,an,ar,aA])
  skip
 ·rintro⟨j,x⟩ ⟨hj,gx,hf⟩ R' hR';simp only at hj gx hf
  by_cases hjt:j<ts.length
  ·have e2:=getD_map dM.pv ts dE hjt;obtain⟨t1,t2,t3,t4⟩:=q5 _ (au dE hjt);rw[aY dE hjt]at hf;obtain⟨y,hy⟩: ∃y,y=ts.getD j dE:=⟨_,rfl⟩;rw[<-hy]at e2 t1 t2 t3 t4 hf;obtain⟨b,v,n,a⟩:=y;simp only at t1 t2 t3 t4;rw[List.foldl_cons]at hf;obtain⟨kb1,kb2⟩:=(cJ kg.1).1 t3;have hvl:v.toNat<l.length:=oO;have e4:=getD_map cI l fm hvl;have kr:=hl _ (au fm hvl);have hmT:rU (num m) l x ⟨b,v,n,a⟩=x*dJ (num m) (dJ (num m) (num b) n (num a)) (l.getD v.toNat fm).1 (num (l.getD v.toNat fm).2)%num m:=rfl;obtain⟨w,hw⟩: ∃w,w=l.getD v.toNat fm:=⟨_,rfl⟩;rw[<-hw]at e4 kr hmT;obtain⟨rn,ra⟩:=w;simp only[cg,aZ,ey]at t4 kr;have m1:=(lO kg.1).2.2.1;have x1:=rf kg.2.1 kg.2.2 kg.1 kb2 t4.1 t4.2;rw[dN kb1]at x1;have gy:=kb2.dJ m1 n (num a);have x2:=rf kg.2.1 kg.2.2 kg.1 gy kr.1 kr.2;have gz:=gy.dJ m1 rn (num ra);have x3:=I0 kg.2.1 kg.2.2 kg.1 gx gz;have hgo':=hR' (j+1,rU (num m) l x ⟨b,v,n,a⟩) ⟨by show j+1<= _;omega,by rw[hmT];exact gx.mul gz,hf⟩ (by show ts.length-(j+1)<ts.length-j;omega)
   rw[hmT]at hgo';clear hR' hy t3 t4 q5 hf hw kb1 kb2 gx gy gz hmT kr;simp only[dM.pv]at e2;simp only[cI]at e4;have hd3: ∀ _:True,v<(l.length:Int):=fun _=>oO
   generalize dJ (num m) (dJ (num m) (num b) n (num a)) rn (num ra)=z at*;generalize dJ (num m) (num b) n (num a)=y at*;refine Ey (aN @l3 (aN @l4 (aN @l5 (aN @e2 @e4)))) @x1 @x2 @x3 oT ?_;refine hgo' _ ?_
   (refine AS.Le.of (by first|decide|omega) ?_ ?_<;>simp[dw,du,aS,aC,AV.bd,AV.bd.bdL,u8,an,ar,aA])
   skip
  ·obtain rfl:j=ts.length:=oO;rw[dj]at hf;simp only[List.foldl_nil]at hf;subst hf;refine dH (aN @l3 @l4) ?_;refine ak (α:=Nat) (fun j=>es.length-(j+1)) (fun j=>⟨[(1, .v (.s c)),(2, .v (.sl (l.map cI))),(3, .p 1000 0 0),(7, .rs 1040 j 0 (j+1) 1),(18, .v (.sl (es.map c9.pv))),(19,E' es.length),(20,E' (j+1))],[(1000,⟨0,[.v (.sl (gs.map dO)), .v (.sl (vs.map cz)), .v (.sl (es.map c9.pv))],false,none⟩),(1040,⟨j,aT (fun q=>N (gn gs c l q)) (es.take (j+1)),true,some 22⟩)],1044⟩) (fun j=>j+1<=es.length) 0 (fun _=>dr rfl) hpos ?_ ?_
   ·rw[ew,r1,List.take_zero,rn1];exact lE
   ·clear e1 e3 q1 q2 q3 q4 q5 kg gx0 xe r1 l4;intro i hi R hR;have hj1:(es.take (i+1)).length=i+1:=by rw[cd];omega
    have p1:=cf hM (es.take (i+1));have p2:=ct hM (es.take (i+1));rw[hj1,dG]at p1 p2;have hw1: ∀ _:True,((i:Int)+1)=((i+1:Nat):Int):=fun _=>oO
    by_cases hlt:i+1<es.length
    ·have hgo:=hR (i+1) oO oO;clear hR;have e1:=getD_map c9.pv es fJ hlt;obtain⟨q1,q2,q3,q4,q5⟩:=hq _ (au fJ hlt);have r1:=row1 hlt;obtain⟨x,hx⟩: ∃x,x=es.getD (i+1) fJ:=⟨_,rfl⟩;rw[<-hx]at e1 q1 q2 q3 q4 q5 r1;clear hx;obtain⟨gr,tg,ts⟩:=x;simp only at q1 q2 q3 q4 q5;have hgl:gr.toNat<gs.length:=oO;have kg:=hg _ (au eV hgl);have e3:=getD_map dO gs eV hgl;have hmQ:gn gs c l ⟨gr,tg,ts⟩=ts.foldl (rU (num (gs.getD gr.toNat eV).1) l) (dJ (num (gs.getD gr.toNat eV).1) (num tg) (!(c==[])) (num c)):=rfl;obtain⟨z,hz⟩: ∃z,z=gs.getD gr.toNat eV:=⟨_,rfl⟩;rw[<-hz]at q3 q5 kg e3 hmQ;clear hz;obtain⟨m,o⟩:=z;simp only at q3 q5 kg hmQ;obtain⟨vt,gt⟩:=(cJ kg.1).1 q3;have m1:=(lO kg.1).2.2.1;have hzc:(!(c==[])&&c==[])=false:=by cases(c==([]:Bytes))<;>rfl
     have xe:=rf kg.2.1 kg.2.2 kg.1 gt vc hzc;rw[dN vt]at xe;have gx0:=gt.dJ m1 (!(c==[])) (num c);obtain⟨x0,hx0⟩: ∃x0,x0=dJ (num m) (num tg) (!(c==[])) (num c):=⟨_,rfl⟩;rw[<-hx0]at xe gx0 hmQ;rw[hmQ]at r1;clear hx0 hmQ gt vt;have l4:(ts.map dM.pv).length=ts.length:=aG ..;simp only[dO]at e3;simp only[c9.pv]at e1;rw[r1]at hgo;refine tj (aN @l1 (aN @l3 (aN @e1 (aN @e3 @l4)))) @fr @ng' @xe oT ?_;refine ak (α:=Nat×Nat) (fun s=>ts.length-s.1) (fun s=>⟨[(1, .v (.s c)),(2, .v (.sl (l.map cI))),(3, .p 1000 0 0),(7, .rs 1040 i 0 (i+1) 1),(18, .v (.sl (es.map c9.pv))),(19,E' es.length),(20,E' (i+1)),(10, .p 1055 0 0),(11, .v (N s.2)),(41, .v (.sl (ts.map dM.pv))),(42,E' ts.length),(43,E' s.1)],[(1000,⟨0,[.v (.sl (gs.map dO)), .v (.sl (vs.map cz)), .v (.sl (es.map c9.pv))],false,none⟩),(1055,⟨0,[.v (.s m), .v (.s o)],false,some 26⟩),(1040,⟨i,aT (fun q=>N (gn gs c l q)) (es.take (i+1)),true,some 22⟩)],1073⟩) (fun s=>s.1<=ts.length/\GP m o s.2/\(ts.drop s.1).foldl (rU (num m) l) s.2=ts.foldl (rU (num m) l) x0) (0,x0) (fun _=>dr rfl) ⟨aO _,gx0,rfl⟩ ?_ ?_
     ·(refine AS.Le.of (by first|decide|omega) ?_ ?_<;>simp[dw,du,aS,aC,AV.bd,AV.bd.bdL,u8,an,ar,aA])
      all_goals (intro c hc;exact cv hc)
     ·rintro⟨j,x⟩ ⟨hj,gx,hf⟩ R' hR';simp only at hj gx hf
      by_cases hjt:j<ts.length
      ·have e2:=getD_map dM.pv ts dE hjt;obtain⟨t1,t2,t3,t4⟩:=q5 _ (au dE hjt);rw[aY dE hjt]at hf;obtain⟨y,hy⟩: ∃y,y=ts.getD j dE:=⟨_,rfl⟩;rw[<-hy]at e2 t1 t2 t3 t4 hf;obtain⟨b,v,n,a⟩:=y;simp only at t1 t2 t3 t4;rw[List.foldl_cons]at hf;obtain⟨kb1,kb2⟩:=(cJ kg.1).1 t3;have hvl:v.toNat<l.length:=oO;have e4:=getD_map cI l fm hvl;have kr:=hl _ (au fm hvl);have hmT:rU (num m) l x ⟨b,v,n,a⟩=x*dJ (num m) (dJ (num m) (num b) n (num a)) (l.getD v.toNat fm).1 (num (l.getD v.toNat fm).2)%num m:=rfl;obtain⟨w,hw⟩: ∃w,w=l.getD v.toNat fm:=⟨_,rfl⟩;rw[<-hw]at e4 kr hmT;obtain⟨rn,ra⟩:=w;simp only[cg,aZ,ey]at t4 kr;have m1:=(lO kg.1).2.2.1;have x1:=rf kg.2.1 kg.2.2 kg.1 kb2 t4.1 t4.2;rw[dN kb1]at x1;have gy:=kb2.dJ m1 n (num a);have x2:=rf kg.2.1 kg.2.2 kg.1 gy kr.1 kr.2;have gz:=gy.dJ m1 rn (num ra);have x3:=I0 kg.2.1 kg.2.2 kg.1 gx gz;have hgo':=hR' (j+1,rU (num m) l x ⟨b,v,n,a⟩) ⟨by show j+1<= _;omega,by rw[hmT];exact gx.mul gz,hf⟩ (by show ts.length-(j+1)<ts.length-j;omega)
       rw[hmT]at hgo';clear hR' hy t3 t4 q5 hf hw kb1 kb2 gx gy gz hmT kr;simp only[dM.pv]at e2;simp only[cI]at e4;have hd3: ∀ _:True,v<(l.length:Int):=fun _=>oO
       generalize dJ (num m) (dJ (num m) (num b) n (num a)) rn (num ra)=z at*;generalize dJ (num m) (num b) n (num a)=y at*;refine Ey (aN @l3 (aN @l4 (aN @l5 (aN @e2 @e4)))) @x1 @x2 @x3 oT ?_;refine hgo' _ ?_
       (refine AS.Le.of (by first|decide|omega) ?_ ?_<;>simp[dw,du,aS,aC,AV.bd,AV.bd.bdL,u8,an,ar,aA])
       all_goals (intro c hc;exact cv hc)
      ·obtain rfl:j=ts.length:=oO;rw[dj]at hf;simp only[List.foldl_nil]at hf;subst hf;refine eJ (aN @l3 (aN @l4 (aN @p1 @p2))) ?_;refine hgo _ ?_
       (refine AS.Le.of (by first|decide|omega) ?_ ?_<;>simp[dw,du,aS,aC,AV.bd,AV.bd.bdL,u8,an,ar,aA])
       all_goals (intro c hc;rcases hc with h|h<;>first|exact cv h|(subst h;rfl))
    ·obtain hjv:i+1=es.length:=oO;rw[hjv,cl]at p1 p2;rw[hjv,cl];have p3:=dY hM es;have p4:chunk 1 es.length (List.flatMap (fun x=>[PV.s (bQ (gn gs c l x))]) es)=es.map fun q=>N (gn gs c l q):=de hM es
     exact fP (aN @l3 (aN @p1 (aN @p2 (aN @p3 (aN @p4 @ek)))))
