/- Part of the proof. -/
import Derived.Test.YtkmahpcpmgedkaaGreatDoorFB35
import Derived.Test.YtkmahpcpmgedkaaGreatDoorFB39
set_option linter.all false
set_option maxHeartbeats 16000000
set_option maxRecDepth 100000
namespace Go.Proofs.Tryz
open Go Go.Dom
end Go.Proofs.Tryz
namespace Go.Proofs.Tryz
open Go Go.Dom Go.Num


theorem Sl:aD 183 [F0, .sl []] (.tup [.sl [],E 0]):=by
 refine eW call183 func183 ?_;exact TK @FF
theorem Sc:aD 89 [F0, .sl []] (.b true):=by
 refine eW call89 func89 ?_;exact z1 @Sl
theorem Sq:aD 187 [.sl []] (.b true):=by
 refine eW call187 func187 ?_;exact PG
theorem Oz:aD 188 [C0, .sl []] (.tup [.sl [],E 0]):=by
 refine eW call188 func188 ?_;exact z0
theorem X9 (vs:List Bytes) (sd:Bytes) (a:Int):aD 189 [C0, .sl [], .s [],T vs sd a] (.tup [Zl,T vs sd a,E 0]):=by
 refine eW call189 func189 ?_;exact TK @I9
theorem Fv {vs:List Bytes} {a:Int} (sd:Bytes) (hg:e9 vs a=true) (hl:vs.length<1000000):aD 91 [C0, .sl [],T vs sd a] (.tup [Zl,T vs sd a,E 0]):=by
 have h:=qt vs sd a hl;rw[hg]at h;have hr:=X9 vs sd a;refine eW call91 func91 ?_;exact z7 @FA @Sq @h @Oz @hr oT oT
end Go.Proofs.Tryz
namespace Go.Proofs.Tryz
open Go Go.Dom
theorem Hm (l:List (Bool×Bytes)) (hl:l.length<4611686018427387904):aD 85 [.sl (l.map dI)] (.b (l.all cJ)):=by
 have l5:(l.map dI).length=l.length:=aB ..;refine eW call85 func85 ?_;refine pU ?_;refine af (α:=Nat) (fun i=>l.length-i) (fun i=>⟨[(0, .v (.sl (l.map dI))),(3,E' i)],[],_⟩) (fun i=>i<=l.length/\(l.drop i).all cJ=l.all cJ) 0 (fun _=>ay _) ⟨aJ _,rfl⟩ ?_ ?_
 ·exact lE
 ·rintro i ⟨hi,hf⟩ R hR;rw[<-hf]
  by_cases hlt:i<l.length
  ·have e1:=getD_map dI l kJ hlt;have hgo:=hR (i+1);rw[<-hf]at hgo;rw[aT kJ hlt,List.all_cons]at hgo⊢;obtain⟨x,hx⟩: ∃x,x=l.getD i kJ:=⟨_,rfl⟩;rw[<-hx]at e1 hgo⊢;clear hx hf hR;obtain⟨n,a⟩:=x;have hv:=iw n a;have e:cJ (n,a)=(aa a&& !(n&&a==[])):=rfl;rw[e]at hgo⊢;clear e;simp only[dI]at e1;generalize (aa a&& !(n&&a==[]))=b at*;cases b
   ·repeat' first|simp only[go_sem,seval,l5,e1]|refine cP hv ?_|refine oE ?_|apply xX<;>intro hc
    all_goals simp
   ·have hgo:=hgo ⟨oO,by simp⟩ oO
    exact gV (aN @l5 @e1) @hgo @hv
  ·obtain rfl:i=l.length:=oO;rw[cO];exact gn @l5
theorem Ho (l:List Bytes) (hl:l.length<4611686018427387904):aD 190 [.sl (l.map .s)] (.b (l.all aa)):=by
 have l5:(l.map PV.s).length=l.length:=aB ..;refine eW call190 func190 ?_;refine pU ?_;refine af (α:=Nat) (fun i=>l.length-i) (fun i=>⟨[(0, .v (.sl (l.map .s))),(3,E' i)],[],_⟩) (fun i=>i<=l.length/\(l.drop i).all aa=l.all aa) 0 (fun _=>ay _) ⟨aJ _,rfl⟩ ?_ ?_
 ·exact lE
 ·rintro i ⟨hi,hf⟩ R hR;rw[<-hf]
  by_cases hlt:i<l.length
  ·have e1:=getD_map PV.s l ([]:Bytes) hlt;have hgo:=hR (i+1);rw[<-hf]at hgo;rw[aT ([]:Bytes) hlt,List.all_cons]at hgo⊢;generalize l.getD i []=a at*;clear hf hR;have hv:=aK a;generalize aa a=b at*;cases b
   ·repeat' first|simp only[go_sem,seval,l5,e1]|refine cP hv ?_|refine oE ?_|apply xX<;>intro hc
    all_goals simp
   ·have hgo:=hgo ⟨oO,by simp⟩ oO
    exact gV (aN @l5 @e1) @hgo @hv
  ·obtain rfl:i=l.length:=oO;rw[cO];exact gn @l5
end Go.Proofs.Tryz
namespace Go.Proofs.Tryz
open Go Go.Dom Go.Num
end Go.Proofs.Tryz
namespace Go.Proofs.Tryz
open Go Go.Dom Go.Num
end Go.Proofs.Tryz
namespace Go.Proofs.Tryz
open Go Go.Dom Go.Num
def UG:Bytes:=[98,97,110,107]
def K0:Key:=⟨UG,[77],[],[],[4],[[],[]],[],[]⟩
def K1:Key:=⟨UG,[77],[],[64],[4],[[23],[1]],[16],[60]⟩
abbrev La:aF:=⟨0,[.v (.s []), .v (.s [])],false,none⟩
def K2:Key:=⟨UG,[77],[],[64],[4],[[23],[1]],[64],[60]⟩
def Key.rb (k:Key):List Bytes:=k.z::k.u::k.h::k.r
def Key.l (k:Key):List Bytes:=k.m::k.o::k.s::k.rb
end Go.Proofs.Tryz
namespace Go.Proofs.Tryz
open Go Go.Dom
def aad (k:Key):List Bytes:=k.z::k.u::k.h::k.r
structure abf (k:Key):Prop where
 o:k.o=[]
 gd:iW k.m []=true
 s:Ao k.m [] k.s=true
 t: ∀x∈aad k,Ao k.m [] x=true
 r:k.r.length<=18
end Go.Proofs.Tryz
namespace Go.Proofs.Tryz
open Go Go.Dom Go.Num
variable {c sl:Bytes}

theorem EC (n:Bytes) (hn:n.length<=60):aD 57 [.s n] (.b (mn n)):=by
 refine eW call57 func57 ?_;refine pU ?_;refine af (α:=Nat) (fun i=>n.length-i) (fun i=>⟨[(0, .v (.s n)),(7, .v (.i .i64 n.length)),(8, .v (.i .i64 (i:Nat)))],[],_⟩) (fun i=>i<=n.length/\ ∀j,j<i->vn j (JP n j)=false) 0 (fun _=>ay _) ⟨aJ _,fun j hj=>oO⟩ ?_ ?_
 ·exact lE
 ·rintro i ⟨hi,ha⟩ R hR
  by_cases hlt:i<n.length
  ·have hlt':(i:Int)<n.length:=oO;have hbad:vn i (JP n i)=true->mn n=false:=by
    intro h;unfold mn;have:(List.range n.length).all (fun i=> !vn i (JP n i))=false:=by
     rw[fy];intro g;have:=bM.1 g i (dV.2 hlt);rw[h]at this;cases this
    rw[this];rfl
   have hgo:vn i (JP n i)=false-> ∀s',(AS.mk [(0, .v (.s n)),(7, .v (.i .i64 n.length)),(8, .v (.i .i64 ((i+1:Nat):Int)))] [] 1004).Le s'->R s':=by
    intro h s' hs;refine hR (i+1) ⟨oO,fun j hj=> ?_⟩ oO s' hs
    by_cases e:j=i
    ·subst e;exact h
    ·exact ha j oO
   clear hR ha;obtain⟨c,hcc⟩: ∃c,JP n i=c:=⟨_,rfl⟩;have hcd:((n.getD i 0).toNat:Int)=c:=hcc;have h0:0<=c/\c<256:=by rw[<-hcd];have:=(n.getD i 0).toNat_lt;omega
   rw[hcc]at hbad hgo;unfold vn at hbad hgo;obtain⟨b1,h1⟩: ∃b,decide (c>=97)=b:=⟨_,rfl⟩;obtain⟨b2,h2⟩: ∃b,decide (c<=122)=b:=⟨_,rfl⟩;obtain⟨b3,h3⟩: ∃b,decide (c>=65)=b:=⟨_,rfl⟩;obtain⟨b4,h4⟩: ∃b,decide (c<=90)=b:=⟨_,rfl⟩;obtain⟨b5,h5⟩: ∃b,((i:Int)==0)=b:=⟨_,rfl⟩;obtain⟨b6,h6⟩: ∃b,(c !=95)=b:=⟨_,rfl⟩;obtain⟨b7,h7⟩: ∃b,decide (c<48)=b:=⟨_,rfl⟩;obtain⟨b8,h8⟩: ∃b,decide (c>57)=b:=⟨_,rfl⟩;rw[h1,h2,h3,h4,h5,h6,h7,h8]at hbad hgo;have e1:decide ((i:Int)<(n.length:Int))=true:=aI hlt';repeat' first|simp only[go_sem,seval,hcd,h1,h2,h3,h4,h5,h6,h7,h8,e1]|refine oE ?_|apply xX<;>intro hc
   all_goals clear h1 h2 h3 h4 h5 h6 h7 h8 hcd hcc h0
   all_goals try simp only[fJ,Bool.not_eq_false']at*
   all_goals subst_vars
   all_goals first
     |(refine hgo rfl _ ?_;(refine AS.Le.of (by first|decide|omega) ?_ ?_<;>simp[dy,dx,aO,az,AV.bd,AV.bd.bdL,u8,ar,ax,aA]);done)
     |(rw[hbad rfl];done)
     |(cases b6<;>first|(simp at hc;done)|(refine hgo rfl _ ?_;(refine AS.Le.of (by first|decide|omega) ?_ ?_<;>simp[dy,dx,aO,az,AV.bd,AV.bd.bdL,u8,ar,ax,aA]);done)|(rw[hbad rfl];done)|fail)
     |fail
  ·obtain rfl:i=n.length:=oO;have e:mn n=(!(n==[])&&decide (n.length<=32)):=by
    unfold mn;have:(List.range n.length).all (fun i=> !vn i (JP n i))=true:=by
     rw[bM];intro j hj;rw[ha j (dV.1 hj)];rfl
    rw[this,cj]
   rw[e];have e2:decide ((n.length:Int)<=32)=decide (n.length<=32):=by rw[lF];omega
   clear ha hR e;exact Zi
structure CK where
 name:Bytes
 m:Bytes
 o:Bytes
 g:Bytes
 y:Bytes
 need:Int
 sh:List Bytes
def CK.pv (c:CK):PV:= .agg [.s c.name, .s c.m, .s c.o, .s c.g, .s c.y,E c.need, .sl (c.sh.map .s)]
abbrev CK0:PV:= .agg [.s [], .s [], .s [], .s [], .s [],E 0, .sl []]
theorem sX (e:Int):aD 56 [E e] (.tup [CK0, .sl [],T [] [] 0,E e]):=by
 refine eW call56 func56 ?_;exact z0
theorem EF (c:CK):aD 32 [c.pv] (.agg [.s c.o, .s [2]]):=by
 unfold CK.pv;refine eW call32 func32 ?_;exact z1 @WY
def mc (c:CK) (i:Nat):Bytes:=[99,111,117,114,116,32]++c.name++[46]++Lib.decDigits i
theorem Ig (c:CK) (hn:c.name.length<=1000) {i:Nat} (hi:i<100):aD 33 [c.pv,E i] (.s (mc c i)):=by
 have h:=H3 i oO;have hl:(Lib.decDigits i).length<=2:=by
  have: ∀i,i<100->(Lib.decDigits i).length<=2:=by decide+kernel
  exact this i hi
 unfold CK.pv mc;generalize Lib.decDigits i=d at*;refine eW call33 func33 ?_;repeat' first|simp only[go_sem,seval,bJ]|refine cP h ?_|refine oE ?_|apply xX<;>intro hc
 all_goals rfl
theorem Ih (t b:Bytes):aD 77 [.s t, .s b] (da.pv ⟨0,t,[AQ b 0]⟩):=by
 unfold da.pv;refine eW call77 func77 ?_;exact z1 @T7
def eB (c:CK) (i:Nat) (a d:Bytes):cG:=⟨[(c.m,c.o)],[[]],[⟨0,c.sh.getD (i-1) [],[AQ c.g 0]⟩,⟨0,d,[AQ a 0]⟩]⟩
theorem Io (c:CK) {i:Nat} (h1:1<=i) (hi:i<=c.sh.length) (hl:c.sh.length<1000000) (a d:Bytes):aD 34 [c.pv,E i, .s a, .s d] (eB c i a d).pv:=by
 obtain⟨j,rfl⟩: ∃j,i=j+1:=⟨i-1,oO⟩;have e1:=dM (l:=c.sh) (x:=j) oO;have hw: ∀ _:True,IntKind.i64.wrap (((j+1:Nat):Int)-1)=(j:Int):=fun _=>by rw[IntWalk.i64_in _ oO];omega
 have l1:(c.sh.map PV.s).length=c.sh.length:=aB ..;unfold eB CK.pv cG.pv;rw[jw];have c1:=Ih (c.sh.getD j []) c.g;have c2:=Ih d a;generalize c.sh.getD j []=t at*;simp only[da.pv,br,bK,eF.pv,AQ]at c1 c2⊢;refine eW call34 func34 ?_;exact AN (aN (hw oT) (aN @l1 @e1)) @c1 @c2
def pR (c:CK) (i:Int) (xs:List Bytes):Int:=if i<1\/i>c.sh.length then 2 else if !(xs.all (jn c.m c.o))then 13 else 0
theorem CH (c:CK) (lm:c.m.length<=8) (lo:c.o.length<=8) (hl:c.sh.length<1000000) (i:Int) {xs:List Bytes} (hx:xs.length<1000000):aD 27 [c.pv,E i, .sl (xs.map .s)] (E (pR c i xs)):=by
 have l1:(c.sh.map PV.s).length=c.sh.length:=aB ..;have l2:(xs.map PV.s).length=xs.length:=aB ..;obtain⟨name,m,o,g,y,need,sh⟩:=c;unfold pR CK.pv;simp only at*
 by_cases h:i<1\/i>(sh.length:Int)
 ·rw[ah h]
  by_cases h1:i<1
  ·refine eW call27 func27 ?_;exact gn @l1
  ·have h2:i>(sh.length:Int):=oO;refine eW call27 func27 ?_;exact gn @l1
 rw[ae h];have h1: ¬i<1:=fun g=>h (.inl g)
 have h2: ¬i>(sh.length:Int):=fun g=>h (.inr g)
 refine eW call27 func27 ?_;refine cU @l1 ?_;refine af (α:=Nat) (fun i=>xs.length-i) (fun i=>⟨[(3, .p 1000 0 0),(18, .v (.sl (xs.map .s))),(19,E' xs.length),(20,E' i)],[(1000,⟨0,[.v (.s name), .v (.s m), .v (.s o), .v (.s g), .v (.s y), .v (E need), .v (.sl (sh.map .s))],false,none⟩)],_⟩) (fun i=>i<=xs.length/\(xs.drop i).all (jn m o)=xs.all (jn m o)) 0 (fun _=>ay _) ⟨aJ _,rfl⟩ ?_ ?_
 ·exact lE
 ·rintro k ⟨hi,hf⟩ R hR;rw[<-hf]
  by_cases hlt:k<xs.length
  ·have e1:=dM hlt;have hgo:=hR (k+1);rw[<-hf]at hgo;rw[aT [] hlt,List.all_cons]at hgo⊢;generalize xs.getD k []=x at*;have hv:=zq lm lo x;clear hR hf;generalize jn m o x=b at*;cases b
   ·repeat' first|simp only[go_sem,seval,l2,e1]|refine cP hv ?_|refine oE ?_|apply xX<;>intro hc
    all_goals simp
   ·have hgo:=hgo ⟨oO,by simp⟩ oO
    exact gV (aN @l2 @e1) @hgo @hv
  ·obtain rfl:k=xs.length:=oO;rw[cO];exact gn @l2
theorem CJ {n:Nat} (h:n<(2^64)):aD 100 [E n] (N n):=by
 have h1:=lJ n h;have hw: ∀ _:True,IntKind.u64.wrap (n:Int)=n:=fun _=>IntWalk.u64_in _ oO
 refine eW call100 func100 ?_;exact mi (hw oT) @h1
def yJ (n:Nat):PV:=E n
abbrev GC (m o g y:Bytes) (pts:List Nat):List PV:=[.pt (.agg [.sl (pts.map dr)]) 0, .pt (.agg [.fn (.func 100)]) 0, .pt (.agg [.s m, .s o, .s g, .s y]) 0]
theorem Mr (m o g y:Bytes) {pts:List Nat} (h0:pts≠[]) (hl:pts.length<1000000) (hb: ∀a∈pts,a<(2^64)):aD 49 [.agg [.s m, .s o, .s g, .s y], .sl (pts.map yJ)] (.fc 101 [] (GC m o g y pts)):=by
 have hpos:0<pts.length:=kq.2 h0;have hc:=fun i (hi:i<pts.length)=>CJ (hb _ (aq 0 hi))
 have hE:=fun i (hi:i<pts.length)=>getD_map yJ pts 0 hi
 obtain⟨n,hn⟩: ∃n,n=pts.length:=⟨_,rfl⟩;have lP:pts.length=n:=hn.symm;refine eW call49 func49 ?_;refine cU @lP ?_;refine ai ?_;have e1:=hE 0 hpos;have c1:=hc 0 hpos;have t1:pts.take 1=[pts.getD 0 0]:=by rw[eY 0 hpos];simp
 simp only[yJ]at e1;generalize pts.getD 0 0=x at*;refine nc (aN @lP @e1) @c1 ?_;refine af (α:=Nat) (fun j=>n-(j+1)) (fun j=>⟨[(2, .p 1000 0 0),(5, .p 1002 0 0),(6, .p 1004 0 0),(9, .v (.sl (pts.map yJ))),(10,E' n),(11,E' (j+1))],[(1000,⟨0,[.v (.s m), .v (.s o), .v (.s g), .v (.s y)],false,none⟩),(1002,⟨0,[.v (.fn (.func 100))],false,some 182⟩),(1004,⟨0,[.rs 1017 j 0 (j+1) 1],false,some 27⟩),(1017,⟨j,aE (pts.take (j+1)),true,some 22⟩)],1021⟩) (fun j=>j+1<=n) 0 (fun _=>bZ rfl) oO ?_ ?_
 ·simp only[dq,t1,show aE [x]=[AV.v (N x)]from rfl]
  exact lE
 ·intro j hj R hR;have hlm:(pts.take (j+1)).length=j+1:=by rw[bV];omega
  have g1:=db hlm;have g2:(aE (pts.take (j+1))).length=j+1:=by rw[bw,hlm]
  by_cases hlt:j+1<n
  ·have hgo:=hR (j+1) oO oO;have e2:=hE (j+1) oO;have c2:=hc (j+1) oO;rw[eY 0 (show j+1<pts.length by omega),lV]at hgo
   simp only[yJ]at e2;generalize pts.getD (j+1) 0=z at*;clear hR hE hc e1 c1;refine kz (aN @lP (aN @e2 (aN @g1 @g2))) @c2 ?_;refine hgo _ ?_;refine lG ?_;all_goals exact fun c hc=>hc.elim (fun h=>dZ h) (fun h=>by rw[h];rfl)
  ·obtain rfl:j+1=n:=oO;have hT:pts.take (j+1)=pts:=cb oO;rw[hT]at g1 g2⊢;have g3:=eX pts;have g4:=dJ (l:=pts) lP;clear hR hE hc e1 c1;exact gn (aN @lP (aN @g1 (aN @g2 (aN @g3 (aN @g4 @dC)))))
def uv (n i:Nat):List Nat:=(List.replicate n 0).set i 1
noncomputable def oF (q:Nat) (pts:List Nat) (x i:Nat):Nat:=GQ q pts (uv pts.length i) x
noncomputable def tB (q:Nat) (pts:List Nat) (x k:Nat):List (Bool×Bytes):=(List.range k).map fun i=>(false,aX (oF q pts x i))
noncomputable def Lz (m q:Nat) (pts nh:List Nat) (x:Nat):Nat:=B5 m (nh.zip (tB q pts x pts.length))
theorem IJ {q:Nat} (h0:0<q) (pts:List Nat) (x i:Nat):oF q pts x i<q:=by
 unfold oF GQ;have:=zw (q:=(q:Int)) oO x (nI (sD q pts (uv pts.length i)));omega
theorem Ie {m o:Bytes} (lm:m.length<=8) (lo:o.length<=8) (hE:gE m o=0) (ho:o≠[]) (hp:fj (num o)=true) (g y:Bytes) {pts nh:List Nat} (h0:pts≠[]) (hl:nh.length=pts.length) (hd:pts.Nodup) (hb: ∀a∈pts,a<=8/\a<num o) (h256:pts.length<=256) (he: ∀x∈nh,GP m o x) {x:Nat} (hx:x<num o):
  aD 101 (.sl (nh.map dr)::E x::GC m o g y pts) (N (Lz (num m) (num o) pts nh x)):=by
 obtain⟨vm,vo,m1,-,hoq⟩:=jm hE;have hq:=eP lo;have h2:=zE hp;have hg:=fun i (hi:i<pts.length)=>Jj hp hd hb hi
 obtain⟨q,hqq⟩: ∃q,q=num o:=⟨_,rfl⟩;have eo:(PV.s o)=N q:=by rw[hqq,eE vo]
 rw[<-hqq]at hp hb hx hq h2 hg⊢;have hpos:0<pts.length:=kq.2 h0;have huv: ∀i,∀a∈uv pts.length i,a<q:=fun i a ha=>by
  unfold uv at ha;rcases List.mem_or_eq_of_mem_set ha with h|h
  ·have:=(Eb.1 h).2;omega
  ·omega
 have hI:=fun i=>HG hq hp (xs:=pts) (ys:=uv pts.length i) (x:=x) (by simp[uv]) h256 (fun a h=>(hb a h).2) (huv i) hx hd hg
 have hlt:=fun i=>IJ (q:=q) oO pts x i
 have hF:=fun i=>oU (a:=aX (oF q pts x i)) (vN (by have:=hlt i;omega))
 have hP:=CX lm lo hE (xs:=nh) (es:=tB q pts x pts.length) he (fun e h=>by
  obtain⟨i,-,rfl⟩:=bG.1 h;unfold cJ;simp[vN (show oF q pts x i<(2^64) by have:=hlt i;omega)]) (by simp[tB,hl]) oO
 have hc1:=CJ (n:=1) oC;have hcx:=CJ (n:=x) oO;have hsn: ∀k,tB q pts x (k+1)=tB q pts x k++[(false,aX (oF q pts x k))]:=fun k=>by
  unfold tB;rw[rj,jh];rfl
 have hel: ∀k,(tB q pts x k).length=k:=fun k=>by simp[tB]
 have he0:tB q pts x 0=[]:=rfl;unfold Lz;obtain⟨n,hn⟩: ∃n,n=pts.length:=⟨_,rfl⟩;have lP:pts.length=n:=hn.symm;simp only[lP]at hI hP⊢;have hI: ∀i,aD 102 [N q, .sl (pts.map dr), .sl ((uv n i).map dr),N x] (.tup [N (oF q pts x i),E 0]):=fun i=>by unfold oF;rw[lP];exact hI i
 simp only[G,GC]at hP⊢;rw[eo]at hP⊢;generalize tB q pts x=L at*;generalize oF q pts x=la at*;clear hg hlt huv he hd hb hE;have u0:(aE (List.replicate n 0)).length=n:=by rw[bw];simp
 have u1: ∀i,i<n->List.take i (aE (List.replicate n 0))++[AV.v (N 1)]++List.drop (i+1) (aE (List.replicate n 0))=aE (uv n i):=fun i hi=>ec (x:=1) (by simpa using hi)
 have u2:AV.v (N 1)::List.drop 1 (aE (List.replicate n 0))=aE (uv n 0):=u1 0 oO;have ul: ∀i,(uv n i).length=n:=fun i=>by simp[uv]
 have x1:=fun i=>db (ul i)
 have x2:=fun i=>eX (uv n i)
 have x3:=fun i=>dJ (ul i)
 have x4: ∀i,(aE (uv n i)).length=n:=fun i=>by rw[bw,ul]
 have r1: ∀k,bj dI (L (k+1))=bj dI (L k)++[.v (.b false), .v (N (la k))]:=fun k=>by rw[hsn,cf];rfl
 refine eW call101 func101 ?_;refine cU @lP ?_;refine af (α:=Nat) (fun j=>n-j) (fun j=>match j with|0=>⟨[(0, .v (.sl (nh.map dr))),(1, .v (E x)),(2, .v (.pt (.agg [.sl (pts.map dr)]) 0)),(3, .v (.pt (.agg [.fn (.func 100)]) 0)),(4, .v (.pt (.agg [.s m,N q, .s g, .s y]) 0)),(15, .v (.sl (pts.map dr))),(16,E' n),(8, .sn),(17, .v (.i .i64 0))],[],1005⟩|j+1=>⟨[(0, .v (.sl (nh.map dr))),(1, .v (E x)),(2, .v (.pt (.agg [.sl (pts.map dr)]) 0)),(3, .v (.pt (.agg [.fn (.func 100)]) 0)),(4, .v (.pt (.agg [.s m,N q, .s g, .s y]) 0)),(15, .v (.sl (pts.map dr))),(16,E' n),(8, .rs 1036 j 0 (j+1) 2),(17,E' (j+1))],[(1036,⟨j,bj dI (L (j+1)),true,some 77⟩)],1040⟩) (fun j=>j<=n) 0 (fun j=>by cases j<;>exact bZ rfl) (aJ _) ?_ ?_
 ·show AS.Le _ _;exact lE
 ·intro j hj R hR
  cases j with
  |zero=>
   have hgo:=hR 1 oO oO;simp only[r1,he0,show bj dI []=[]from rfl,List.nil_append]at hgo
   have f0:=hF 0;have i0:=hI 0;generalize la 0=l0 at*;clear hR hF hI;repeat' first|simp only[go_sem,seval,lP,fX,u0,u2]|refine cP hc1 ?_|refine cP hcx ?_|(refine nk [1010] i0 rfl (by simp[aV,az,x1,x2,x3,x4,gP]) (by simp[bz,view,az,x1,x2,x3,x4,dC]) ?_)|refine cP f0 ?_|refine oE ?_|apply xX<;>intro hc
   refine hgo _ ?_;exact lE
  |succ j=>
   have q1:=cz n8 (L (j+1));have q2:=cM n8 (L (j+1));rw[hel]at q1 q2
   by_cases hlt:j+1<n
   ·have hgo:=hR (j+2) oO oO;simp only[r1 (j+1)]at hgo;have f0:=hF (j+1);have i0:=hI (j+1);have u3:=u1 (j+1) hlt;have ht: ∀ _:True,((j:Int)+1).toNat=j+1:=fun _=>oO
    generalize la (j+1)=l0 at*;clear hR hF hI;repeat' first|simp only[go_sem,seval,lP,fX,u0,u3,q1,q2,ht oT]|refine cP hc1 ?_|refine cP hcx ?_|(refine nk [1045] i0 rfl (by simp[aV,az,x1,x2,x3,x4,gP]) (by simp[bz,view,az,x1,x2,x3,x4,dC]) ?_)|refine cP f0 ?_|refine oE ?_|apply xX<;>intro hc
    refine hgo _ ?_;refine lG ?_;all_goals exact fun c hc=>by rcases hc with hc|rfl|rfl<;>first|exact cR hc|rfl
   ·obtain rfl:j+1=n:=oO;have q3:=ff n8 (L (j+1));have q4:=dD n8 (L (j+1));rw[hel]at q4;clear hR hF hI;repeat' first|simp only[go_sem,seval,lP,q1,q2]|(refine nk [1036] hP rfl (by simp[aV,az,q1,q2,q3,q4,Au]) (by simp[bz,view,az,q1,q2,q3,q4,fk]) ?_)|refine oE ?_|apply xX<;>intro hc
    all_goals rfl
theorem B7 {M:Nat}: ∀(l:List (Nat×(Bool×Bytes))) (x:Nat),x<M->iY M x l=x*B5 M l%M
 |[],x,h=>by rw[Dg,jj,dN,bY h];rfl
 |(a,e)::r,x,h=>by
  rw[iY,B7 r _ (aL _ oO),tR,jz,jj,cF]
theorem OG {m:Bytes} (lm:m.length<=8) {o:Bytes} (lo:o.length<=8) (hE:gE m o=0) {ts:List eF} {w:List Int} (hn:ts.length<1000000) (hg: ∀t∈ts,iV m o t.base=true) (hw:WB ts w):aD 53 [G m o, .sl (ts.map fun t=> .s t.base), .sl (ts.map fun t=>Zp (tz w t))] (.tup [N (B5 (num m) (ts.map fun t=>(num t.base,gW (tz w t)))),E 0]):=by
 have h:=Bn lm lo hE (ts.map fun t=>(num t.base,gW (tz w t))) (by simpa using hn) (fun p hp=>by
  obtain⟨t,ht,rfl⟩:=bG.1 hp;obtain⟨-,-,-,h4,h5⟩:=hw t ht;have hz:=o8 (z:=tz w t) (by rw[tz,jg];exact h5)
  simp only[gW,cJ,aZ,fJ]at hz;exact⟨((cH hE).1 (hg t ht)).2,hz.1,hz.2⟩)
 have m1:=(jm hE).2.2.1;rw[B7 _ _ m1,kW,show B5 (num m) (ts.map fun t=>(num t.base,gW (tz w t)))%num m=B5 (num m) (ts.map fun t=>(num t.base,gW (tz w t)))from ep _ _,iB,iB]at h
 rw[show(ts.map fun t=>PV.s t.base)=ts.map ((fun p:Nat×Bool×Bytes=>N p.1)∘fun t=>(num t.base,gW (tz w t)))from lD fun t ht=>(eE (kM hE (hg t ht))).symm]
 exact h
theorem LB {P:Program} [cu P] {Q:AX->AS->Prop} {nx:Nat} {bf:Option (List Nat)} {nn:Nat} {d:Option Nat} {ops:List kA} {k:Nat} {s:AS} {tr:List (Nat×List Nat×List Nat)} {K:List Fr} {nm:Nat} {f:FuncId} {α β:Type} {g:α->PV} {g':β->PV} {z n ver m z' n' ver' m':Nat} {l:List α} {l':List β} {gr gr':Bool} {el el':Option TypeId} {x r:PV}
  (he:ry P f [x, .sl (l.map g), .sl (l'.map g')] r) (hrow:dY g z) (hrow':dY g' z') (hr:r.flat=true) (hg:az s.h n=some ⟨ver,bj g l,gr,el⟩) (hg':az s.h n'=some ⟨ver',bj g' l',gr',el'⟩) (hm:m=l.length) (hm':m'=l'.length) (hK:RW P Q nx bf nn ops (k+1) (s.uh d (.v r) []) (AT bf k [n,n'] [] tr) K):
  CR P Q nx bf nn nm (.v (.fn (.func f))) [.v x, .rs n ver 0 m z, .rs n' ver' 0 m' z'] d ops k s tr K:=by
 refine qF he ?_ hr ?_
 ·simp[bz,oQ hrow hm hg,oQ hrow' hm' hg'];rfl
 ·have:[AV.v x,AV.rs n ver 0 m z,AV.rs n' ver' 0 m' z'].flatMap (aV (az s.h) 9)=[n,n']:=by simp[m9 hrow hm hg,m9 hrow' hm' hg'];rfl
  rw[this];exact hK
theorem FG {s:cG} (hs:xf s) (hnt: ∀q∈s.eqs,q.terms≠[]) {w:List Int} (hw:WS s w):aD 182 [s.pv, .sl (w.map Zp)] (.tup [.sl ((pQ s w).map .s),E 0]):=by
 obtain⟨L,hLd⟩: ∃L,L=pQ s w:=⟨_,rfl⟩;have hI:=fun i (h:i<s.eqs.length)=>(show L.getD i []=aX (PE s.groups w (s.eqs.getD i gF)) by rw[hLd,pQ];simp[bu,h])
 have hL:L.length=s.eqs.length:=by rw[hLd,qK]
 rw[<-hLd];clear hLd;unfold WS at hw;obtain⟨gs,vs,es⟩:=s;obtain⟨-,hg,hv,hq,ng,nv,ne,-⟩:=hs;simp only at hg hv hq ng nv ne hw hI hL hnt;have l1:(gs.map eu).length=gs.length:=aB ..;have l3:(es.map da.pv).length=es.length:=aB ..;have l5:(w.map Zp).length=w.length:=aB ..;unfold cG.pv;simp only
 by_cases h0:es=[]
 ·subst h0;obtain rfl:L=[]:=gS.1 hL;simp only[bK];refine eW call182 func182 ?_;exact PG
 have hpos:0<es.length:=kq.2 h0;have hB:=TE;have hZ:=TH w;refine eW call182 func182 ?_;refine cU @l3 ?_;refine ai ?_;have e1:=getD_map da.pv es gF hpos;obtain⟨q1,q2,q3,q4,q5⟩:=hq _ (aq gF hpos);have kw:=hw _ (aq gF hpos);have kn:=hnt _ (aq gF hpos);have r1:=Dp (l:=L) (i:=0) (by rw[hL];exact hpos)
 have r2:=hI 0 hpos;obtain⟨x,hx⟩: ∃x,x=es.getD 0 gF:=⟨_,rfl⟩;rw[<-hx]at e1 q1 q2 q3 q4 q5 kw kn r2;clear hx;obtain⟨gr,tg,ts⟩:=x;simp only at q1 q2 q3 q4 q5 kw kn;have hgl:gr.toNat<gs.length:=oO;have kg:=hg _ (aq fC hgl);have e3:=getD_map eu gs fC hgl;simp only[PE]at r2;obtain⟨z,hz⟩: ∃z,z=gs.getD gr.toNat fC:=⟨_,rfl⟩;rw[<-hz]at q5 kg e3 r2;clear hz q3;obtain⟨m,o⟩:=z;simp only at q5 kg r2;have xe:=OG kg.2.1 kg.2.2 kg.1 (ts:=ts) (w:=w) oO (fun t ht=>(q5 t ht).2.2.1) kw
 have xe:aD 53 [G m o, .sl (ts.map fun t=> .s t.base), .sl (ts.map fun t=>Zp (tz w t))] (.tup [.s (L.getD 0 []),E 0]):=by rw[r2];exact xe
 clear r2 kg q5;simp only[eu]at e3;simp only[da.pv]at e1;have tpos:0<ts.length:=kq.2 kn;have l4:(ts.map eF.pv).length=ts.length:=aB ..;refine cU (aN @l1 (aN @l3 @e1)) ?_;refine ai ?_;have f1:=getD_map eF.pv ts eR tpos;obtain⟨t1,t2,t3,t4,t5⟩:=kw _ (aq eR tpos);have g1:bj (fun t:eF=>PV.s t.base) (ts.take (0+1))=bj (fun t:eF=>PV.s t.base) (ts.take 0)++[.v (.s (ts.getD 0 eR).base)]:=by rw[aQ eR tpos,cf];rfl
 have g2:bj (fun t=>Zp (tz w t)) (ts.take (0+1))=bj (fun t=>Zp (tz w t)) (ts.take 0)++[.v (.b (zs (tz w (ts.getD 0 eR)))), .v (.s (zb (tz w (ts.getD 0 eR))))]:=by rw[aQ eR tpos,cf];rfl
 have htz:tz w (ts.getD 0 eR)=xb ((ts.getD 0 eR).neg,(ts.getD 0 eR).abs)*w.getD (ts.getD 0 eR).var.toNat 0:=rfl;obtain⟨y,hy⟩: ∃y,y=ts.getD 0 eR:=⟨_,rfl⟩;rw[<-hy]at f1 t1 t2 t3 t4 t5 g1 g2 htz;clear hy;obtain⟨b,v,n,a⟩:=y;simp only at t1 t2 t3 t4 t5 g1 htz;have hx:=Aq (x:=xb (n,a)) (y:=w.getD v.toNat 0) (by rw[pJ];simp only[cJ,aZ]at t3;exact mV t3.1) t4 t5
 have f2:=getD_map Zp w 0 (i:=v.toNat) oO;have ez:Z (xb (n,a))= .agg [.b n, .s a]:=congrArg dI (qL t3);rw[ez,<-htz]at hx;clear t3 t4 t5 ez htz;generalize tz w ⟨b,v,n,a⟩=z at*;generalize w.getD v.toNat 0=wv at*;simp only[eF.pv]at f1;simp only[Zp,dI,gW]at f2;refine nc (aN @l4 (aN @l5 (aN @f1 @f2))) @hx ?_;refine af (α:=Nat) (fun j=>ts.length-(j+1)) (fun j=>⟨[(1, .v (.sl (w.map Zp))),(2, .p 1000 0 0),(6, .sn),(7,E' 0),(8, .p 1015 0 0),(9, .rs 1057 j 0 (j+1) 1),(10, .rs 1062 j 0 (j+1) 2),(11,E' (j+1))],[(1000,⟨0,[.v (.sl (gs.map eu)), .v (.sl (vs.map cl)), .v (.sl (es.map da.pv))],false,none⟩),(1015,⟨0,[.v (.i .i64 gr), .v (.s tg), .v (.sl (ts.map eF.pv))],false,some 154⟩),(1057,⟨j,bj (fun t:eF=>PV.s t.base) (ts.take (j+1)),true,some 22⟩),(1062,⟨j,bj (fun t=>Zp (tz w t)) (ts.take (j+1)),true,some 77⟩)],1067⟩) (fun j=>j+1<=ts.length) 0 (fun _=>bZ rfl) tpos ?_ ?_
 ·rw[dq,g1,g2,List.take_zero,show bj (fun t:eF=>PV.s t.base) []=[]from rfl,show bj (fun t=>Zp (tz w t)) []=[]from rfl]
  (refine AS.Le.of (by first|decide|omega) ?_ ?_<;>simp[dy,dx,aO,az,AV.bd,AV.bd.bdL,u8,ar,ax,aA])
  skip
 ·clear f1 f2 hx g1 g2 t1 t2;intro j hj R' hR';have hj1:(ts.take (j+1)).length=j+1:=by rw[bV];omega
  have b1:=cz hB (ts.take (j+1));have b2:=cM hB (ts.take (j+1));have b5:=cz hZ (ts.take (j+1));have b6:=cM hZ (ts.take (j+1));rw[hj1]at b1 b2 b5 b6;rw[dN]at b1 b2
  by_cases hjt:j+1<ts.length
  ·have hgo':=hR' (j+1) oO oO;clear hR';have f1:=getD_map eF.pv ts eR hjt;obtain⟨t1,t2,t3,t4,t5⟩:=kw _ (aq eR hjt);have g1:bj (fun t:eF=>PV.s t.base) (ts.take ((j+1)+1))=bj (fun t:eF=>PV.s t.base) (ts.take (j+1))++[.v (.s (ts.getD (j+1) eR).base)]:=by rw[aQ eR hjt,cf];rfl
   have g2:bj (fun t=>Zp (tz w t)) (ts.take ((j+1)+1))=bj (fun t=>Zp (tz w t)) (ts.take (j+1))++[.v (.b (zs (tz w (ts.getD (j+1) eR)))), .v (.s (zb (tz w (ts.getD (j+1) eR))))]:=by rw[aQ eR hjt,cf];rfl
   have htz:tz w (ts.getD (j+1) eR)=xb ((ts.getD (j+1) eR).neg,(ts.getD (j+1) eR).abs)*w.getD (ts.getD (j+1) eR).var.toNat 0:=rfl;obtain⟨y,hy⟩: ∃y,y=ts.getD (j+1) eR:=⟨_,rfl⟩;rw[<-hy]at f1 t1 t2 t3 t4 t5 g1 g2 htz;clear hy;obtain⟨b,v,n,a⟩:=y;simp only at t1 t2 t3 t4 t5 g1 htz;have hx:=Aq (x:=xb (n,a)) (y:=w.getD v.toNat 0) (by rw[pJ];simp only[cJ,aZ]at t3;exact mV t3.1) t4 t5
   have f2:=getD_map Zp w 0 (i:=v.toNat) oO;have ez:Z (xb (n,a))= .agg [.b n, .s a]:=congrArg dI (qL t3);rw[ez,<-htz]at hx;clear t3 t4 t5 ez htz;generalize tz w ⟨b,v,n,a⟩=z at*;generalize w.getD v.toNat 0=wv at*;simp only[eF.pv]at f1;simp only[Zp,dI,gW]at f2;rw[g1,g2]at hgo';refine kz (aN @l4 (aN @l5 (aN @f1 (aN @f2 (aN @b1 (aN @b2 (aN @b5 @b6))))))) @hx ?_;refine hgo' _ ?_
   (refine AS.Le.of (by first|decide|omega) ?_ ?_<;>simp[dy,dx,aO,az,AV.bd,AV.bd.bdL,u8,ar,ax,aA])
   all_goals ((repeat' apply And.intro)<;>(intro c hc;first|exact cR hc|(rcases hc with h|h<;>first|exact cR h|(rcases h with rfl|rfl<;>rfl)|(subst h;rfl))))
  ·obtain hjv:j+1=ts.length:=oO;clear hR';rw[hjv,ct]at b1 b2 b5 b6;rw[hjv,ct];repeat' first|simp only[go_sem,seval,l1,l3,l4,e1,e3]|(refine LB (l:=ts) (g:=fun t:eF=>PV.s t.base) (l':=ts) (g':=fun t=>Zp (tz w t)) (gr:=true) (gr':=true) (el:=some 22) (el':=some 77) xe hB hZ rfl (by simp[az]) (by simp[az]) rfl rfl ?_)|refine oE ?_|apply xX<;>intro hc
   have hM:dY PV.s 1:=dY.s;refine af (α:=Nat) (fun j=>es.length-(j+1)) (fun j=>⟨[(1, .v (.sl (w.map Zp))),(2, .p 1000 0 0),(6, .rs 1089 j 0 (j+1) 1),(7,E' (j+1))],[(1000,⟨0,[.v (.sl (gs.map eu)), .v (.sl (vs.map cl)), .v (.sl (es.map da.pv))],false,none⟩),(1089,⟨j,bj PV.s (L.take (j+1)),true,some 22⟩)],1094⟩) (fun j=>j+1<=es.length) 0 (fun _=>bZ rfl) hpos ?_ ?_
   ·rw[dq,r1,List.take_zero,show bj PV.s ([]:List Bytes)=[]from rfl]
    exact lE
   ·clear e1 e3 q1 q2 q4 xe r1 b1 b2 b5 b6 hjv l4 tpos kn kw;intro i hi R hR;have hj1:(L.take (i+1)).length=i+1:=by rw[bV];omega
    have p1:=cz hM (L.take (i+1));have p2:=cM hM (L.take (i+1));rw[hj1,dN]at p1 p2
    by_cases hlt:i+1<es.length
    ·have hgo:=hR (i+1) oO oO;clear hR;have e1:=getD_map da.pv es gF hlt;obtain⟨q1,q2,q3,q4,q5⟩:=hq _ (aq gF hlt);have kw:=hw _ (aq gF hlt);have kn:=hnt _ (aq gF hlt);have r1:=Dp (l:=L) (i:=(i+1)) (by rw[hL];exact hlt)
     have r2:=hI (i+1) hlt;obtain⟨x,hx⟩: ∃x,x=es.getD (i+1) gF:=⟨_,rfl⟩;rw[<-hx]at e1 q1 q2 q3 q4 q5 kw kn r2;clear hx;obtain⟨gr,tg,ts⟩:=x;simp only at q1 q2 q3 q4 q5 kw kn;have hgl:gr.toNat<gs.length:=oO;have kg:=hg _ (aq fC hgl);have e3:=getD_map eu gs fC hgl;simp only[PE]at r2;obtain⟨z,hz⟩: ∃z,z=gs.getD gr.toNat fC:=⟨_,rfl⟩;rw[<-hz]at q5 kg e3 r2;clear hz q3;obtain⟨m,o⟩:=z;simp only at q5 kg r2;have xe:=OG kg.2.1 kg.2.2 kg.1 (ts:=ts) (w:=w) oO (fun t ht=>(q5 t ht).2.2.1) kw
     have xe:aD 53 [G m o, .sl (ts.map fun t=> .s t.base), .sl (ts.map fun t=>Zp (tz w t))] (.tup [.s (L.getD (i+1) []),E 0]):=by rw[r2];exact xe
     clear r2 kg q5;simp only[eu]at e3;simp only[da.pv]at e1;rw[r1]at hgo;have tpos:0<ts.length:=kq.2 kn;have l4:(ts.map eF.pv).length=ts.length:=aB ..;refine cU (aN @l1 (aN @l3 @e1)) ?_;refine ai ?_;have f1:=getD_map eF.pv ts eR tpos;obtain⟨t1,t2,t3,t4,t5⟩:=kw _ (aq eR tpos);have g1:bj (fun t:eF=>PV.s t.base) (ts.take (0+1))=bj (fun t:eF=>PV.s t.base) (ts.take 0)++[.v (.s (ts.getD 0 eR).base)]:=by rw[aQ eR tpos,cf];rfl
     have g2:bj (fun t=>Zp (tz w t)) (ts.take (0+1))=bj (fun t=>Zp (tz w t)) (ts.take 0)++[.v (.b (zs (tz w (ts.getD 0 eR)))), .v (.s (zb (tz w (ts.getD 0 eR))))]:=by rw[aQ eR tpos,cf];rfl
     have htz:tz w (ts.getD 0 eR)=xb ((ts.getD 0 eR).neg,(ts.getD 0 eR).abs)*w.getD (ts.getD 0 eR).var.toNat 0:=rfl;obtain⟨y,hy⟩: ∃y,y=ts.getD 0 eR:=⟨_,rfl⟩;rw[<-hy]at f1 t1 t2 t3 t4 t5 g1 g2 htz;clear hy;obtain⟨b,v,n,a⟩:=y;simp only at t1 t2 t3 t4 t5 g1 htz;have hx:=Aq (x:=xb (n,a)) (y:=w.getD v.toNat 0) (by rw[pJ];simp only[cJ,aZ]at t3;exact mV t3.1) t4 t5
     have f2:=getD_map Zp w 0 (i:=v.toNat) oO;have ez:Z (xb (n,a))= .agg [.b n, .s a]:=congrArg dI (qL t3);rw[ez,<-htz]at hx;clear t3 t4 t5 ez htz;generalize tz w ⟨b,v,n,a⟩=z at*;generalize w.getD v.toNat 0=wv at*;simp only[eF.pv]at f1;simp only[Zp,dI,gW]at f2;refine nc (aN @l4 (aN @l5 (aN @f1 @f2))) @hx ?_;refine af (α:=Nat) (fun j=>ts.length-(j+1)) (fun j=>⟨[(1, .v (.sl (w.map Zp))),(2, .p 1000 0 0),(6, .rs 1089 i 0 (i+1) 1),(7,E' (i+1)),(8, .p 1104 0 0),(9, .rs 1146 j 0 (j+1) 1),(10, .rs 1151 j 0 (j+1) 2),(11,E' (j+1))],[(1000,⟨0,[.v (.sl (gs.map eu)), .v (.sl (vs.map cl)), .v (.sl (es.map da.pv))],false,none⟩),(1104,⟨0,[.v (.i .i64 gr), .v (.s tg), .v (.sl (ts.map eF.pv))],false,some 154⟩),(1146,⟨j,bj (fun t:eF=>PV.s t.base) (ts.take (j+1)),true,some 22⟩),(1151,⟨j,bj (fun t=>Zp (tz w t)) (ts.take (j+1)),true,some 77⟩),(1089,⟨i,bj PV.s (L.take (i+1)),true,some 22⟩)],1156⟩) (fun j=>j+1<=ts.length) 0 (fun _=>bZ rfl) tpos ?_ ?_
     ·rw[dq,g1,g2,List.take_zero,show bj (fun t:eF=>PV.s t.base) []=[]from rfl,show bj (fun t=>Zp (tz w t)) []=[]from rfl]
      (refine AS.Le.of (by first|decide|omega) ?_ ?_<;>simp[dy,dx,aO,az,AV.bd,AV.bd.bdL,u8,ar,ax,aA])
      all_goals (intro c hc;exact cR hc)
     ·clear f1 f2 hx g1 g2 t1 t2;intro j hj R' hR';have hj1:(ts.take (j+1)).length=j+1:=by rw[bV];omega
      have b1:=cz hB (ts.take (j+1));have b2:=cM hB (ts.take (j+1));have b5:=cz hZ (ts.take (j+1));have b6:=cM hZ (ts.take (j+1));rw[hj1]at b1 b2 b5 b6;rw[dN]at b1 b2
      by_cases hjt:j+1<ts.length
      ·have hgo':=hR' (j+1) oO oO;clear hR';have f1:=getD_map eF.pv ts eR hjt;obtain⟨t1,t2,t3,t4,t5⟩:=kw _ (aq eR hjt);have g1:bj (fun t:eF=>PV.s t.base) (ts.take ((j+1)+1))=bj (fun t:eF=>PV.s t.base) (ts.take (j+1))++[.v (.s (ts.getD (j+1) eR).base)]:=by rw[aQ eR hjt,cf];rfl
       have g2:bj (fun t=>Zp (tz w t)) (ts.take ((j+1)+1))=bj (fun t=>Zp (tz w t)) (ts.take (j+1))++[.v (.b (zs (tz w (ts.getD (j+1) eR)))), .v (.s (zb (tz w (ts.getD (j+1) eR))))]:=by rw[aQ eR hjt,cf];rfl
       have htz:tz w (ts.getD (j+1) eR)=xb ((ts.getD (j+1) eR).neg,(ts.getD (j+1) eR).abs)*w.getD (ts.getD (j+1) eR).var.toNat 0:=rfl;obtain⟨y,hy⟩: ∃y,y=ts.getD (j+1) eR:=⟨_,rfl⟩;rw[<-hy]at f1 t1 t2 t3 t4 t5 g1 g2 htz;clear hy;obtain⟨b,v,n,a⟩:=y;simp only at t1 t2 t3 t4 t5 g1 htz;have hx:=Aq (x:=xb (n,a)) (y:=w.getD v.toNat 0) (by rw[pJ];simp only[cJ,aZ]at t3;exact mV t3.1) t4 t5
       have f2:=getD_map Zp w 0 (i:=v.toNat) oO;have ez:Z (xb (n,a))= .agg [.b n, .s a]:=congrArg dI (qL t3);rw[ez,<-htz]at hx;clear t3 t4 t5 ez htz;generalize tz w ⟨b,v,n,a⟩=z at*;generalize w.getD v.toNat 0=wv at*;simp only[eF.pv]at f1;simp only[Zp,dI,gW]at f2;rw[g1,g2]at hgo';refine kz (aN @l4 (aN @l5 (aN @f1 (aN @f2 (aN @b1 (aN @b2 (aN @b5 @b6))))))) @hx ?_;refine hgo' _ ?_
       (refine AS.Le.of (by first|decide|omega) ?_ ?_<;>simp[dy,dx,aO,az,AV.bd,AV.bd.bdL,u8,ar,ax,aA])
       all_goals ((repeat' apply And.intro)<;>(intro c hc;first|exact cR hc|(rcases hc with h|h<;>first|exact cR h|(rcases h with rfl|rfl<;>rfl)|(subst h;rfl))))
      ·obtain hjv:j+1=ts.length:=oO;clear hR';rw[hjv,ct]at b1 b2 b5 b6;rw[hjv,ct];repeat' first|simp only[go_sem,seval,l1,l3,l4,e1,e3,p1,p2]|(refine LB (l:=ts) (g:=fun t:eF=>PV.s t.base) (l':=ts) (g':=fun t=>Zp (tz w t)) (gr:=true) (gr':=true) (el:=some 22) (el':=some 77) xe hB hZ rfl (by simp[az]) (by simp[az]) rfl rfl ?_)|refine oE ?_|apply xX<;>intro hc
       refine hgo _ ?_
       (refine AS.Le.of (by first|decide|omega) ?_ ?_<;>simp[dy,dx,aO,az,AV.bd,AV.bd.bdL,u8,ar,ax,aA])
       all_goals (intro c hc;rcases hc with h|h<;>first|exact cR h|(subst h;rfl))
    ·obtain hjv:i+1=es.length:=oO;rw[hjv]at p1 p2;have hLt:L.take es.length=L:=cb oO;rw[hLt]at p1 p2;rw[hjv,hLt];have p3:=ff hM L;have p4:=dD hM L;rw[hL]at p4;repeat' first|simp only[go_sem,seval,l3,p1,p2,p3,p4,fk]|refine oE ?_|apply xX<;>intro hc
     all_goals exact congrArg (fun l=>PV.tup [PV.sl l,E 0]) p4
theorem Ot {s:cG} (hs:xf s) (hnt: ∀q∈s.eqs,q.terms≠[]) {w:List Int} (hwl:w.length=s.vars.length) (hw: ∀x∈w,x.natAbs<cW) (hW:WS s w):aD 186 [s.pv, .sl (w.map Zp)] (.tup [.sl ((pQ s w).map .s),E 0]):=by
 have nv:=hs.nv;have hr:=Ci hs (w:=w.map gW) (by rw[aB];omega)
 rw[P7,mz hw,aB,ae (by simp),ae (by simpa using hwl)]at hr
 have hi:=FG hs hnt hW;generalize pQ s w=L at*;obtain⟨gs,vs,es⟩:=s;simp only[cG.pv]at hr hi⊢;refine eW call186 func186 ?_;exact z2 @hr @hi
theorem Cf (b:Bytes) {q:Bytes} (vb:aa b=true) (vq:aa q=true) {x:Int} (hx:x.natAbs<cW):aD 86 [cl b, .s q,Zp x] (.b (fU b x (dS q b))):=by
 have hz:=o8 hx;simp only[gW,cJ,aZ]at hz;have hc1:=mA (zb x) b;have hc2:=mA (zb x) q;rw[hz.1,vb]at hc1;rw[hz.1,vq]at hc2;simp only[dE,au,vQ]at hc1 hc2;have hd1:=qe x.natAbs (num b);have hd2:=qe x.natAbs (num q);have hzs:zs x=decide (x<0):=rfl;unfold fU dS;simp only[Zp,dI,gW,hzs]
 by_cases hb:b=[]
 ·subst hb;simp only[au,decide_true,cj];rw[<-hd2];clear hd1 hd2 hc1 hz hzs;generalize ba x.natAbs (num q)=cm at*;generalize decide (x<0)=p at*;unfold cl;cases p
  ·refine eW call86 func86 ?_;exact Wq @nn @hc2
  ·refine eW call86 func86 ?_;exact Wq @nn @hc2
 ·have hbb:(b==([]:Bytes))=false:=by simpa using hb
  simp only[ae hb,aH hb,dW,ca,jB];rw[<-hd1];clear hd1 hd2 hc2 hz hzs;generalize ba x.natAbs (num b)=cm at*;generalize decide (x<0)=p at*;unfold cl;refine eW call86 func86 ?_;exact mi @hbb @hc1
theorem Sd {s:cG} (hs:xf s) (hnt: ∀q∈s.eqs,q.terms≠[]) {w:List Int} (hwl:w.length=s.vars.length) (hw: ∀x∈w,x.natAbs<cW) (hW:tw (bA s.groups) s.vars w=true->WS s w):aD 88 [s.pv, .sl (w.map Zp)] (.tup [.b (tw (bA s.groups) s.vars w&&CZ s w),E 0]):=by
 have nv:=hs.nv;have ne:=hs.ne;have hv:=hs.v;have hr:=Ci hs (w:=w.map gW) (by rw[aB];omega)
 rw[P7,mz hw,aB,ae (by simp),ae (by simpa using hwl)]at hr
 have hm:=fun h=>FG hs hnt (hW h)
 have hL:=qK s w;have hor:=qv s (by have:=hs.ng;omega)
 have hoV:=dc hs.g;unfold CZ;generalize pQ s w=L at*;obtain⟨gs,vs,es⟩:=s;simp only[cG.pv]at hr hm hL hor hoV⊢;simp only at ne nv hv hwl;generalize bA gs=oq at*;have l2:(vs.map cl).length=vs.length:=aB ..;have l3:(es.map da.pv).length=es.length:=aB ..;have l4:(L.map PV.s).length=es.length:=by rw[aB];exact hL
 have l5:(w.map Zp).length=vs.length:=by rw[aB];exact hwl
 clear hs hW hnt;refine eW call88 func88 ?_;refine nc @l5 @hr ?_;refine af (α:=Nat) (fun i=>vs.length-i) (fun i=>⟨[(1, .v (.sl (w.map Zp))),(2, .p 1000 0 0),(7,E' i)],[(1000,⟨0,[.v (.sl (gs.map eu)), .v (.sl (vs.map cl)), .v (.sl (es.map da.pv))],false,none⟩)],_⟩) (fun i=>i<=vs.length/\ ∀j,j<i->fU (vs.getD j []) (w.getD j 0) (dS oq (vs.getD j []))=true) 0 (fun _=>ay _) ⟨aJ _,fun j hj=>oO⟩ ?_ ?_
 ·exact lE
 ·rintro i ⟨hi,hall⟩ R hR
  by_cases hlt:i<vs.length
  ·have e1:=getD_map cl vs [] hlt;have e2:=getD_map Zp w 0 (i:=i) oO;obtain⟨b1,b2⟩:=hv _ (aq [] hlt);have kw:=hw _ (aq 0 (show i<w.length by omega))
   have hgo:=fun h=>hR (i+1) ⟨oO,h⟩ oO
   have hbad:=fun h: ¬fU (vs.getD i []) (w.getD i 0) (dS oq (vs.getD i []))=true=>kY (p:=fun i=>fU (vs.getD i []) (w.getD i 0) (dS oq (vs.getD i []))) hlt (fy.2 h)
   have hnx:fU (vs.getD i []) (w.getD i 0) (dS oq (vs.getD i []))=true-> ∀j,j<i+1->fU (vs.getD j []) (w.getD j 0) (dS oq (vs.getD j []))=true:=fun h j hj=>by
    by_cases hji:j<i
    ·exact hall j hji
    ·obtain rfl:j=i:=oO;exact h
   rw[<-tw]at hbad;clear hR hall hm;have hc:=Cf (vs.getD i []) b1 hoV.1 kw;generalize hp:fU (vs.getD i []) (w.getD i 0) (dS oq (vs.getD i []))=p at*;generalize vs.getD i []=b at*;generalize w.getD i 0=x at*;simp only[cl]at e1 hc;simp only[Zp,dI,gW]at e2 hc;cases p
   ·rw[hbad (by simp)]
    exact AN (aN @l2 (aN @l5 (aN @e1 @e2))) @hor @hc
   ·have hgo:=hgo (hnx rfl);exact rv (aN @l2 (aN @l5 (aN @e1 @e2))) @hgo @hor @hc
  ·obtain rfl:i=vs.length:=oO;have hg:tw oq vs w=true:=lO fun j hj=>hall j hj
   rw[hg,cj];have hm:=hm hg;clear hR hall hv hw hor hr;refine nc (aN @l4 @l5) @hm ?_;refine af (α:=Nat) (fun i=>es.length-i) (fun i=>⟨[(2, .p 1000 0 0),(8, .v (.sl (L.map .s))),(10,E' i)],[(1000,⟨0,[.v (.sl (gs.map eu)), .v (.sl (vs.map cl)), .v (.sl (es.map da.pv))],false,none⟩)],_⟩) (fun i=>i<=es.length/\ ∀j,j<i->L.getD j []=(es.getD j gF).tgt) 0 (fun _=>ay _) ⟨aJ _,fun j hj=>oO⟩ ?_ ?_
   ·exact lE
   ·rintro i ⟨hi,hall⟩ R hR
    by_cases hlt:i<es.length
    ·have e1:=getD_map da.pv es gF hlt;have e2:=getD_map PV.s L [] (i:=i) oO;have hgo:=fun h=>hR (i+1) ⟨oO,h⟩ oO
     have hnx:L.getD i []=(es.getD i gF).tgt-> ∀j,j<i+1->L.getD j []=(es.getD j gF).tgt:=fun h j hj=>by
      by_cases hji:j<i
      ·exact hall j hji
      ·obtain rfl:j=i:=oO;exact h
     have hbad: ¬L.getD i []=(es.getD i gF).tgt->decide (L=es.map (·.tgt))=false:=fun h=>aH fun g=>h (by rw[g];simp[bu,hlt])
     clear hR hall;generalize es.getD i gF=q at*;generalize L.getD i []=x at*;obtain⟨g,t,ts⟩:=q;simp only[da.pv]at e1 hbad hnx
     by_cases hxt:x=t
     ·have hgo:=hgo (hnx hxt);have e3:(x==t)=true:=by simpa using hxt
      exact jC (aN @l3 (aN @l4 (aN @e1 (aN @e2 @e3)))) @hgo
     ·have e3:(x==t)=false:=by simpa using hxt
      rw[hbad hxt];exact gn (aN @l3 (aN @l4 (aN @e1 (aN @e2 @e3))))
    ·obtain rfl:i=es.length:=oO;rw[aI (Iw hL hall)];exact gn @l4
theorem V4 {st:Bytes} (hst:st.length<=1000) {s:cG} (hs:SZ s):aD 193 [.s st,s.pv] (.s (mQ st s)):=by
 obtain⟨⟨m,o,hg,lm,lo⟩,v0,nv,hv,ne,hq⟩:=hs;obtain⟨gs,vs,es⟩:=s;simp only at hg v0 nv hv ne hq;subst hg;obtain⟨w0,wr,hw⟩: ∃a b,vs=a::b:=by cases vs with
  |nil=>exact aW rfl v0
  |cons a b=>exact⟨a,b,rfl⟩
 have hvl:vs.length=wr.length+1:=by rw[hw];rfl
 have hpos: ∀ _:True,(0:Int)<(vs.length:Int):=fun _=>oO
 have g0:(vs.map cl).getD 0 .fn0= .agg [.s w0]:=by rw[hw];rfl
 simp only[mQ,eD,uI,kf,cG.pv,br,bK,eu];have n1:=mX st ud [m,o] oO oC (by simp) (by simp) (by intro s hs;simp at hs;rcases hs with rfl|rfl<;>omega)
 simp only[br,bK]at n1;have n2:=mX (gJ st ud [m,o]) Ax vs (by rw[fq];decide) oC v0 oO (fun x hx=>by have:=hv x hx;omega)
 have l2:=fq (gJ st ud [m,o]) Ax vs;refine eW call193 func193 ?_;repeat' first|simp only[go_sem,seval]|(refine ai ?_)|refine oE ?_|apply xX<;>intro hc
 refine dH (aN @g0 (hpos oT)) ?_;have hro:[AV.v (PV.s w0)]=bj PV.s (vs.take 1):=by rw[hw];rfl
 rw[hro];refine af (α:=Nat) (fun j=>vs.length-j) (fun j=>⟨[(0, .v (.s st)),(3, .p 1000 0 0),(5, .rs 1024 0 0 2 1),(6, .rs 1048 j 0 (1+j) 1),(8,E' (j+1))],[(1000,⟨0,[.v (.sl [.agg [.s m, .s o]]), .v (.sl (vs.map cl)), .v (.sl (es.map da.pv))],false,none⟩),(1024,⟨0,[.v (.s m), .v (.s o)],true,some 22⟩),(1048,⟨j,bj PV.s (vs.take (j+1)),true,some 22⟩)],1053⟩) (fun j=>j+1<=vs.length) 0 (fun _=>bZ rfl) oO ?_ ?_
 ·refine lG ?_;all_goals exact fun c hc=>cR hc
 ·intro j hj R hR;have hlr:(vs.take (j+1)).length=1+j:=by rw[bV];omega
  have q0:(bj PV.s (vs.take (j+1))).length=1+j:=by rw[cz dY.s,hlr,dN]
  have q1:List.take (1+j) (bj PV.s (vs.take (j+1)))=bj PV.s (vs.take (j+1)):=cb oO
  by_cases hjt:j+1<vs.length
  ·have e2:=getD_map cl vs ([]:Bytes) hjt;have hgo:=hR (j+1) oO oO;rw[aQ ([]:Bytes) hjt,cf]at hgo;generalize vs.getD (j+1) []=y at e2 hgo;have e2:(vs.map cl).getD (j+1) .fn0= .agg [.s y]:=e2;have e3: ∀ _:True,((j:Int)+1).toNat=j+1:=fun _=>oO
   clear hR hlr n1 n2;refine dH (aN @q0 (aN @q1 (aN @e2 (e3 oT)))) ?_;refine hgo _ ?_
   (refine AS.Le.of (by first|decide|omega) ?_ ?_<;>simp[dy,dx,aO,az,AV.bd,AV.bd.bdL,u8,ar,ax,aA])
   all_goals first|omega|exact⟨rfl,fun c hc=>by rcases hc with hc|⟨a,ha,rfl⟩;exact cR hc;rfl⟩|skip
  ·have hj2:j+1=vs.length:=oO;rw[hj2,ct]at hlr q0 q1⊢;clear hR hpos g0 hro;repeat' first|simp only[go_sem,seval,q0,q1]|refine cV n1 ?_|(refine Em (l:=vs) (g:=PV.s) (ver:=j) (gr:=true) (el:=some 22) n2 dY.s rfl (by simp[az]) hlr.symm ?_)|refine oE ?_|apply xX<;>intro hc
   generalize gJ (gJ st ud [m,o]) Ax vs=s0 at l2⊢;clear n1 n2;refine af (α:=Nat) (fun i=>es.length-i) (fun i=>⟨[(0, .v (.s ((es.take i).foldl rC s0))),(3, .p 1000 0 0),(9,E' i)],[(1000,⟨0,[.v (.sl [.agg [.s m, .s o]]), .v (.sl (vs.map cl)), .v (.sl (es.map da.pv))],false,none⟩)],1065⟩) (fun i=>i<=es.length) 0 (fun _=>bZ rfl) (aJ _) ?_ ?_
   ·(refine AS.Le.of (by first|decide|omega) ?_ ?_<;>simp[dy,dx,aO,az,AV.bd,AV.bd.bdL,u8,ar,ax,aA])
    all_goals rfl
   ·intro i hi R hR
    by_cases hit:i<es.length
    ·have e2:=getD_map da.pv es gF hit;have hgo:=hR (i+1) oO oO;rw[oZ rC s0 gF hit]at hgo;obtain⟨g1,g2,g3,nt,ht⟩:=hq _ (aq gF hit);have hX:=rV (l:=es.take i) l2;generalize (es.take i).foldl rC s0=X at hgo hX⊢;generalize es.getD i gF=q at*;obtain⟨mT,tgt,ts⟩:=q;simp only at g1 g2 g3 nt ht;obtain⟨n,rfl⟩: ∃n:Nat,mT=(n:Int):=⟨mT.toNat,oO⟩;have e2:(es.map da.pv).getD i .fn0= .agg [.i .i64 (n:Int), .s tgt, .sl (ts.map eF.pv)]:=e2;simp only[rC,Int.toNat_natCast]at hgo;have ln:=ow n;have l4:(ts.map eF.pv).length=ts.length:=aB ..;have c1:=wW n oO;have c2:=qQ X Dr (iq n) oO oC oO;have c3:=mX (fI X Dr (iq n)) HB [tgt] (by rw[jM];decide) oC (by simp) (by simp) (by simp;omega)
     have lS:=fq (fI X Dr (iq n)) HB [tgt];generalize gJ (fI X Dr (iq n)) HB [tgt]=S0 at*;simp only[br,bK]at c3;clear hR hq;refine uV (aN @e2 @l4) @c1 @c2 @c3 oT ?_;refine af (α:=Nat) (fun k=>ts.length-k) (fun k=>⟨[(0, .v (.s ((ts.take k).foldl rD S0))),(3, .p 1000 0 0),(9,E' i),(10, .p 1075 0 0),(11,E' k)],[(1000,⟨0,[.v (.sl [.agg [.s m, .s o]]), .v (.sl (vs.map cl)), .v (.sl (es.map da.pv))],false,none⟩),(1075,⟨0,[.v (.i .i64 (n:Int)), .v (.s tgt), .v (.sl (ts.map eF.pv))],false,some 154⟩)],_⟩) (fun k=>k<=ts.length) 0 (fun _=>ay _) (aJ _) ?_ ?_
     ·(refine AS.Le.of (by first|decide|omega) ?_ ?_<;>simp[dy,dx,aO,az,AV.bd,AV.bd.bdL,u8,ar,ax,aA])
      all_goals rfl
     ·clear c1 c2 c3 e2;intro k hk R' hR'
      by_cases hkt:k<ts.length
      ·have e3:=getD_map eF.pv ts eR hkt;have hgo':=hR' (k+1) oO oO;rw[oZ rD S0 eR hkt]at hgo';obtain⟨v1,v2,lb,la⟩:=ht _ (aq eR hkt);have hY:=rW (l:=ts.take k) lS;generalize (ts.take k).foldl rD S0=Y at hgo' hY⊢;generalize ts.getD k eR=t at*;obtain⟨base,vr,ng,ab⟩:=t;simp only at v1 v2 lb la;obtain⟨v,rfl⟩: ∃v:Nat,vr=(v:Int):=⟨vr.toNat,oO⟩;have e3:(ts.map eF.pv).getD k .fn0= .agg [.s base, .i .i64 (v:Int), .b ng, .s ab]:=e3;simp only[rD,Int.toNat_natCast]at hgo';have lv:=ow v;have c4:=wW v oO;have c5:=qQ Y HC (iq v) oO oC oO;have c6:=mX (fI Y HC (iq v)) FM [base] (by rw[jM];decide) oC (by simp) (by simp) (by simp;omega)
       have c7:=Hl (gJ (fI Y HC (iq v)) FM [base]) OK ng ab (by rw[fq];decide) oC oO
       simp only[br,bK]at c6;clear hR' hgo;refine wI (aN @e3 @l4) @c4 @c5 @c6 @c7 ?_;refine hgo' _ ?_
       (refine AS.Le.of (by first|decide|omega) ?_ ?_<;>simp[dy,dx,aO,az,AV.bd,AV.bd.bdL,u8,ar,ax,aA])
       all_goals first|omega|skip
      ·have h:k=ts.length:=oO;rw[h,ct];refine dH @l4 ?_;refine hgo _ ?_
       (refine AS.Le.of (by first|decide|omega) ?_ ?_<;>simp[dy,dx,aO,az,AV.bd,AV.bd.bdL,u8,ar,ax,aA])
       all_goals first|omega|skip
    ·have h:i=es.length:=oO;rw[h,ct];exact z0
theorem Ch {s:cG} (hp:BD c sl s):aD 84 [.agg [.s c, .s sl],s.pv,C0] (E 0):=by
 have hb:=sk hp;obtain⟨gs,vs,es⟩:=s;simp only[cG.pv]at hb⊢;refine eW call84 func84 ?_;repeat' first|simp only[go_sem,seval]|refine cP hb ?_|refine cP FA ?_|refine oE ?_|apply xX<;>intro hc
 all_goals skip
theorem Bq {s:cG} (hp:BD c sl s) (hb:SZ s) {ctx:Bytes} (hx:ctx.length<=100000) {fs:List Bytes} (f0:fs≠[]) (fe:fs.length=s.eqs.length) (fl: ∀x∈fs,x.length<=8) (fv:fs.all aa=true):
  aD 92 [.agg [.s c, .s sl], .s ctx,s.pv,C0, .sl (fs.map .s), .sl []] (.tup [N (iQ (Bj ctx s fs) c),E 0]):=by
 have fn:fs.length<=900:=by rw[fe];have:=hb.ne;omega
 have fl: ∀x∈fs,x.length<=100000:=fun x hx=>by have:=fl x hx;omega
 have hr:=hp.r;have c0:c≠[]:=by
  intro h;have:=hr.c2;rw[h]at this;exact aW this oC
 have hst:=Ch hp;have hv:=Ho fs oO;rw[fv]at hv;have n1:=Si sA oC;have n2:=qQ (mq sA) wu ctx (by rw[Ct];decide) oC hx
 have n3:=V4 (st:=fI (mq sA) wu ctx) (by rw[jM];decide) hb
 have n4:=qQ (mQ (fI (mq sA) wu ctx) s) HA [] (by rw[yT];decide) oC oC
 have n5:=mX (fI (mQ (fI (mq sA) wu ctx) s) HA []) OL fs (by rw[jM];decide) oC f0 fn fl
 have n6:=xp (Bj ctx s fs) c (by rw[Bj,fq];decide) hr.vc c0 hr.lc
 have n5:aD 195 [.s (fI (mQ (fI (mq sA) wu ctx) s) HA []), .s OL, .sl (fs.map .s)] (.s (Bj ctx s fs)):=n5;generalize Bj ctx s fs=st5 at*;generalize mQ (fI (mq sA) wu ctx) s=st3 at*;obtain⟨gq,vs,es⟩:=s;have l1:(fs.map PV.s).length=es.length:=by rw[aB];exact fe
 have l2:(es.map da.pv).length=es.length:=aB ..;simp only[cG.pv]at n3 hst⊢;refine eW call92 func92 ?_;repeat' first|simp only[go_sem,seval,l1,l2]|refine cP hst ?_|refine cP hv ?_|refine cP n1 ?_|refine cP n2 ?_|refine cP n3 ?_|refine cP n4 ?_|refine cP n5 ?_|refine cP n6 ?_|refine cP Sn ?_|(refine ai ?_)|refine oE ?_|apply xX<;>intro hc
