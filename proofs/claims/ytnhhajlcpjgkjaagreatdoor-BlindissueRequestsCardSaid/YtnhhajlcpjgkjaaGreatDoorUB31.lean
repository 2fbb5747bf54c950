/- Part of the proof. -/
import Derived.Test.YtnhhajlcpjgkjaaGreatDoorUB30
set_option linter.all false
set_option maxHeartbeats 16000000
set_option maxRecDepth 100000
namespace Go.Proofs.Tryz
open Go Go.Dom Go.Num
variable {S i len:Nat} {n sd:Bytes} {vs:List Bytes}
theorem y8 (vs:List Bytes) (sd:Bytes) (at':Int) (a:Nat):aE 300 [T vs sd at', .i .i64 a] (.fc 410 [] [.pt (T vs sd at') 0, .pt (.agg [.i .i64 a]) 0]):=by
 refine eW call300 func300 ?_;exact z0
theorem MF (sd:Bytes) (at' a:Nat): ∀(k b:Nat),∀y∈Ki sd at' a b k,y.length=1:=by
 intro k
 induction k with
 |zero=>intro b y hy;cases hy
 |succ k ih=>
  intro b y hy
  cases hy with
  |head=>rfl
  |tail _ h=>exact ih _ _ h
def jl (size:Nat):Nat:=max 1 ((size+31)/32)
def nZ (sd:Bytes) (at' a:Nat):Nat->Bytes
 |0=>[]
 |k+1=>nZ sd at' a k++tJ sd at' a k
def Jg:Bytes->Nat->Bytes
 |[],_=>[]
 |x::r,d=>UInt8.ofNat (x.toNat%2^(8-d))::r
theorem R5: ∀(d:Fin 8) (x:Fin 256),mN .u8 (x.val:Int) (Int.fdiv 255 (2^d.val))=((UInt8.ofNat (x.val%2^(8-d.val))).toNat:Int):=by decide+kernel
theorem nj (c:UInt8) (r:Bytes):aK (c::r)= .v (.i .u8 (c.toNat:Int))::aK r:=rfl
def gJ:Bytes->Bytes
 |[]=>[]
 |x::r=>if x=0 then gJ r else x::r
def yQ (sd:Bytes) (at' a len:Nat):Bytes:=gJ (Jg ((nZ sd at' a (jl ((len+7)/8))).take ((len+7)/8)) (8*((len+7)/8)-len))
theorem vT (h:1<=S) (x:UInt8) (r:Bytes) (d:Nat):Jg (List.take S (x::r)) d=List.take S (UInt8.ofNat (x.toNat%2^(8-d))::r):=by
 obtain⟨S,rfl⟩: ∃m,S=m+1:=⟨S-1,oO⟩;rfl
theorem Nf {q:Bytes} (h:i<S) (hS:S<=q.length):(q.take S).drop i=q.getD i 0::(q.take S).drop (i+1):=by
 rw[jQ (by rw[cd];omega),List.getElem_take,b9,cb oO];rfl
theorem IS (q:Bytes) (S i:Nat):List.take (S-i) (List.drop i (aK q))=aK ((q.take S).drop i):=by
 rw[aK,aK,uH,yA,uW]
theorem sD (l:Bytes): ∀y∈aK l,y.isByte:=by
 intro y hy;obtain⟨c,_,rfl⟩:=cE.1 hy;exact oT
theorem GX {at' a:Nat} (hv:vs.length<1000000) (hsd:sd.length<1000000) (ha:at'<4294967296) (ha2:a<4294967296) (hl0:0<len) (hl:len<100000):aE 179 [T vs sd at', .i .i64 a, .i .i64 len] (.s (yQ sd at' a len)):=by
 have hb:=y8 vs sd at' a;have hit:=Kj (vs:= .sl (vs.map .s)) (sd:=sd) (at':=at') (a:=a) (k:=jl ((len+7)/8)) hsd (by unfold jl;omega) ha ha2
 have hsz: ∀ _:True,IntKind.i64.wrap (((len:Int)+7).tdiv 8)=(((len+7)/8:Nat):Int):=by
  intro _;rw[JW oO,IntWalk.i64_in _ oO];omega
 have hs1:1<=(len+7)/8/\(len+7)/8<=13000:=oO;have hlen: ∀b,(tJ sd at' a b).length=32:=fun b=>by unfold tJ C6;rw[fG]
 have hcat: ∀k,(nZ sd at' a k).length=32*k:=by
  intro k
  induction k with
  |zero=>rfl
  |succ k ih=>rw[nZ,bU,ih,hlen];omega
 have hR: ∀k,k<jl ((len+7)/8)-> ¬(len+7)/8<=32*k\/k=0:=by intro k h;unfold jl at h;omega
 refine eW call179 func179 ?_;refine iy (hsz oT) @hb ?_;unfold yQ;generalize hS:(len+7)/8=S at*;refine yF hit rfl ?_ ?_
 ·intro y hy;exact MF _ _ _ _ _ y hy
 refine SV (α:=Nat) (fun k=>match k with|0=>⟨[(7, .p 1005 0 0),(8, .p 1007 0 0),(2, .v (.i .i64 len))],[(1005,⟨0,[.v (.i .i64 S)],false,some 3⟩),(1007,⟨0,[.sn],false,some 209⟩)],1011⟩|k+1=>⟨[(7, .p 1005 0 0),(8, .p 1007 0 0),(2, .v (.i .i64 len))],[(1005,⟨0,[.v (.i .i64 S)],false,some 3⟩),(1007,⟨0,[.rs 1014 k 0 (32*(k+1)) 1],false,some 209⟩),(1014,⟨k,aK (nZ sd at' a (k+1)),true,some 5⟩)],1020⟩) (fun xs k=>k<jl S/\xs=Ki sd at' a k (jl S-k)) 0 ?_ ⟨by unfold jl;omega,rfl⟩ ?_ ?_ ?_
 ·intro k;cases k
  ·exact aD _
  ·show 1011<=1020;decide
 ·refine AS.Le.of oC ?_ ?_<;>simp[dw,du,aS,aC,AV.bd,AV.bd.bdL]
 ·rintro k ⟨h1,h2⟩;obtain⟨m,hm⟩: ∃m,jl S-k=m+1:=⟨jl S-k-1,oO⟩;rw[hm]at h2;cases h2
 ·rintro y ys k ⟨h1,h2⟩ R hRR;obtain⟨m,hm⟩: ∃m,jl S-k=m+1:=⟨jl S-k-1,oO⟩;rw[hm]at h2;injection h2 with e1 e2
  subst e1 e2;have hkb:k<1000:=by unfold jl at h1;omega
  have hx:=hlen k;have hc:=hcat k;have ho:=hcat (k+1);have hc1:nZ sd at' a k++tJ sd at' a k=nZ sd at' a (k+1):=rfl;have hgo:k+1<jl S-> _:=fun h=>hRR (k+1) ⟨h,by rw[show jl S-(k+1)=m from by omega]⟩
  clear hRR hit hb hcat hlen
  by_cases hf:S<=32*(k+1)
  ·have hk:jl S=k+1:=by unfold jl at h1⊢;omega
   rw[hk];clear hgo hR;have hd1: ∀ _:True,(8*(S:Int)-len).toNat=8*S-len:=fun _=>oO
   have hd2:8*S-len<8:=oO;have hd3:(if 8*S-len<=8 then 8*S-len else 8)=8*S-len:=by rw[ah];omega
   have hmask:=fun x:UInt8=>R5 ⟨8*S-len,hd2⟩ ⟨x.toNat,x.toNat_lt⟩
   simp only at hmask;generalize hd:8*S-len=d at*;generalize hcc:nZ sd at' a (k+1)=o at*;obtain⟨x0,r,rfl⟩: ∃x0 r,o=x0::r:=by
    cases o with
    |nil=>simp at ho
    |cons x0 r=>exact⟨_,_,rfl⟩
   cases k with
   |zero=>
    generalize tJ sd at' a 0=x at*;generalize nZ sd at' a 0=c at*;obtain rfl:c=[]:=kR hc;obtain rfl:x=x0::r:=hc1;refine eJ (aN @hx (aN @nj (aN (hd1 oT) (aN @hd3 @hmask)))) ?_;rw[vT hs1.1];simp only[<-nj];generalize hq:UInt8.ofNat (x0.toNat%2^(8-d))::r=q at*;have hql:q.length=32*(0+1):=by rw[<-hq];simpa using ho
    refine ak (α:=Nat) (fun i=>S-i) (fun i=>⟨[(8, .p 1007 0 0)],[(1007,⟨0,[.rs 1014 0 i (S-i) 1],false,some 209⟩),(1014,⟨0,aK q,true,some 5⟩)],1037⟩) (fun i=>i<=S/\gJ ((q.take S).drop i)=gJ (q.take S)) 0 (fun _=>aD _) ⟨aO _,rfl⟩ ?_ ?_
    ·refine AS.Le.of oC ?_ ?_<;>simp[dw,du,aS,aC,AV.bd,AV.bd.bdL,ar]
    ·rintro i ⟨hi,hst⟩ R2 hR2;rw[<-hst]
     by_cases hlt:i<S
     ·have e1:=Nf (q:=q) hlt oO;have e2:=jv (l:=q) (i:=i) oO;have e3: ∀ _:True,((S-i:Nat):Int)=(S:Int)-i:=fun _=>oO
      have e4:=IS q S i
      by_cases hz:q.getD i 0=0
      ·have hgo2:=hR2 (i+1) ⟨hlt,by rw[<-hst,e1,gJ,ah hz]⟩ oO
       clear hR2;refine eJ (aN @e2 @hz) ?_;refine hgo2 _ ?_;refine AS.Le.of oO ?_ ?_<;>simp[dw,du,aS,aC,AV.bd,AV.bd.bdL,ar,Nat.sub_sub]
      ·rw[e1,gJ,af hz,<-e1];have hz2: ∀ _:True,(((q.getD i 0).toNat:Int)==0)=false:=fun _=>by
        rw[dL];intro h;exact hz (jo.1 (by exact_mod_cast h))
       refine eJ (aN @e2 (hz2 oT)) ?_;rw[e4];exact⟨⟨oO,sD _⟩,by rw[ju]⟩
     ·obtain rfl:i=S:=oO;refine xF ?_;rw[ic,List.take_zero,iu (by rw[cd];omega)]
      exact⟨⟨oO,fun y hy=>by cases hy⟩,rfl⟩
   |succ k=>
    dsimp only;generalize tJ sd at' a (k+1)=x at*;generalize nZ sd at' a (k+1)=c at*;have htk:List.take (32*(k+1)) (aK c)=aK c:=by rw[<-hc];exact jw _
    refine eJ (aN @hx (aN @hc1 (aN @htk (aN @nj (aN (hd1 oT) (aN @hd3 @hmask)))))) ?_;rw[vT hs1.1];simp only[<-nj];generalize hq:UInt8.ofNat (x0.toNat%2^(8-d))::r=q at*;have hql:q.length=32*(k+1+1):=by rw[<-hq];simpa using ho
    refine ak (α:=Nat) (fun i=>S-i) (fun i=>⟨[(8, .p 1007 0 0)],[(1007,⟨0,[.rs 1014 (k+1) i (S-i) 1],false,some 209⟩),(1014,⟨(k+1),aK q,true,some 5⟩)],1046⟩) (fun i=>i<=S/\gJ ((q.take S).drop i)=gJ (q.take S)) 0 (fun _=>aD _) ⟨aO _,rfl⟩ ?_ ?_
    ·refine AS.Le.of oC ?_ ?_<;>simp[dw,du,aS,aC,AV.bd,AV.bd.bdL,ar]
    ·rintro i ⟨hi,hst⟩ R2 hR2;rw[<-hst]
     by_cases hlt:i<S
     ·have e1:=Nf (q:=q) hlt oO;have e2:=jv (l:=q) (i:=i) oO;have e3: ∀ _:True,((S-i:Nat):Int)=(S:Int)-i:=fun _=>oO
      have e4:=IS q S i
      by_cases hz:q.getD i 0=0
      ·have hgo2:=hR2 (i+1) ⟨hlt,by rw[<-hst,e1,gJ,ah hz]⟩ oO
       clear hR2;refine eJ (aN @e2 @hz) ?_;refine hgo2 _ ?_;refine AS.Le.of oO ?_ ?_<;>simp[dw,du,aS,aC,AV.bd,AV.bd.bdL,ar,Nat.sub_sub]
      ·rw[e1,gJ,af hz,<-e1];have hz2: ∀ _:True,(((q.getD i 0).toNat:Int)==0)=false:=fun _=>by
        rw[dL];intro h;exact hz (jo.1 (by exact_mod_cast h))
       refine eJ (aN @e2 (hz2 oT)) ?_;rw[e4];exact⟨⟨oO,sD _⟩,by rw[ju]⟩
     ·obtain rfl:i=S:=oO;refine xF ?_;rw[ic,List.take_zero,iu (by rw[cd];omega)]
      exact⟨⟨oO,fun y hy=>by cases hy⟩,rfl⟩
  ·have hgo:=hgo (by unfold jl;omega)
   cases k with
   |zero=>
    generalize tJ sd at' a 0=x at*;refine eJ @hx ?_;refine hgo _ ?_;have hx1:nZ sd at' a 1=x:=hc1.symm;refine AS.Le.of oC ?_ ?_<;>simp[dw,du,aS,aC,AV.bd,AV.bd.bdL,hx1,ar]
   |succ k=>
    have htk:List.take (32*(k+1)) (aK (nZ sd at' a (k+1)))=aK (nZ sd at' a (k+1)):=by rw[<-hc];exact jw _
    generalize tJ sd at' a (k+1)=x at*;repeat' first|simp only[go_sem,seval,hx,hc1]|refine oE ?_|apply xX<;>intro hc
    all_goals first
     |omega
     |skip
    refine hgo _ ?_;refine AS.Le.of oC ?_ ?_<;>simp[dw,du,aS,aC,AV.bd,AV.bd.bdL,htk,kj,hc1,ar];omega
theorem AB: ∀l:Bytes,(gJ l).length<=l.length
 |[]=>aD _
 |x::r=>by
  rw[gJ];split
  ·have:=AB r;rw[List.length_cons];omega
  ·exact aD _
theorem xh: ∀l:Bytes,((gJ l).length==0||(gJ l).headD 0 !=0)=true
 |[]=>rfl
 |x::r=>by
  rw[gJ];split
  ·exact xh r
  ·rename_i h;simp[h]
theorem KV (l:Bytes) (d:Nat):(Jg l d).length=l.length:=by cases l<;>rfl
theorem sw (sd:Bytes) (at' a:Nat) (h:len<=1024):aa (yQ sd at' a len)=true:=by
 unfold aa;rw[aZ];refine⟨aU ?_,xh _⟩;have:=AB (Jg ((nZ sd at' a (jl ((len+7)/8))).take ((len+7)/8)) (8*((len+7)/8)-len));rw[KV,cd]at this;unfold yQ;omega
def rV (f:Nat->Bytes) (n a:Nat):Nat->Option Bytes
 |0=>none
 |k+1=>if num (f a)<n then some (f a)else rV f n (a+1) k
def ij (vs:List Bytes) (sd:Bytes) (i:Nat) (n:Bytes):Except Int Bytes:=
 if i<vs.length then(if num n<=num (vs.getD i [])then .error 2 else .ok (vs.getD i []))
 else if sd=[]\/i=2147483647 then .error 14
 else match rV (fun a=>yQ sd i a (cW (num n))) (num n) 0 256 with
  |some x=> .ok x
  |none=> .error 14
def lB (vs:List Bytes) (sd:Bytes) (i:Nat):Except Int Bytes->PV
 | .ok x=> .tup [.s x,T vs sd (i+1:Nat),E 0]
 | .error e=> .tup [.s [],T [] [] 0,E e]
theorem yU (hn:aa n=true):cW (num n)<=1024:=by
 have h1:=cF n;have h2:n.length<=128:=by
  unfold aa at hn;rw[aZ]at hn;exact of_decide_eq_true hn.1
 have h3:num n<2^1024:=br h1 (by rw[show(2:Nat)^1024=256^128 by decide+kernel];exact cQ oC h2)
 unfold cW;split
 ·omega
 ·rename_i h;have:=(yr h).2 h3;omega
theorem qv (x y:Nat):decide (aW x y<0)=decide (x<y):=by
 have e:=y7 x y;rw[eq_iff_iff]at e;rw[fh];omega
theorem Fm (x y:Nat):decide (aW x y>=0)= !decide (x<y):=by
 have e:=y7 x y;rw[eq_iff_iff]at e
 by_cases h:x<y
 ·rw[aU h,bu (fun g=>by have:=e.1 g;omega)];rfl
 ·rw[bu h,aU (e.2 oO)];rfl
theorem E7 (hv:vs.all aa=true) (hn:aa n=true) (h0:num n≠0) (hi:i<=2147483647) (hl:vs.length<1000000) (hsd:sd.length<1000000):aE 91 [T vs sd i, .s n] (lB vs sd i (ij vs sd i n)):=by
 by_cases hiv:i<vs.length
 ·have h:=Rw sd hv hn hiv hl;unfold Nd at h;unfold ij;rw[ah hiv];split
  ·rename_i hle;rw[ah hle]at h;exact h
  ·rename_i hle;rw[af hle]at h;exact h
 unfold ij;rw[af hiv]
 by_cases hs:sd=[]\/i=2147483647
 ·rw[ah hs];have hnl: ∀ _:True,(([]:Bytes)==[])=true:=fun _=>rfl
  have h47: ∀ _:True,((2147483647:Int)==2147483647)=true:=fun _=>rfl
  rcases hs with rfl|rfl
  ·refine eW call91 func91 ?_;exact fP (hnl oT)
  ·cases hsb:sd==[]with
   |true=>
    refine eW call91 func91 ?_;exact fP @hsb
   |false=>
    refine eW call91 func91 ?_;exact fP (aN @hsb (h47 oT))
 rw[af hs];have hs1:sd≠[]:=fun h=>hs (.inl h)
 have hs2:i≠2147483647:=fun h=>hs (.inr h)
 have hbl:=yU hn;have hb0:0<cW (num n):=by unfold cW;rw[af h0];omega
 have hB:=xG hn;have hA:=fun a (ha:a<256)=>GX (vs:=vs) (sd:=sd) (at':=i) (a:=a) (len:=cW (num n)) hl hsd oO oO hb0 oO
 have hC:=fun a=>mG (yQ sd i a (cW (num n))) n
 have hV:=fun a=>sw sd i a hbl
 obtain⟨r1,r2,r3,r4⟩:=LL vs;have hsb:(sd==[])=false:=by rw[dL];exact hs1
 have hi47: ∀ _:True,((i:Int)==2147483647)=false:=fun _=>by rw[dL];omega
 generalize hf:(fun a=>yQ sd i a (cW (num n)))=f
 have hA: ∀a:Nat,a<256->aE 179 [T vs sd i, .i .i64 a, .i .i64 (cW (num n))] (.s (f a)):=by rw[<-hf];exact hA
 have hC: ∀a,aE 36 [.s (f a), .s n] (E (aW (num (f a)) (num n))):=by
  intro a;have h:=hC a;rw[hV,hn]at h;rw[<-hf];exact h
 refine eW call91 func91 ?_;refine eJ (aN @hsb (hi47 oT)) ?_;refine⟨⟨fun x hx=>gA hx,fun y hy=>kA hy,by rw[mM];exact aD _⟩,?_⟩
 refine ak (α:=Nat) (fun a=>256-a) (fun a=>⟨[(73, .v (.i .i64 a)),(1, .v (.s n)),(2, .p 1000 0 0),(5, .p 1002 0 0),(7, .p 1047 0 0)],[(1000,⟨0,[.v (.sl (vs.map .s)), .v (.s sd), .v (.i .i64 i)],false,none⟩),(1002,⟨0,[.sn, .v (.s []), .v (.i .i64 0)],false,some 41⟩),(1040,⟨0,List.map AV.v (vs.map .s),false,none⟩),(1047,⟨0,[.rs 1040 0 0 vs.length 1, .v (.s sd), .v (.i .i64 ((i:Int)+1))],false,some 41⟩)],1061⟩) (fun a=>a<=256/\rV f (num n) a (256-a)=rV f (num n) 0 256) 0 (fun _=>aD _) ⟨aO _,rfl⟩ ?_ ?_
 ·refine AS.Le.of oC ?_ ?_<;>simp[dw,du,aS,aC,AV.bd,AV.bd.bdL,oe,r1,r3];rw[cZ (by simp)]
 ·rintro a ⟨ha,hst⟩ R hR;rw[<-hst]
  by_cases hlt:a<256
  ·obtain⟨m,hm⟩: ∃m,256-a=m+1:=⟨255-a,oO⟩;have hAa:=hA a hlt;have hCa:=hC a;have hgo:=hR (a+1);rw[hm,rV]
   by_cases hle:num (f a)<num n
   ·rw[ah hle];have hcm: ∀ _:True,decide (aW (num (f a)) (num n)<0)=true:=fun _=>by rw[qv];exact aU hle
    generalize aW (num (f a)) (num n)=cm at*;repeat' first|simp only[go_sem,seval,hcm oT,r1,r2,r3,r4,oe,fX]|refine cP hB ?_|refine cP hAa ?_|refine cP hCa ?_|refine oE ?_|apply xX<;>intro hc
    rfl
   ·rw[af hle];have hgo:=hgo ⟨hlt,by rw[<-hst,hm,rV,af hle,show 256-(a+1)=m from by omega]⟩ oO
    have hcm: ∀ _:True,decide (aW (num (f a)) (num n)<0)=false:=fun _=>by rw[qv];exact bu hle
    generalize aW (num (f a)) (num n)=cm at*;refine Ey (hcm oT) @hB @hAa @hCa oT ?_;refine hgo _ ?_;refine AS.Le.of oC ?_ ?_<;>simp[dw,du,aS,aC,AV.bd,AV.bd.bdL]
  ·obtain rfl:a=256:=oO;exact z0
theorem OY (hv:vs.all aa=true) (hn:aa n=true) (h0:n≠[]) (hi:i<=2147483647):wA vs i n=0:=by
 have h1:(vs.any fun x=> !aa x)=false:=by
  rw[dn];intro g;obtain⟨x,hx,h⟩:=rC.1 g;simp[bH.1 hv x hx]at h
 have h2:eT vs i=true:=by
  unfold eT;rw[h1,aU (show(i:Int)>=0 by omega),aU (show(i:Int)<=2147483647 by omega)];rfl
 simp[wA,h2,hn,h0]
theorem zU (hn:aa n=true) (h0:n≠[]):num n≠0:=fun h=>h0 ((uh hn).1 h)
theorem ou (hv:vs.all aa=true) (hn:aa n=true) (h0:n≠[]) (hi:i<=2147483647) (hl:vs.length<1000000) (hsd:sd.length<1000000):aE 37 [T vs sd i, .s n] (lB vs sd i (ij vs sd i n)):=by
 have h1:=Aq vs sd i n oO;rw[OY hv hn h0 hi]at h1;have h2:=E7 (sd:=sd) hv hn (zU hn h0) hi hl hsd;generalize ij vs sd i n=r at*
 cases r with
 |ok x=>
  unfold lB at*;refine eW call37 func37 ?_;exact z2 @h1 @h2
 |error e=>
  unfold lB at*;refine eW call37 func37 ?_;exact z2 @h1 @h2
theorem TG (m:Nat) (h:m<10):List.drop m (48::List.take m ([49,50,51,52,53,54,55,56,57]:Bytes))=[UInt8.ofNat (48+m)]:=by
 have:=Vs ⟨m,h⟩;unfold iA at this;simp only at this;rw[ah h]at this;exact this
theorem wk (n:Nat) (hn:n<4294967296):aE 362 [.i .i64 (n:Int)] (.s (Lib.decDigits n)):=by
 induction n using Nat.strongRecOn with
 | _ n ih=>
 by_cases h:n<10
 ·have hb:=TG n h;rw[Lib.decDigits_one h];have t1: ∀ _:True,((n:Int)+1).toNat=n+1:=fun _=>oO
  refine eW call362 func362 ?_;repeat' first|simp only[go_sem,seval,t1 oT]|refine oE ?_|apply xX<;>intro hc
  all_goals first|omega|exact congrArg PV.s hb|skip
 ·have h1:=ih (n/10) oO oO;have hb:=TG (n%10) (aQ _ oC);have t1: ∀ _:True,(((n%10:Nat):Int)+1).toNat=n%10+1:=fun _=>oO
  have l1:=pd (n:=n/10) oO;rw[Lib.decDigits,dif_neg h];refine eW call362 func362 ?_;refine iy (t1 oT) @h1 ?_;rw[hb];exact⟨by simp;omega,rfl,rfl⟩
theorem GW {α:Type} (l:List α) (p:α->Bool):(l.any fun x=> !p x)= !l.all p:=by
 induction l with
 |nil=>rfl
 |cons x l ih=>rw[List.any_cons,List.all_cons,ih];cases p x<;>simp
theorem tW {a:Int} (h:eT vs a=true):vs.all aa=true/\0<=a/\a<=2147483647:=by
 unfold eT at h;rw[GW,rP]at h;simp only[aZ,bw]at h;exact⟨h.2,h.1.1,h.1.2⟩
theorem tV (h:vs.all aa=true) (hi:i<=2147483647):eT vs i=true:=by
 unfold eT;rw[GW,h,aU (show(i:Int)>=0 by omega),aU (show(i:Int)<=2147483647 by omega)];rfl
def uE (k:Bytes) (c:UInt8) (i:Nat):Bytes:=(List.range 64).map fun j=>if j<i then k.getD j 0^^^c else 0
theorem qW (k:Bytes) (c:UInt8) (i:Nat):(uE k c i).length=64:=by simp[uE]
theorem P0 (k:Bytes) (c:UInt8):uE k c 64=qh k c:=by
 unfold uE qh j5;refine mn ?_;intro j hj;rw[fN]at hj;rw[ah hj,ah hj]
theorem P1 {k:Bytes} {c:UInt8} (h:i<64):(uE k c i).set i (k.getD i 0^^^c)=uE k c (i+1):=by
 apply rG
 ·simp[uE]
 ·intro n h1 h2;rw[D9];simp only[uE,DX,Em]
  by_cases hn:i=n
  ·subst hn;simp
  ·rw[af hn];have:(n<i)=(n<i+1):=by simp;omega
   simp only[this]
theorem AT (k:Bytes) (c:UInt8):(qh k c).length=64:=eC k c 64
theorem Ty (l:Bytes) {o:Nat} (c:UInt8) (h:o<l.length):(aK l).take o++[.v (.i .u8 (c.toNat:Int))]++(aK l).drop (o+1)=aK (l.set o c):=by rw[ft];exact MJ l c h
theorem GH (k:Bytes) (c:UInt8):aE 447 [.s k, .i .u8 (c.toNat:Int)] (.s (qh k c)):=by
 have z:aK (uE k c 0)=List.replicate 64 (.v (.i .u8 0)):=rfl;refine eW call447 func447 ?_;refine qi ?_;refine ak (α:=Nat) (fun i=>64-i) (fun i=>⟨[(0, .v (.s k)),(1, .v (.i .u8 (c.toNat:Int))),(5, .rs 1001 0 0 64 1),(6,E' i)],[(1001,⟨0,aK (uE k c i),false,none⟩)],_⟩) (fun i=>i<=64) 0 (fun _=>aD _) (aO _) ?_ ?_
 ·rw[z];exact lE
 ·intro i hi R hR
  by_cases hlt:i<64
  ·have hgo:=hR (i+1) oO oO;rw[<-P1 hlt]at hgo;have b1:=Ty (uE k c i) (o:=i) c (by rw[qW];exact hlt)
   have b2:=Ty ((uE k c i).set i c) (o:=i) (k.getD i 0^^^c) (by rw[lh,qW];exact hlt)
   rw[yu]at b2;have g3:=PZ (k.getD i 0) c
   by_cases hik:i<k.length
   ·repeat' first|simp only[go_sem,seval,b1,b2,g3,qW,lh]|refine oE ?_|apply xX<;>intro hc
    refine hgo _ ?_;exact lE
   ·have e0:k.getD i 0=0:=by rw[b9,x7 oO];rfl
    rw[e0,UInt8.zero_xor]at hgo;exact jr (aN @b1 @qW) @hgo
  ·obtain rfl:i=64:=oO;have t1:List.take 64 (aK (uE k c 64))=aK (uE k c 64):=cZ (by rw[ko,qW];exact aD _)
   refine eJ @t1 ?_;rw[P0];exact⟨⟨by rw[AT];exact aD _,sD _⟩,by rw[ju]⟩
theorem LG (l:Bytes) (hl:l.length<1000000):aE 363 [.s l] (.s (gJ l)):=by
 refine eW call363 func363 ?_;refine qi ?_;refine ak (α:=Bytes) (fun x=>x.length) (fun x=>⟨[(0, .v (.s x))],[],_⟩) (fun x=>x.length<1000000/\gJ x=gJ l) l (fun _=>aD _) ⟨hl,rfl⟩ ?_ ?_
 ·exact lE
 ·rintro x ⟨hx,he⟩ R hR;rw[<-he]
  cases x with
  |nil=>
   exact z0
  |cons y r=>
   have hgo:=hR r;simp only[gJ]
   by_cases hy:y=0
   ·rw[ah hy];simp only[gJ,ah hy]at he;have hg2:=hgo ⟨by simp at hx;omega,he⟩ (by simp)
    clear hgo hR;subst hy;exact zg0 @hg2
   ·rw[af hy];have hz: ∀ _:True,((y.toNat:Int)==0)=false:=fun _=>by
     rw[dL];intro h;exact hy (jo.1 (by exact_mod_cast h))
    clear hgo hR;exact fP (hz oT)
theorem SJ {k s:Bytes} (hk:k.length<1000000) (hs:s.length<1000000):aE 361 [.s k, .s s] (.s (C6 k s)):=by
 have h1:=GH (qB k) 92;have h2:=GH (qB k) 54;have h3:=xU (s:=qh (qB k) 54++s) (by rw[bU];have:=eC (qB k) 54 64;unfold qh;omega)
 have h4:=xU (s:=qh (qB k) 92++lQ (qh (qB k) 54++s)) (by rw[bU,fG];have:=eC (qB k) 92 64;unfold qh;omega)
 have g1:((92:UInt8).toNat:Int)=92:=rfl;have g2:((54:UInt8).toNat:Int)=54:=rfl;rw[g1]at h1;rw[g2]at h2;have hz:=xU (s:=k) oO;unfold C6;unfold qB at*
 by_cases hl:k.length>64
 ·rw[ah hl]at*;refine eW call361 func361 ?_;exact P7 (aN @AT @fG) @hz @h1 @h2 @h3 @h4 oT oT
 ·rw[af hl]at*;refine eW call361 func361 ?_;exact wO (aN @AT @fG) @h1 @h2 @h3 @h4
