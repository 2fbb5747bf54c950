/- Part of the proof. -/
import Derived.Test.YtkmahpcpmgedkaaGreatDoorFC30
import Derived.WideLaws
import Derived.Tactics
import Derived.Tactics2
set_option linter.all false
set_option maxHeartbeats 16000000
set_option maxRecDepth 100000
namespace Go.Proofs.Tryz
open Go Go.Dom Go.Num
variable {S i len:Nat} {n sd:Bytes} {vs:List Bytes}
theorem yE (vs:List Bytes) (sd:Bytes) (at':Int) (a:Nat):aE 365 [T vs sd at', .i .i64 a] (.fc 434 [] [.pt (T vs sd at') 0, .pt (.agg [.i .i64 a]) 0]):=by
 refine eW call365 func365 ?_;exact z0
theorem L8 (sd:Bytes) (at' a:Nat): ∀(k b:Nat),∀y∈JB sd at' a b k,y.length=1:=by
 intro k
 induction k with
 |zero=>intro b y hy;cases hy
 |succ k ih=>
  intro b y hy
  cases hy with
  |head=>rfl
  |tail _ h=>exact ih _ _ h
def pw (size:Nat):Nat:=max 1 ((size+31)/32)
def sV (sd:Bytes) (at' a:Nat):Nat->Bytes
 |0=>[]
 |k+1=>sV sd at' a k++Cf sd at' a k
def IE:Bytes->Nat->Bytes
 |[],_=>[]
 |x::r,d=>UInt8.ofNat (x.toNat%2^(8-d))::r
theorem Ri: ∀(d:Fin 8) (x:Fin 256),mT .u8 (x.val:Int) (Int.fdiv 255 (2^d.val))=((UInt8.ofNat (x.val%2^(8-d.val))).toNat:Int):=by decide+kernel
theorem ny (c:UInt8) (r:Bytes):aH (c::r)= .v (.i .u8 (c.toNat:Int))::aH r:=rfl
def jG:Bytes->Bytes
 |[]=>[]
 |x::r=>if x=0 then jG r else x::r
def Gj (sd:Bytes) (at' a len:Nat):Bytes:=jG (IE ((sV sd at' a (pw ((len+7)/8))).take ((len+7)/8)) (8*((len+7)/8)-len))
theorem BC (h:1<=S) (x:UInt8) (r:Bytes) (d:Nat):IE (List.take S (x::r)) d=List.take S (UInt8.ofNat (x.toNat%2^(8-d))::r):=by
 obtain⟨S,rfl⟩: ∃m,S=m+1:=⟨S-1,oO⟩;rfl
theorem Mz {q:Bytes} (h:i<S) (hS:S<=q.length):(q.take S).drop i=q.getD i 0::(q.take S).drop (i+1):=by
 rw[jw (by rw[bL];omega),List.getElem_take,br,bw oO];rfl
theorem Ie (q:Bytes) (S i:Nat):List.take (S-i) (List.drop i (aH q))=aH ((q.take S).drop i):=by
 rw[aH,aH,uA,x7,tZ]
theorem yr (l:Bytes): ∀y∈aH l,y.isByte:=by
 intro y hy;obtain⟨c,_,rfl⟩:=bm.1 hy;exact oT
theorem Gk {at' a:Nat} (hv:vs.length<1000000) (hsd:sd.length<1000000) (ha:at'<4294967296) (ha2:a<4294967296) (hl0:0<len) (hl:len<100000):aE 243 [T vs sd at', .i .i64 a, .i .i64 len] (.s (Gj sd at' a len)):=by
 have hb:=yE vs sd at' a;have hit:=JD (vs:= .sl (vs.map .s)) (sd:=sd) (at':=at') (a:=a) (k:=pw ((len+7)/8)) hsd (by unfold pw;omega) ha ha2
 have hsz: ∀ _:True,IntKind.i64.wrap (((len:Int)+7).tdiv 8)=(((len+7)/8:Nat):Int):=by
  intro _;rw[Int.tdiv_eq_ediv_of_nonneg oO,IntWalk.i64_in _ oO];omega
 have hs1:1<=(len+7)/8/\(len+7)/8<=13000:=oO;have hlen: ∀b,(Cf sd at' a b).length=32:=fun b=>by unfold Cf Ns;rw[jl]
 have hcat: ∀k,(sV sd at' a k).length=32*k:=by
  intro k
  induction k with
  |zero=>rfl
  |succ k ih=>rw[sV,bT,ih,hlen];omega
 have hR: ∀k,k<pw ((len+7)/8)-> ¬(len+7)/8<=32*k\/k=0:=by intro k h;unfold pw at h;omega
 refine eW call243 func243 ?_;refine jm (hsz oT) @hb ?_;unfold Gj;generalize hS:(len+7)/8=S at*;refine Lt hit rfl ?_ ?_
 ·intro y hy;exact L8 _ _ _ _ _ y hy
 refine R7 (α:=Nat) (fun k=>match k with|0=>⟨[(7, .p 1005 0 0),(8, .p 1007 0 0),(2, .v (.i .i64 len))],[(1005,⟨0,[.v (.i .i64 S)],false,some 3⟩),(1007,⟨0,[.sn],false,some 196⟩)],1011⟩|k+1=>⟨[(7, .p 1005 0 0),(8, .p 1007 0 0),(2, .v (.i .i64 len))],[(1005,⟨0,[.v (.i .i64 S)],false,some 3⟩),(1007,⟨0,[.rs 1014 k 0 (32*(k+1)) 1],false,some 196⟩),(1014,⟨k,aH (sV sd at' a (k+1)),true,some 5⟩)],1020⟩) (fun xs k=>k<pw S/\xs=JB sd at' a k (pw S-k)) 0 ?_ ⟨by unfold pw;omega,rfl⟩ ?_ ?_ ?_
 ·intro k;cases k
  ·exact aA _
  ·show 1011<=1020;decide
 ·refine AS.Le.of oC ?_ ?_<;>simp[dC,dA,aP,ay,AV.bd,AV.bd.bdL]
 ·rintro k ⟨h1,h2⟩;obtain⟨m,hm⟩: ∃m,pw S-k=m+1:=⟨pw S-k-1,oO⟩;rw[hm]at h2;cases h2
 ·rintro y ys k ⟨h1,h2⟩ R hRR;obtain⟨m,hm⟩: ∃m,pw S-k=m+1:=⟨pw S-k-1,oO⟩;rw[hm]at h2;injection h2 with e1 e2
  subst e1 e2;have hkb:k<1000:=by unfold pw at h1;omega
  have hx:=hlen k;have hc:=hcat k;have ho:=hcat (k+1);have hc1:sV sd at' a k++Cf sd at' a k=sV sd at' a (k+1):=rfl;have hgo:k+1<pw S-> _:=fun h=>hRR (k+1) ⟨h,by rw[show pw S-(k+1)=m from by omega]⟩
  clear hRR hit hb hcat hlen
  by_cases hf:S<=32*(k+1)
  ·have hk:pw S=k+1:=by unfold pw at h1⊢;omega
   rw[hk];clear hgo hR;have hd1: ∀ _:True,(8*(S:Int)-len).toNat=8*S-len:=fun _=>oO
   have hd2:8*S-len<8:=oO;have hd3:(if 8*S-len<=8 then 8*S-len else 8)=8*S-len:=by rw[ah];omega
   have hmask:=fun x:UInt8=>Ri ⟨8*S-len,hd2⟩ ⟨x.toNat,x.toNat_lt⟩
   simp only at hmask;generalize hd:8*S-len=d at*;generalize hcc:sV sd at' a (k+1)=o at*;obtain⟨x0,r,rfl⟩: ∃x0 r,o=x0::r:=by
    cases o with
    |nil=>simp at ho
    |cons x0 r=>exact⟨_,_,rfl⟩
   cases k with
   |zero=>
    generalize Cf sd at' a 0=x at*;generalize sV sd at' a 0=c at*;obtain rfl:c=[]:=kY hc;obtain rfl:x=x0::r:=hc1;refine dI (aN @hx (aN @ny (aN (hd1 oT) (aN @hd3 @hmask)))) ?_;rw[BC hs1.1];simp only[<-ny];generalize hq:UInt8.ofNat (x0.toNat%2^(8-d))::r=q at*;have hql:q.length=32*(0+1):=by rw[<-hq];simpa using ho
    refine af (α:=Nat) (fun i=>S-i) (fun i=>⟨[(8, .p 1007 0 0)],[(1007,⟨0,[.rs 1014 0 i (S-i) 1],false,some 196⟩),(1014,⟨0,aH q,true,some 5⟩)],1037⟩) (fun i=>i<=S/\jG ((q.take S).drop i)=jG (q.take S)) 0 (fun _=>aA _) ⟨aI _,rfl⟩ ?_ ?_
    ·refine AS.Le.of oC ?_ ?_<;>simp[dC,dA,aP,ay,AV.bd,AV.bd.bdL,au]
    ·rintro i ⟨hi,hst⟩ R2 hR2;rw[<-hst]
     by_cases hlt:i<S
     ·have e1:=Mz (q:=q) hlt oO;have e2:=jO (l:=q) (i:=i) oO;have e3: ∀ _:True,((S-i:Nat):Int)=(S:Int)-i:=fun _=>oO
      have e4:=Ie q S i
      by_cases hz:q.getD i 0=0
      ·have hgo2:=hR2 (i+1) ⟨hlt,by rw[<-hst,e1,jG,ah hz]⟩ oO
       clear hR2;refine dI (aN @e2 @hz) ?_;refine hgo2 _ ?_;refine AS.Le.of oO ?_ ?_<;>simp[dC,dA,aP,ay,AV.bd,AV.bd.bdL,au,Nat.sub_sub]
      ·rw[e1,jG,ae hz,<-e1];have hz2: ∀ _:True,(((q.getD i 0).toNat:Int)==0)=false:=fun _=>by
        rw[fk];intro h;exact hz (kz.1 (by exact_mod_cast h))
       refine dI (aN @e2 (hz2 oT)) ?_;rw[e4];exact⟨⟨oO,yr _⟩,by rw[lK]⟩
     ·obtain rfl:i=S:=oO;refine wV ?_;rw[fC,List.take_zero,il (by rw[bL];omega)]
      exact⟨⟨oO,fun y hy=>by cases hy⟩,rfl⟩
   |succ k=>
    dsimp only;generalize Cf sd at' a (k+1)=x at*;generalize sV sd at' a (k+1)=c at*;have htk:List.take (32*(k+1)) (aH c)=aH c:=by rw[<-hc];exact jP _
    refine dI (aN @hx (aN @hc1 (aN @htk (aN @ny (aN (hd1 oT) (aN @hd3 @hmask)))))) ?_;rw[BC hs1.1];simp only[<-ny];generalize hq:UInt8.ofNat (x0.toNat%2^(8-d))::r=q at*;have hql:q.length=32*(k+1+1):=by rw[<-hq];simpa using ho
    refine af (α:=Nat) (fun i=>S-i) (fun i=>⟨[(8, .p 1007 0 0)],[(1007,⟨0,[.rs 1014 (k+1) i (S-i) 1],false,some 196⟩),(1014,⟨(k+1),aH q,true,some 5⟩)],1046⟩) (fun i=>i<=S/\jG ((q.take S).drop i)=jG (q.take S)) 0 (fun _=>aA _) ⟨aI _,rfl⟩ ?_ ?_
    ·refine AS.Le.of oC ?_ ?_<;>simp[dC,dA,aP,ay,AV.bd,AV.bd.bdL,au]
    ·rintro i ⟨hi,hst⟩ R2 hR2;rw[<-hst]
     by_cases hlt:i<S
     ·have e1:=Mz (q:=q) hlt oO;have e2:=jO (l:=q) (i:=i) oO;have e3: ∀ _:True,((S-i:Nat):Int)=(S:Int)-i:=fun _=>oO
      have e4:=Ie q S i
      by_cases hz:q.getD i 0=0
      ·have hgo2:=hR2 (i+1) ⟨hlt,by rw[<-hst,e1,jG,ah hz]⟩ oO
       clear hR2;refine dI (aN @e2 @hz) ?_;refine hgo2 _ ?_;refine AS.Le.of oO ?_ ?_<;>simp[dC,dA,aP,ay,AV.bd,AV.bd.bdL,au,Nat.sub_sub]
      ·rw[e1,jG,ae hz,<-e1];have hz2: ∀ _:True,(((q.getD i 0).toNat:Int)==0)=false:=fun _=>by
        rw[fk];intro h;exact hz (kz.1 (by exact_mod_cast h))
       refine dI (aN @e2 (hz2 oT)) ?_;rw[e4];exact⟨⟨oO,yr _⟩,by rw[lK]⟩
     ·obtain rfl:i=S:=oO;refine wV ?_;rw[fC,List.take_zero,il (by rw[bL];omega)]
      exact⟨⟨oO,fun y hy=>by cases hy⟩,rfl⟩
  ·have hgo:=hgo (by unfold pw;omega)
   cases k with
   |zero=>
    generalize Cf sd at' a 0=x at*;refine dI @hx ?_;refine hgo _ ?_;have hx1:sV sd at' a 1=x:=hc1.symm;refine AS.Le.of oC ?_ ?_<;>simp[dC,dA,aP,ay,AV.bd,AV.bd.bdL,hx1,au]
   |succ k=>
    have htk:List.take (32*(k+1)) (aH (sV sd at' a (k+1)))=aH (sV sd at' a (k+1)):=by rw[<-hc];exact jP _
    generalize Cf sd at' a (k+1)=x at*;repeat' first|simp only[go_sem,seval,hx,hc1]|refine oE ?_|apply xX<;>intro hc
    all_goals first
     |omega
     |skip
    refine hgo _ ?_;refine AS.Le.of oC ?_ ?_<;>simp[dC,dA,aP,ay,AV.bd,AV.bd.bdL,htk,kI,hc1,au];omega
theorem Af: ∀l:Bytes,(jG l).length<=l.length
 |[]=>aA _
 |x::r=>by
  rw[jG];split
  ·have:=Af r;rw[List.length_cons];omega
  ·exact aA _
theorem wI: ∀l:Bytes,((jG l).length==0||(jG l).headD 0 !=0)=true
 |[]=>rfl
 |x::r=>by
  rw[jG];split
  ·exact wI r
  ·rename_i h;simp[h]
theorem Kh (l:Bytes) (d:Nat):(IE l d).length=l.length:=by cases l<;>rfl
theorem yp (sd:Bytes) (at' a:Nat) (h:len<=1024):aa (Gj sd at' a len)=true:=by
 unfold aa;rw[ba];refine⟨aJ ?_,wI _⟩;have:=Af (IE ((sV sd at' a (pw ((len+7)/8))).take ((len+7)/8)) (8*((len+7)/8)-len));rw[Kh,bL]at this;unfold Gj;omega
def FJ (f:Nat->Bytes) (n a:Nat):Nat->Option Bytes
 |0=>none
 |k+1=>if num (f a)<n then some (f a)else FJ f n (a+1) k
def jd (vs:List Bytes) (sd:Bytes) (i:Nat) (n:Bytes):Except Int Bytes:=
 if i<vs.length then(if num n<=num (vs.getD i [])then .error 2 else .ok (vs.getD i []))
 else if sd=[]\/i=2147483647 then .error 14
 else match FJ (fun a=>Gj sd i a (c9 (num n))) (num n) 0 256 with
  |some x=> .ok x
  |none=> .error 14
def pS (vs:List Bytes) (sd:Bytes) (i:Nat):Except Int Bytes->PV
 | .ok x=> .tup [.s x,T vs sd (i+1:Nat),E 0]
 | .error e=> .tup [.s [],T [] [] 0,E e]
theorem Ej (hn:aa n=true):c9 (num n)<=1024:=by
 have h1:=cC n;have h2:n.length<=128:=by
  unfold aa at hn;rw[ba]at hn;exact of_decide_eq_true hn.1
 have h3:num n<2^1024:=bE h1 (by rw[show(2:Nat)^1024=256^128 by decide+kernel];exact dc oC h2)
 unfold c9;split
 ·omega
 ·rename_i h;have:=(xU h).2 h3;omega
theorem Mo (x y:Nat):decide (bc x y<0)=decide (x<y):=by
 have e:=yD x y;rw[eq_iff_iff]at e;rw[mD];omega
theorem SZ (x y:Nat):decide (bc x y>=0)= !decide (x<y):=by
 have e:=yD x y;rw[eq_iff_iff]at e
 by_cases h:x<y
 ·rw[aJ h,aG (fun g=>by have:=e.1 g;omega)];rfl
 ·rw[aG h,aJ (e.2 oO)];rfl
theorem yL (hv:vs.all aa=true) (hn:aa n=true) (h0:num n≠0) (hi:i<=2147483647) (hl:vs.length<1000000) (hsd:sd.length<1000000):aE 132 [T vs sd i, .s n] (pS vs sd i (jd vs sd i n)):=by
 by_cases hiv:i<vs.length
 ·have h:=QK sd hv hn hiv hl;unfold My at h;unfold jd;rw[ah hiv];split
  ·rename_i hle;rw[ah hle]at h;exact h
  ·rename_i hle;rw[ae hle]at h;exact h
 unfold jd;rw[ae hiv]
 by_cases hs:sd=[]\/i=2147483647
 ·rw[ah hs];have hnl: ∀ _:True,(([]:Bytes)==[])=true:=fun _=>rfl
  have h47: ∀ _:True,((2147483647:Int)==2147483647)=true:=fun _=>rfl
  rcases hs with rfl|rfl
  ·refine eW call132 func132 ?_;exact gi (hnl oT)
  ·cases hsb:sd==[]with
   |true=>
    refine eW call132 func132 ?_;exact gi @hsb
   |false=>
    refine eW call132 func132 ?_;exact gi (aN @hsb (h47 oT))
 rw[ae hs];have hs1:sd≠[]:=fun h=>hs (.inl h)
 have hs2:i≠2147483647:=fun h=>hs (.inr h)
 have hbl:=Ej hn;have hb0:0<c9 (num n):=by unfold c9;rw[ae h0];omega
 have hB:=wW hn;have hA:=fun a (ha:a<256)=>Gk (vs:=vs) (sd:=sd) (at':=i) (a:=a) (len:=c9 (num n)) hl hsd oO oO hb0 oO
 have hC:=fun a=>mK (Gj sd i a (c9 (num n))) n
 have hV:=fun a=>yp sd i a hbl
 obtain⟨r1,r2,r3,r4⟩:=R9 vs;have hsb:(sd==[])=false:=by rw[fk];exact hs1
 have hi47: ∀ _:True,((i:Int)==2147483647)=false:=fun _=>by rw[fk];omega
 generalize hf:(fun a=>Gj sd i a (c9 (num n)))=f
 have hA: ∀a:Nat,a<256->aE 243 [T vs sd i, .i .i64 a, .i .i64 (c9 (num n))] (.s (f a)):=by rw[<-hf];exact hA
 have hC: ∀a,aE 30 [.s (f a), .s n] (E (bc (num (f a)) (num n))):=by
  intro a;have h:=hC a;rw[hV,hn]at h;rw[<-hf];exact h
 refine eW call132 func132 ?_;refine dI (aN @hsb (hi47 oT)) ?_;refine⟨⟨fun x hx=>Cj hx,fun y hy=>NQ hy,by rw[mR];exact aA _⟩,?_⟩
 refine af (α:=Nat) (fun a=>256-a) (fun a=>⟨[(73, .v (.i .i64 a)),(1, .v (.s n)),(2, .p 1000 0 0),(5, .p 1002 0 0),(7, .p 1047 0 0)],[(1000,⟨0,[.v (.sl (vs.map .s)), .v (.s sd), .v (.i .i64 i)],false,none⟩),(1002,⟨0,[.sn, .v (.s []), .v (.i .i64 0)],false,some 37⟩),(1040,⟨0,List.map AV.v (vs.map .s),false,none⟩),(1047,⟨0,[.rs 1040 0 0 vs.length 1, .v (.s sd), .v (.i .i64 ((i:Int)+1))],false,some 37⟩)],1061⟩) (fun a=>a<=256/\FJ f (num n) a (256-a)=FJ f (num n) 0 256) 0 (fun _=>aA _) ⟨aI _,rfl⟩ ?_ ?_
 ·refine AS.Le.of oC ?_ ?_<;>simp[dC,dA,aP,ay,AV.bd,AV.bd.bdL,yO,r1,r3];rw[cl (by simp)]
 ·rintro a ⟨ha,hst⟩ R hR;rw[<-hst]
  by_cases hlt:a<256
  ·obtain⟨m,hm⟩: ∃m,256-a=m+1:=⟨255-a,oO⟩;have hAa:=hA a hlt;have hCa:=hC a;have hgo:=hR (a+1);rw[hm,FJ]
   by_cases hle:num (f a)<num n
   ·rw[ah hle];have hcm: ∀ _:True,decide (bc (num (f a)) (num n)<0)=true:=fun _=>by rw[Mo];exact aJ hle
    generalize bc (num (f a)) (num n)=cm at*;repeat' first|simp only[go_sem,seval,hcm oT,r1,r2,r3,r4,yO,fm]|refine cP hB ?_|refine cP hAa ?_|refine cP hCa ?_|refine oE ?_|apply xX<;>intro hc
    rfl
   ·rw[ae hle];have hgo:=hgo ⟨hlt,by rw[<-hst,hm,FJ,ae hle,show 256-(a+1)=m from by omega]⟩ oO
    have hcm: ∀ _:True,decide (bc (num (f a)) (num n)<0)=false:=fun _=>by rw[Mo];exact aG hle
    generalize bc (num (f a)) (num n)=cm at*;refine vZ (hcm oT) @hB @hAa @hCa oT ?_;refine hgo _ ?_;refine AS.Le.of oC ?_ ?_<;>simp[dC,dA,aP,ay,AV.bd,AV.bd.bdL]
  ·obtain rfl:a=256:=oO;exact z0
theorem Hh (hv:vs.all aa=true) (hn:aa n=true) (h0:n≠[]) (hi:i<=2147483647):vK vs i n=0:=by
 have h1:(vs.any fun x=> !aa x)=false:=by
  rw[fz];intro g;obtain⟨x,hx,h⟩:=List.any_eq_true.1 g;simp[bH.1 hv x hx]at h
 have h2:fQ vs i=true:=by
  unfold fQ;rw[h1,aJ (show(i:Int)>=0 by omega),aJ (show(i:Int)<=2147483647 by omega)];rfl
 simp[vK,h2,hn,h0]
theorem CO (hn:aa n=true) (h0:n≠[]):num n≠0:=fun h=>h0 ((tB hn).1 h)
theorem uG (hv:vs.all aa=true) (hn:aa n=true) (h0:n≠[]) (hi:i<=2147483647) (hl:vs.length<1000000) (hsd:sd.length<1000000):aE 122 [T vs sd i, .s n] (pS vs sd i (jd vs sd i n)):=by
 have h1:=tM vs sd i n oO;rw[Hh hv hn h0 hi]at h1;have h2:=yL (sd:=sd) hv hn (CO hn h0) hi hl hsd;generalize jd vs sd i n=r at*
 cases r with
 |ok x=>
  unfold pS at*;refine eW call122 func122 ?_;exact z2 @h1 @h2
 |error e=>
  unfold pS at*;refine eW call122 func122 ?_;exact z2 @h1 @h2
end Go.Proofs.Tryz
namespace Go.Proofs.Tryz
open Go Go.Dom
theorem jA:dL cT 2:=⟨fun _=>rfl,fun x y hy=>by obtain⟨n,a⟩:=x;simp[cT,PV.cells]at hy;rcases hy with rfl|rfl<;>rfl,fun h=>oO,fun _ x=>rfl⟩
theorem HL:aE 60 [.sl []] (.sl []):=by
 refine eW call60 func60 ?_;exact z0
theorem Jn {l:List (Bool×Bytes)} (h0:l≠[]) (hl:l.length<1000000):aE 325 [.sl (l.map cT)] (.sl (l.map cT)):=by
 obtain⟨x,r,rfl⟩: ∃x r,l=x::r:=by cases l with
  |nil=>exact aM rfl h0
  |cons a b=>exact⟨a,b,rfl⟩
 rw[bC];have k1:(cT x::r.map cT)=(x::r).map cT:=rfl;have k0:(r.map cT).length=r.length:=aC ..;refine eW call325 func325 ?_;refine dI @k0 ?_;have hrow:List.map AV.v ((cT x).cells++List.flatMap PV.cells (List.map cT r))=aX cT (x::r):=by
  rw[aX,eu,uu]
 have hL:((cT x).cells++List.flatMap PV.cells (List.map cT r)).length=(r.length+1)*2:=by
  have:=cj jA (x::r);rw[<-hrow,aC]at this;exact this
 have q1:List.take ((r.length+1)*2) (aX cT (x::r))=aX cT (x::r):=cq jA (x::r);have q2:=dQ jA (x::r);have q3:chunk 2 (r.length+1) ((x::r).flatMap fun x=>(cT x).cells)=(x::r).map cT:=cJ jA (x::r)
 have q4: ∀y∈aX cT (x::r),y.one=true:=fun y hy=>bH.1 q2 y hy
 rw[hrow];refine⟨⟨⟨jA.len x,fun y hy=>by obtain⟨z,-,rfl⟩:=bm.1 hy;exact jA.len z⟩,q4,by simp at hl;omega,by simp at hl;omega⟩,?_⟩
 simp only[hL,q1,q2,q3,ec,aA,and_self,ax,Option.map_some];exact⟨trivial,rfl⟩
def X0 (c sl:Bytes) (s:cU):PV:= .agg [.s c, .s sl, .sl (s.groups.map eB), .sl (s.vars.map cO), .sl (s.eqs.map dx.pv), .sl [], .sl [], .s []]
def fP (c:Bytes) (nv:Nat) (ch:Bytes) (rs:List (Bool×Bytes)) (gs:List Bytes) (ls:List (List (Bool×Bytes))):Int:=
 if !(aa ch&&rs.all cz&&ls.all (fun l=>l.all cz)&&gs.all aa)then 3 else if rs.length≠nv\/gs≠[]\/ls≠[]then 6 else if num c<=num ch then 2 else 0
def xz (ch:Bytes) (rs:List (Bool×Bytes)) (gs:List Bytes) (ls:List (List (Bool×Bytes))):PV:= .agg [.s ch, .sl (rs.map cT), .sl (gs.map .s), .sl (ls.map pY)]
theorem Cy {c sl:Bytes} (vc:aa c=true) (s:cU) (ch:Bytes) (rs:List (Bool×Bytes)) (gs:List Bytes) (ls:List (List (Bool×Bytes))) (h1:rs.length<1000000) (h2:gs.length<=1000) (h3:ls.length<=1000) (h4: ∀l∈ls,l.length<4611686018427387904):aE 322 [X0 c sl s,xz ch rs gs ls] (E (fP c s.vars.length ch rs gs ls)):=by
 have v1:=aT ch;have v2:=ED rs oO;have v3:=ou ls 413 [Xh] (fun l=> !l.all cz) oO fun l hl=>ED l (h4 l hl)
 rw[np]at v3;have v4:=nj gs _ _ oO MO;rw[np]at v4;have v5:=Zm 415 [.pt (X0 c sl s) 0];obtain⟨gq,vs,es⟩:=s;unfold pY at v2;simp only[X0,xz,fP]at v5⊢;have l1:(rs.map cT).length=rs.length:=aC ..;have l2:(vs.map cO).length=vs.length:=aC ..;have l3:(gs.map PV.s).length=gs.length:=aC ..;have l4:(ls.map pY).length=ls.length:=aC ..
 by_cases hok:(aa ch&&rs.all cz&&ls.all (fun l=>l.all cz)&&gs.all aa)=true
 ·rw[hok];simp only[ba]at hok;obtain⟨⟨⟨o1,o2⟩,o3⟩,o4⟩:=hok;rw[o1]at v1;rw[o2]at v2;rw[o3]at v3;rw[o4]at v4
  by_cases hm:rs.length≠vs.length\/gs≠[]\/ls≠[]
  ·simp only[bV,bu,aq,ah hm];have hm':rs.length≠vs.length\/(rs.length=vs.length/\gs.length≠0)\/(rs.length=vs.length/\gs.length=0/\ls.length≠0):=by
    rcases hm with h|h|h
    ·exact .inl h
    ·have:gs.length≠0:=fun h0=>h (gb.1 h0)
     omega
    ·have:ls.length≠0:=fun h0=>h (gb.1 h0)
     omega
   clear hm v5 o2 o3 o4 h4;rcases hm' with h|⟨h,h'⟩|⟨h,h',h''⟩
   all_goals (
   refine eW call322 func322 ?_;repeat' first|simp only[go_sem,seval,aU,l1,l2,l3,l4]|refine cP v1 ?_|refine cV v2 ?_|refine cV v3 ?_|refine cP v4 ?_|refine oE ?_|apply xX<;>intro hc
   try trivial)
   all_goals fail "a"
  ·simp only[bV,bu,aq,ae hm];have hm':rs.length=vs.length/\gs=[]/\ls=[]:=by
    refine⟨im fun h=>hm (.inl h),im fun h=>hm (.inr (.inl h)),im fun h=>hm (.inr (.inr h))⟩
   obtain⟨e1,e2,e3⟩:=hm';subst e2;subst e3;have cm:=sZ o1 vc;simp only[bR]at v3 v4;clear hm h4
   by_cases hge:num c<=num ch
   ·rw[ah hge];have h7: ∀ _:True,(0:Int)<=bc (num ch) (num c):=fun _=>fL.2 hge
    have h5: ∀ _:True,decide (bc (num ch) (num c)>=0)=true:=fun _=>aJ (h7 oT)
    generalize bc (num ch) (num c)=z at*;refine eW call322 func322 ?_;repeat' first|simp only[go_sem,seval,aU,l1,l2,h5 oT]|refine cP v1 ?_|refine cV v2 ?_|refine cV v3 ?_|refine cP v4 ?_|refine cP cm ?_|(refine ai ?_)|refine oE ?_|apply xX<;>intro hc
   ·rw[ae hge];have h7: ∀ _:True,¬(0:Int)<=bc (num ch) (num c):=fun _ h=>hge (fL.1 h)
    have h5: ∀ _:True,decide (bc (num ch) (num c)>=0)=false:=fun _=>aG (h7 oT)
    generalize bc (num ch) (num c)=z at*;refine eW call322 func322 ?_;repeat' first|simp only[go_sem,seval,aU,l1,l2,h5 oT]|refine cP v1 ?_|refine cV v2 ?_|refine cV v3 ?_|refine cP v4 ?_|refine cP cm ?_|refine cV v5 ?_|(refine ai ?_)|refine oE ?_|apply xX<;>intro hc
 ·have hf:(aa ch&&rs.all cz&&ls.all (fun l=>l.all cz)&&gs.all aa)=false:=by simpa using hok
  rw[hf];simp only[cv,ax];clear hok v5 h4;generalize aa ch=b1 at*;generalize rs.all cz=b2 at*;generalize (ls.all fun l=>l.all cz)=b3 at*
  generalize gs.all aa=b4 at*;cases b1
  ·refine eW call322 func322 ?_;repeat' first|simp only[go_sem,seval,aU,l1,l2,l3,l4]|refine cP v1 ?_|refine cV v2 ?_|refine cV v3 ?_|refine cP v4 ?_|refine oE ?_|apply xX<;>intro hc
  ·cases b2
   ·refine eW call322 func322 ?_;repeat' first|simp only[go_sem,seval,aU,l1,l2,l3,l4]|refine cP v1 ?_|refine cV v2 ?_|refine cV v3 ?_|refine cP v4 ?_|refine oE ?_|apply xX<;>intro hc
   ·cases b3
    ·refine eW call322 func322 ?_;repeat' first|simp only[go_sem,seval,aU,l1,l2,l3,l4]|refine cP v1 ?_|refine cV v2 ?_|refine cV v3 ?_|refine cP v4 ?_|refine oE ?_|apply xX<;>intro hc
    ·cases b4
     ·refine eW call322 func322 ?_;repeat' first|simp only[go_sem,seval,aU,l1,l2,l3,l4]|refine cP v1 ?_|refine cV v2 ?_|refine cV v3 ?_|refine cP v4 ?_|refine oE ?_|apply xX<;>intro hc
     ·exact aM hf (by simp)
end Go.Proofs.Tryz
namespace Go.Proofs.Tryz
open Go Go.Dom Go.Num
variable {vs:List Bytes}
theorem SW (m:Nat) (h:m<10):List.drop m (48::List.take m ([49,50,51,52,53,54,55,56,57]:Bytes))=[UInt8.ofNat (48+m)]:=by
 have:=UH ⟨m,h⟩;unfold iw at this;simp only at this;rw[ah h]at this;exact this
theorem KM (n:Nat) (hn:n<4294967296):aE 95 [.i .i64 (n:Int)] (.s (Lib.decDigits n)):=by
 induction n using Nat.strongRecOn with
 | _ n ih=>
 by_cases h:n<10
 ·have hb:=SW n h;rw[Lib.decDigits_one h];have t1: ∀ _:True,((n:Int)+1).toNat=n+1:=fun _=>oO
  refine eW call95 func95 ?_;repeat' first|simp only[go_sem,seval,t1 oT]|refine oE ?_|apply xX<;>intro hc
  all_goals first|omega|exact congrArg PV.s hb|skip
 ·have h1:=ih (n/10) oO oO;have hb:=SW (n%10) (aL _ oC);have t1: ∀ _:True,(((n%10:Nat):Int)+1).toNat=n%10+1:=fun _=>oO
  have l1:=wY (n:=n/10) oO;rw[Lib.decDigits,dif_neg h];refine eW call95 func95 ?_;refine jm (t1 oT) @h1 ?_;rw[hb];exact⟨by simp;omega,rfl,rfl⟩
theorem Gi {α:Type} (l:List α) (p:α->Bool):(l.any fun x=> !p x)= !l.all p:=by
 induction l with
 |nil=>rfl
 |cons x l ih=>rw[List.any_cons,List.all_cons,ih];cases p x<;>simp
theorem yU {a:Int} (h:fQ vs a=true):vs.all aa=true/\0<=a/\a<=2147483647:=by
 unfold fQ at h;rw[Gi,xO]at h;simp only[ba,cK]at h;exact⟨h.2,h.1.1,h.1.2⟩
theorem yT {i:Nat} (h:vs.all aa=true) (hi:i<=2147483647):fQ vs i=true:=by
 unfold fQ;rw[Gi,h,aJ (show(i:Int)>=0 by omega),aJ (show(i:Int)<=2147483647 by omega)];rfl
theorem Jo (l:List Bytes) (hl:l.length<1000000):aE 60 [.sl (l.map .s)] (.sl (l.map .s)):=by
 cases l with
 |nil=>exact HL
 |cons x r=>
  rw[bC];have k1:(PV.s x::r.map .s)=(x::r).map .s:=rfl;have k0:(r.map PV.s).length=r.length:=aC ..;refine eW call60 func60 ?_;refine dI @k0 ?_;obtain⟨-,r2,r3,-⟩:=R9 r;obtain⟨-,-,-,r4⟩:=R9 (x::r);rw[yO];refine⟨⟨fun x hx=>Cj hx,fun x hx=>bH.1 r2 x hx,by simp at hl;omega,by simp at hl;omega⟩,?_⟩
  simp only[aC,aA,r3,r2,fm,and_self,ax,Option.map_some];exact⟨trivial,congrArg PV.sl r4⟩
theorem Sd (v1 v2 v3:Value) (w:World):CallsD prog 263 #[v1,v2,v3] .returning w fun e u' w'=>e= .returned (.tuple #[])/\u'= .returning/\w'=w:=by
 refine callsD_of_wpS func263 rfl fun c₀ cs hu=> ?_
 apply wpS_seq;apply wpS_region;simp[wpOpsS,go_sem,recoverD,hu,Tryz.ntmps263,Exit.thenS];apply wpS_seq;apply wpS_region;simp[wpOpsS,go_sem,Exit.thenS];refine wpS_cond (t:=false) (by simp[Act.eval,Array.replicate]) ?_
 simp only[bu,aq];refine wpS_of_wp (wp_skip ?_);cases c₀;simp_all[bodyPostS,results,Tryz.results263]
noncomputable abbrev sw:Code:=Tryz.f154.body.getD .skip
theorem aat (a:Act) (w:World) (Q:Exit->Act->World->Prop) (hd:a.defers=[]) (hs:a.tmps.size=Tryz.f154.ntmps) (hQ: ∀a' d,a'.tmps.size=Tryz.f154.ntmps->(∀k,k≠56->a'.tmps.getD k undef=a.tmps.getD k undef)->a'.defers=[d]->Idle prog d->Q .normal a' w):(uQ (Gc 5 sw)).wp prog Q a w:=by
 have hmf: ∀(fn:Fn) (first cap:Array Value) (w:World),(Instr.makeFunc fn first cap).run prog w= .ok (.func fn first cap) w:=fun _ _ _ _=>rfl
 show(Code.region 6 _ false).wp prog Q a w;apply wp_region;simp[wpOps,go_sem,hd];have h10:56<a.tmps.size:=by rw[hs,Tryz.ntmps154];decide
 refine .inl ?_;refine .inl ?_;rw[ah h10];refine hQ {tmps:=a.tmps.setIfInBounds 56 (.func (.func 263) #[] #[a.tmps[8]?.getD undef,a.tmps[9]?.getD undef,a.tmps[10]?.getD undef]),defers:=[⟨.fn (.func 263) #[a.tmps[8]?.getD undef,a.tmps[9]?.getD undef,a.tmps[10]?.getD undef], #[]⟩]} ⟨.fn (.func 263) #[a.tmps[8]?.getD undef,a.tmps[9]?.getD undef,a.tmps[10]?.getD undef], #[]⟩ ?_ ?_ ?_ ⟨.func 263, #[a.tmps[8]?.getD undef,a.tmps[9]?.getD undef,a.tmps[10]?.getD undef],263, #[a.tmps[8]?.getD undef,a.tmps[9]?.getD undef,a.tmps[10]?.getD undef],rfl,fun w=>⟨?_,Sd _ _ _ w⟩⟩
 ·simp[hs]
 ·intro k hk;simp[xR (nZ hk)]
 ·rfl
 ·simp[invoke,go_sem]
theorem Sc:Tryz.f154.body=some (Sk [uQ (Gc 0 sw),uQ (Gc 1 sw),uQ (Gc 2 sw),uQ (Gc 3 sw),uQ (Gc 4 sw)] (.seq (uQ (Gc 5 sw)) (Gc 6 sw))):=by kernel_rfl
theorem N3 {nt:Nat} {c:Code} {sc:SC} {r:List Code} {s s1 s2:AS} (h:CW prog (fun e x=>e= .normal/\s1.Le x) sc [] s) (hr:TU prog nt r s1 s2) (hc:nB prog We nt c=some sc:=by cbv) (hng:sc.eL=true:=by exact rfl):TU prog nt (c::r) s s2:= .cons (nh.1 _ _ _ hc) hng (CW.start h) hr
theorem Sb (vs:List Bytes) (sd:Bytes) (a:Int) (hl:vs.length<1000000):aE 154 [C0, .sl [], .s [],T vs sd a] (.tup [.agg [.sl [], .sl [], .sl [], .sl []],T vs sd a,E 0]):=by
 have hc:=Jo vs hl;have ho:aE 168 [C0] (.s []):=by
  refine eW call168 func168 ?_;exact SA
 refine rv.NI (sl:=56) (pre:=[uQ (Gc 0 sw),uQ (Gc 1 sw),uQ (Gc 2 sw),uQ (Gc 3 sw),uQ (Gc 4 sw)]) (cD:=uQ (Gc 5 sw)) (c2:=Gc 6 sw) (s2:=⟨[(1, .v (.sl [])),(8, .p 1002 0 0),(9, .p 1003 0 0),(10, .p 1004 0 0),(11, .v (.sl [])),(12, .p 1014 0 0)],[(1002,⟨0,[.sn, .sn, .sn, .sn],false,some 138⟩),(1003,⟨0,[.sn, .v (.s []), .v (.i .i64 0)],false,some 37⟩),(1004,⟨0,[.v (.i .i64 0)],false,some 48⟩),(1014,⟨0,[.v (.sl []), .v (.sl []), .v (.s []), .v (.sl (vs.map .s)), .v (.s sd), .v (.i .i64 a), .v (.sl []), .rs 1020 0 0 0 1, .rs 1024 0 0 0 1, .rs 1028 0 0 0 1],false,none⟩),(1020,⟨0,[],false,none⟩),(1024,⟨0,[],false,none⟩),(1028,⟨0,[],false,none⟩)],1042⟩) mixed call154 func154 Sc rfl (nh.1 _ _ _ (by cbv)) (nh.2 _ _ (by cbv)) aat (bQ rfl) rfl (N3 (s1:=⟨[(1, .v (.sl [])),(2, .v (.s [])),(4, .p 1000 0 0),(7, .p 1001 0 0),(8, .p 1002 0 0),(9, .p 1003 0 0),(10, .p 1004 0 0)],[(1000,⟨0,[.v (.sl []), .v (.sl [])],false,none⟩),(1001,⟨0,[.v (.sl (vs.map .s)), .v (.s sd), .v (.i .i64 a)],false,none⟩),(1002,⟨0,[.sn, .sn, .sn, .sn],false,some 138⟩),(1003,⟨0,[.sn, .v (.s []), .v (.i .i64 0)],false,some 37⟩),(1004,⟨0,[.v (.i .i64 0)],false,some 48⟩)],1005⟩) ?_ (N3 (s1:=⟨[(1, .v (.sl [])),(2, .v (.s [])),(4, .p 1000 0 0),(7, .p 1001 0 0),(8, .p 1002 0 0),(9, .p 1003 0 0),(10, .p 1004 0 0),(11, .v (.sl []))],[(1000,⟨0,[.v (.sl []), .v (.sl [])],false,none⟩),(1001,⟨0,[.v (.sl (vs.map .s)), .v (.s sd), .v (.i .i64 a)],false,none⟩),(1002,⟨0,[.sn, .sn, .sn, .sn],false,some 138⟩),(1003,⟨0,[.sn, .v (.s []), .v (.i .i64 0)],false,some 37⟩),(1004,⟨0,[.v (.i .i64 0)],false,some 48⟩)],1009⟩) ?_ (N3 (s1:=⟨[(1, .v (.sl [])),(2, .v (.s [])),(4, .p 1000 0 0),(7, .p 1001 0 0),(8, .p 1002 0 0),(9, .p 1003 0 0),(10, .p 1004 0 0),(11, .v (.sl [])),(12, .p 1014 0 0)],[(1000,⟨0,[.v (.sl []), .v (.sl [])],false,none⟩),(1001,⟨0,[.v (.sl (vs.map .s)), .v (.s sd), .v (.i .i64 a)],false,none⟩),(1002,⟨0,[.sn, .sn, .sn, .sn],false,some 138⟩),(1003,⟨0,[.sn, .v (.s []), .v (.i .i64 0)],false,some 37⟩),(1004,⟨0,[.v (.i .i64 0)],false,some 48⟩),(1014,⟨0,[.v (.sl []), .v (.sl []), .v (.s []), .v (.sl (vs.map .s)), .v (.s sd), .v (.i .i64 a), .sn, .sn, .sn, .sn],false,none⟩)],1016⟩) ?_ ?_))) (CW.start ?_)
 ·simp only[nY,List.mapIdx_nil];refine wV ?_;exact lE
 ·refine wV ?_;exact lE
 ·refine Zj @ho ?_;exact lE
 ·refine N3 (s1:=⟨[(1, .v (.sl [])),(8, .p 1002 0 0),(9, .p 1003 0 0),(10, .p 1004 0 0),(11, .v (.sl [])),(12, .p 1014 0 0)],[(1002,⟨0,[.sn, .sn, .sn, .sn],false,some 138⟩),(1003,⟨0,[.sn, .v (.s []), .v (.i .i64 0)],false,some 37⟩),(1004,⟨0,[.v (.i .i64 0)],false,some 48⟩),(1014,⟨0,[.v (.sl []), .v (.sl []), .v (.s []), .v (.sl (vs.map .s)), .v (.s sd), .v (.i .i64 a), .v (.sl []), .rs 1020 0 0 0 1, .rs 1024 0 0 0 1, .rs 1028 0 0 0 1],false,none⟩),(1020,⟨0,[],false,none⟩),(1024,⟨0,[],false,none⟩),(1028,⟨0,[],false,none⟩)],1033⟩) ?_ (N3 ?_ (.nil _))
  ·refine wV ?_;exact lE
  ·refine wV ?_;exact lE
 ·exact WC @hc
theorem Ma (l:List Bytes) (hl:l.length<1000000):aE 165 [.sl (l.map .s)] (.b (l.all aa)):=by
 have h1: ∀x,aE 282 [PV.s x] (.b (!aa x)):=fun x=>by
  have hv:=aT x;generalize aa x=b at*;refine eW call282 func282 ?_;exact z1 @hv
 have hc:=nj l _ _ oO h1;rw[np]at hc;generalize l.all aa=b at*;refine eW call165 func165 ?_;repeat' first|simp only[go_sem,seval,xO]|refine cP hc ?_|refine oE ?_|apply xX<;>intro hc
theorem EJ (vs:List Bytes) (sd:Bytes) (a:Int) (hl:vs.length<1000000):aE 152 [T vs sd a] (.b (fQ vs a)):=by
 have h:=Ma vs hl;unfold fQ;rw[np,xO];generalize vs.all aa=b at*;refine eW call152 func152 ?_;repeat' first|simp only[go_sem,seval]|refine cP h ?_|refine oE ?_|apply xX<;>intro hc
 all_goals simp_all
 all_goals (intros;omega)
theorem UY:aE 151 [.sl []] (.b true):=by
 have hi:aE 250 [.sl [], .fn (.func 260)] (E (-1)):=by
  refine eW call250 func250 ?_;exact SA
 have h:aE 140 [.sl [], .fn (.func 260)] (.b false):=by
  refine eW call140 func140 ?_;exact z1 @hi
 refine eW call151 func151 ?_;exact z1 @h
theorem Wd:aE 254 [F0, .sl []] (.sl []):=by
 refine eW call254 func254 ?_;exact SA
theorem yn:aE 147 [F0, .sl []] (.tup [.sl [],E 0]):=by
 refine eW call147 func147 ?_;exact z2 @Ii @Wd
theorem PD:aE 262 [F0, .sl []] (.tup [.sl [],E 0]):=by
 refine eW call262 func262 ?_;exact z1 @yn
theorem Q2:aE 153 [C0, .sl []] (.tup [.sl [],E 0]):=by
 refine eW call153 func153 ?_;repeat' first|simp only[go_sem,seval]|(refine ai ?_)|(refine lf [1011] PD rfl rfl rfl ?_)|refine oE ?_|apply xX<;>intro hc
abbrev BS0:PV:= .agg [.sl [], .sl [], .sl [], .sl []]
theorem PB {a:Int} (sd:Bytes) (hg:fQ vs a=true) (hl:vs.length<1000000):aE 72 [C0, .sl [],T vs sd a] (.tup [BS0,T vs sd a,E 0]):=by
 have h:=EJ vs sd a hl;rw[hg]at h;have hr:=Sb vs sd a hl;refine eW call72 func72 ?_;exact z7 @HV @UY @h @Q2 @hr oT oT
