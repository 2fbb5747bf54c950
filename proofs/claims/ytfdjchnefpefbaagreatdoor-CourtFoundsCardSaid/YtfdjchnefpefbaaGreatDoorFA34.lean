/-
  Part of the proof, part FA34. Own work.
-/
import Derived.Test.YtfdjchnefpefbaaGreatDoorFA33
set_option linter.all false
namespace Go.Proofs.YtfdjchnefpefbaaGreatDoor
open Go Go.Dom Go.Num
set_option maxRecDepth 100000
set_option maxHeartbeats 16000000
theorem wZ (vs:List Bytes) (sd:Bytes) (at':Int) (a:Nat):aA Tryz.prog 369 [T vs sd at', .i .i64 a] (.fc 441 [] [.pt (T vs sd at') 0, .pt (.agg [.i .i64 a]) 0]):=by
 refine eW Tryz.call369 Tryz.func369 ?_;exact z0
theorem Kq (sd:Bytes) (at' a:Nat): ∀(k b:Nat),∀y∈H6 sd at' a b k,y.length=1:=by
 intro k
 induction k with
 |zero=>intro b y hy;cases hy
 |succ k ih=>
  intro b y hy
  cases hy with
  |head=>rfl
  |tail _ h=>exact ih _ _ h
def iJ (size:Nat):Nat:=max 1 ((size+31)/32)
def mF (sd:Bytes) (at' a:Nat):Nat->Bytes
 |0=>[]
 |k+1=>mF sd at' a k++qY sd at' a k
def G7:Bytes->Nat->Bytes
 |[],_=>[]
 |x::r,d=>UInt8.ofNat (x.toNat%2^(8-d))::r
theorem PJ: ∀(d:Fin 8) (x:Fin 256),lk .u8 (x.val:Int) (Int.fdiv 255 (2^d.val))=((UInt8.ofNat (x.val%2^(8-d.val))).toNat:Int):=by decide+kernel
theorem l7 (c:UInt8) (r:Bytes):ay (c::r)= .v (.i .u8 (c.toNat:Int))::ay r:=rfl
def fD:Bytes->Bytes
 |[]=>[]
 |x::r=>if x=0 then fD r else x::r
def wL (sd:Bytes) (at' a len:Nat):Bytes:=fD (G7 ((mF sd at' a (iJ ((len+7)/8))).take ((len+7)/8)) (8*((len+7)/8)-len))
theorem tK {S:Nat} (h:1<=S) (x:UInt8) (r:Bytes) (d:Nat):G7 (List.take S (x::r)) d=List.take S (UInt8.ofNat (x.toNat%2^(8-d))::r):=by
 obtain⟨S,rfl⟩: ∃m,S=m+1:=⟨S-1,by omega⟩
 rfl
theorem KT {q:Bytes} {S i:Nat} (h:i<S) (hS:S<=q.length):(q.take S).drop i=q.getD i 0::(q.take S).drop (i+1):=by
 rw[iq (by rw[bU];omega),List.getElem_take,aR,bJ oO];rfl
theorem GF (q:Bytes) (S i:Nat):List.take (S-i) (List.drop i (ay q))=ay ((q.take S).drop i):=by
 rw[ay,ay,sR,pP,sF]
theorem qn (l:Bytes): ∀y∈ay l,y.isByte:=by
 intro y hy;obtain⟨c,_,rfl⟩:=bw.1 hy;exact trivial
theorem EF {vs:List Bytes} {sd:Bytes} {at' a len:Nat} (hv:vs.length<1000000) (hsd:sd.length<1000000) (ha:at'<4294967296) (ha2:a<4294967296) (hl0:0<len) (hl:len<100000):aA Tryz.prog 252 [T vs sd at', .i .i64 a, .i .i64 len] (.s (wL sd at' a len)):=by
 have hb:=wZ vs sd at' a;have hit:=H7 (vs:= .sl (vs.map .s)) (sd:=sd) (at':=at') (a:=a) (k:=iJ ((len+7)/8)) hsd (by unfold iJ;omega) ha ha2
 have hsz: ∀ _:True,IntKind.i64.wrap (((len:Int)+7).tdiv 8)=(((len+7)/8:Nat):Int):=by
  intro _;rw[HO oO,IntWalk.i64_in _ oO];omega
 have hs1:1<=(len+7)/8/\(len+7)/8<=13000:=by omega
 have hlen: ∀b,(qY sd at' a b).length=32:=fun b=>by unfold qY Bn;rw[eT]
 have hcat: ∀k,(mF sd at' a k).length=32*k:=by
  intro k
  induction k with
  |zero=>rfl
  |succ k ih=>rw[mF,bm,ih,hlen];omega
 have hR: ∀k,k<iJ ((len+7)/8)-> ¬(len+7)/8<=32*k\/k=0:=by intro k h;unfold iJ at h;omega
 refine eW Tryz.call252 Tryz.func252 ?_;refine o8 (hsz trivial) @hb ?_;unfold wL;generalize hS:(len+7)/8=S at*;refine JP hit rfl ?_ ?_
 ·intro y hy;exact Kq _ _ _ _ _ y hy
 refine Qt (α:=Nat) (fun k=>match k with|0=>⟨[(7, .p 1005 0 0),(8, .p 1007 0 0),(2, .v (.i .i64 len))],[(1005,⟨0,[.v (.i .i64 S)],false,some 3⟩),(1007,⟨0,[.sn],false,some 218⟩)],1011⟩|k+1=>⟨[(7, .p 1005 0 0),(8, .p 1007 0 0),(2, .v (.i .i64 len))],[(1005,⟨0,[.v (.i .i64 S)],false,some 3⟩),(1007,⟨0,[.rs 1014 k 0 (32*(k+1)) 1],false,some 218⟩),(1014,⟨k,ay (mF sd at' a (k+1)),true,some 5⟩)],1020⟩) (fun xs k=>k<iJ S/\xs=H6 sd at' a k (iJ S-k)) 0 ?_ ⟨by unfold iJ;omega,rfl⟩ ?_ ?_ ?_
 ·intro k;cases k
  ·exact an _
  ·show 1011<=1020;decide
 ·refine AS.Le.of oC ?_ ?_<;>simp[dM,dL,aK,aj,AV.bd,AV.bd.bdL]
 ·rintro k ⟨h1,h2⟩;obtain⟨m,hm⟩: ∃m,iJ S-k=m+1:=⟨iJ S-k-1,by omega⟩
  rw[hm]at h2;cases h2
 ·rintro y ys k ⟨h1,h2⟩ R hRR;obtain⟨m,hm⟩: ∃m,iJ S-k=m+1:=⟨iJ S-k-1,by omega⟩
  rw[hm]at h2;injection h2 with e1 e2
  subst e1 e2;have hkb:k<1000:=by unfold iJ at h1;omega
  have hx:=hlen k;have hc:=hcat k;have ho:=hcat (k+1);have hc1:mF sd at' a k++qY sd at' a k=mF sd at' a (k+1):=rfl;have hgo:k+1<iJ S-> _:=fun h=>hRR (k+1) ⟨h,by rw[show iJ S-(k+1)=m from by omega]⟩
  clear hRR hit hb hcat hlen
  by_cases hf:S<=32*(k+1)
  ·have hk:iJ S=k+1:=by unfold iJ at h1⊢;omega
   rw[hk];clear hgo hR;have hd1: ∀ _:True,(8*(S:Int)-len).toNat=8*S-len:=fun _=>by omega
   have hd2:8*S-len<8:=by omega
   have hd3:(if 8*S-len<=8 then 8*S-len else 8)=8*S-len:=by rw[if_pos];omega
   have hmask:=fun x:UInt8=>PJ ⟨8*S-len,hd2⟩ ⟨x.toNat,x.toNat_lt⟩
   simp only at hmask;generalize hd:8*S-len=d at*;generalize hcc:mF sd at' a (k+1)=o at*;obtain⟨x0,r,rfl⟩: ∃x0 r,o=x0::r:=by
    cases o with
    |nil=>simp at ho
    |cons x0 r=>exact⟨_,_,rfl⟩
   cases k with
   |zero=>
    generalize qY sd at' a 0=x at*;generalize mF sd at' a 0=c at*;obtain rfl:c=[]:=jO hc;obtain rfl:x=x0::r:=hc1;repeat' first|simp only[go_sem,seval,hx,l7,hd1 trivial,hd3,hmask]|refine sB ?_|apply xX<;>intro hc|refine⟨oD,?_⟩|exact oD|fail
    rw[tK hs1.1];simp only[<-l7];generalize hq:UInt8.ofNat (x0.toNat%2^(8-d))::r=q at*;have hql:q.length=32*(0+1):=by rw[<-hq];simpa using ho
    refine af (α:=Nat) (fun i=>S-i) (fun i=>⟨[(8, .p 1007 0 0)],[(1007,⟨0,[.rs 1014 0 i (S-i) 1],false,some 218⟩),(1014,⟨0,ay q,true,some 5⟩)],1037⟩) (fun i=>i<=S/\fD ((q.take S).drop i)=fD (q.take S)) 0 (fun _=>an _) ⟨aH _,rfl⟩ ?_ ?_
    ·refine AS.Le.of oC ?_ ?_<;>simp[dM,dL,aK,aj,AV.bd,AV.bd.bdL,ak]
    ·rintro i ⟨hi,hst⟩ R2 hR2;rw[<-hst]
     by_cases hlt:i<S
     ·have e1:=KT (q:=q) hlt oO;have e2:=iU (l:=q) (i:=i) oO;have e3: ∀ _:True,((S-i:Nat):Int)=(S:Int)-i:=fun _=>by omega
      have e4:=GF q S i
      by_cases hz:q.getD i 0=0
      ·have hgo2:=hR2 (i+1) ⟨hlt,by rw[<-hst,e1,fD,if_pos hz]⟩ oO
       clear hR2;refine fx (aN @e2 @hz) ?_;refine hgo2 _ ?_;refine AS.Le.of oO ?_ ?_<;>simp[dM,dL,aK,aj,AV.bd,AV.bd.bdL,ak,Nat.sub_sub]
      ·rw[e1,fD,if_neg hz,<-e1];have hz2: ∀ _:True,(((q.getD i 0).toNat:Int)==0)=false:=fun _=>by
        rw[beq_eq_false_iff_ne];intro h;exact hz (iP.1 (by exact_mod_cast h))
       refine fx (aN @e2 (hz2 trivial)) ?_;rw[e4];exact⟨⟨by omega,qn _⟩,by rw[iT]⟩
     ·obtain rfl:i=S:=by omega
      refine wC ?_;rw[eE,List.take_zero,iO (by rw[bU];omega)]
      exact⟨⟨by omega,fun y hy=>by cases hy⟩,rfl⟩
   |succ k=>
    dsimp only;generalize qY sd at' a (k+1)=x at*;generalize mF sd at' a (k+1)=c at*;have htk:List.take (32*(k+1)) (ay c)=ay c:=by rw[<-hc];exact iV _
    repeat' first|simp only[go_sem,seval,hx,hc1,htk,l7,hd1 trivial,hd3,hmask]|refine sB ?_|apply xX<;>intro hc|refine⟨oD,?_⟩|exact oD|fail
    rw[tK hs1.1];simp only[<-l7];generalize hq:UInt8.ofNat (x0.toNat%2^(8-d))::r=q at*;have hql:q.length=32*(k+1+1):=by rw[<-hq];simpa using ho
    refine af (α:=Nat) (fun i=>S-i) (fun i=>⟨[(8, .p 1007 0 0)],[(1007,⟨0,[.rs 1014 (k+1) i (S-i) 1],false,some 218⟩),(1014,⟨(k+1),ay q,true,some 5⟩)],1046⟩) (fun i=>i<=S/\fD ((q.take S).drop i)=fD (q.take S)) 0 (fun _=>an _) ⟨aH _,rfl⟩ ?_ ?_
    ·refine AS.Le.of oC ?_ ?_<;>simp[dM,dL,aK,aj,AV.bd,AV.bd.bdL,ak]
    ·rintro i ⟨hi,hst⟩ R2 hR2;rw[<-hst]
     by_cases hlt:i<S
     ·have e1:=KT (q:=q) hlt oO;have e2:=iU (l:=q) (i:=i) oO;have e3: ∀ _:True,((S-i:Nat):Int)=(S:Int)-i:=fun _=>by omega
      have e4:=GF q S i
      by_cases hz:q.getD i 0=0
      ·have hgo2:=hR2 (i+1) ⟨hlt,by rw[<-hst,e1,fD,if_pos hz]⟩ oO
       clear hR2;refine fx (aN @e2 @hz) ?_;refine hgo2 _ ?_;refine AS.Le.of oO ?_ ?_<;>simp[dM,dL,aK,aj,AV.bd,AV.bd.bdL,ak,Nat.sub_sub]
      ·rw[e1,fD,if_neg hz,<-e1];have hz2: ∀ _:True,(((q.getD i 0).toNat:Int)==0)=false:=fun _=>by
        rw[beq_eq_false_iff_ne];intro h;exact hz (iP.1 (by exact_mod_cast h))
       refine fx (aN @e2 (hz2 trivial)) ?_;rw[e4];exact⟨⟨by omega,qn _⟩,by rw[iT]⟩
     ·obtain rfl:i=S:=by omega
      refine wC ?_;rw[eE,List.take_zero,iO (by rw[bU];omega)]
      exact⟨⟨by omega,fun y hy=>by cases hy⟩,rfl⟩
  ·have hgo:=hgo (by unfold iJ;omega)
   cases k with
   |zero=>
    generalize qY sd at' a 0=x at*;refine fx @hx ?_;refine hgo _ ?_;have hx1:mF sd at' a 1=x:=hc1.symm;refine AS.Le.of oC ?_ ?_<;>simp[dM,dL,aK,aj,AV.bd,AV.bd.bdL,hx1,ak]
   |succ k=>
    have htk:List.take (32*(k+1)) (ay (mF sd at' a (k+1)))=ay (mF sd at' a (k+1)):=by rw[<-hc];exact iV _
    generalize qY sd at' a (k+1)=x at*;repeat' first|simp only[go_sem,seval,hx,hc1]|refine sB ?_|apply xX<;>intro hc|refine⟨oD,?_⟩|exact oD|fail
    all_goals first
     |omega
     |skip
    refine hgo _ ?_;refine AS.Le.of oC ?_ ?_<;>simp[dM,dL,aK,aj,AV.bd,AV.bd.bdL,htk,jw,hc1,ak];omega
theorem yE: ∀l:Bytes,(fD l).length<=l.length
 |[]=>an _
 |x::r=>by
  rw[fD];split
  ·have:=yE r;rw[List.length_cons];omega
  ·exact an _
theorem uH: ∀l:Bytes,((fD l).length==0||(fD l).headD 0 !=0)=true
 |[]=>rfl
 |x::r=>by
  rw[fD];split
  ·exact uH r
  ·rename_i h;simp[h]
theorem IP (l:Bytes) (d:Nat):(G7 l d).length=l.length:=by cases l<;>rfl
theorem qk (sd:Bytes) (at' a:Nat) {len:Nat} (h:len<=1024):aa (wL sd at' a len)=true:=by
 unfold aa;rw[aY];refine⟨decide_eq_true ?_,uH _⟩;have:=yE (G7 ((mF sd at' a (iJ ((len+7)/8))).take ((len+7)/8)) (8*((len+7)/8)-len));rw[IP,bU]at this;unfold wL;omega
def pU (f:Nat->Bytes) (n a:Nat):Nat->Option Bytes
 |0=>none
 |k+1=>if num (f a)<n then some (f a)else pU f n (a+1) k
def fA (vs:List Bytes) (sd:Bytes) (i:Nat) (n:Bytes):Except Int Bytes:=
 if i<vs.length then(if num n<=num (vs.getD i [])then .error 2 else .ok (vs.getD i []))
 else if sd=[]\/i=2147483647 then .error 14
 else match pU (fun a=>wL sd i a (b9 (num n))) (num n) 0 256 with
  |some x=> .ok x
  |none=> .error 14
def ic (vs:List Bytes) (sd:Bytes) (i:Nat):Except Int Bytes->PV
 | .ok x=> .tup [.s x,T vs sd (i+1:Nat),E 0]
 | .error e=> .tup [.s [],T [] [] 0,E e]
theorem wQ {n:Bytes} (hn:aa n=true):b9 (num n)<=1024:=by
 have h1:=cb n;have h2:n.length<=128:=by
  unfold aa at hn;rw[aY]at hn;exact of_decide_eq_true hn.1
 have h3:num n<2^1024:=bj h1 (by rw[show(2:Nat)^1024=256^128 by decide+kernel];exact cI oC h2)
 unfold b9;split
 ·omega
 ·rename_i h;have:=(wj h).2 h3;omega
theorem tu (x y:Nat):decide (aU x y<0)=decide (x<y):=by
 have e:=wY x y;rw[eq_iff_iff]at e;rw[decide_eq_decide];omega
theorem Po (x y:Nat):decide (aU x y>=0)= !decide (x<y):=by
 have e:=wY x y;rw[eq_iff_iff]at e
 by_cases h:x<y
 ·rw[decide_eq_true h,decide_eq_false (fun g=>by have:=e.1 g;omega)];rfl
 ·rw[decide_eq_false h,decide_eq_true (e.2 oO)];rfl
theorem xg {vs:List Bytes} {sd:Bytes} {i:Nat} {n:Bytes} (hv:vs.all aa=true) (hn:aa n=true) (h0:num n≠0) (hi:i<=2147483647) (hl:vs.length<1000000) (hsd:sd.length<1000000):aA Tryz.prog 143 [T vs sd i, .s n] (ic vs sd i (fA vs sd i n)):=by
 by_cases hiv:i<vs.length
 ·have h:=O6 sd hv hn hiv hl;unfold KS at h;unfold fA;rw[if_pos hiv];split
  ·rename_i hle;rw[if_pos hle]at h;exact h
  ·rename_i hle;rw[if_neg hle]at h;exact h
 unfold fA;rw[if_neg hiv]
 by_cases hs:sd=[]\/i=2147483647
 ·rw[if_pos hs];have hnl: ∀ _:True,(([]:Bytes)==[])=true:=fun _=>rfl
  have h47: ∀ _:True,((2147483647:Int)==2147483647)=true:=fun _=>rfl
  rcases hs with rfl|rfl
  ·refine eW Tryz.call143 Tryz.func143 ?_;exact lQ (hnl trivial)
  ·cases hsb:sd==[]with
   |true=>
    refine eW Tryz.call143 Tryz.func143 ?_;exact lQ @hsb
   |false=>
    refine eW Tryz.call143 Tryz.func143 ?_;exact lQ (aN @hsb (h47 trivial))
 rw[if_neg hs];have hs1:sd≠[]:=fun h=>hs (.inl h)
 have hs2:i≠2147483647:=fun h=>hs (.inr h)
 have hbl:=wQ hn;have hb0:0<b9 (num n):=by unfold b9;rw[if_neg h0];omega
 have hB:=u5 hn;have hA:=fun a (ha:a<256)=>EF (vs:=vs) (sd:=sd) (at':=i) (a:=a) (len:=b9 (num n)) hl hsd oO oO hb0 oO
 have hC:=fun a=>kX (wL sd i a (b9 (num n))) n
 have hV:=fun a=>qk sd i a hbl
 obtain⟨r1,r2,r3,r4⟩:=MO vs;have hsb:(sd==[])=false:=by rw[beq_eq_false_iff_ne];exact hs1
 have hi47: ∀ _:True,((i:Int)==2147483647)=false:=fun _=>by rw[beq_eq_false_iff_ne];omega
 generalize hf:(fun a=>wL sd i a (b9 (num n)))=f
 have hA: ∀a:Nat,a<256->aA Tryz.prog 252 [T vs sd i, .i .i64 a, .i .i64 (b9 (num n))] (.s (f a)):=by rw[<-hf];exact hA
 have hC: ∀a,aA Tryz.prog 44 [.s (f a), .s n] (E (aU (num (f a)) (num n))):=by
  intro a;have h:=hC a;rw[hV,hn]at h;rw[<-hf];exact h
 refine eW Tryz.call143 Tryz.func143 ?_;refine fx (aN @hsb (hi47 trivial)) ?_;refine⟨⟨fun x hx=>kE hx,fun y hy=>tS hy,by rw[lh];exact an _⟩,?_⟩
 refine af (α:=Nat) (fun a=>256-a) (fun a=>⟨[(73, .v (.i .i64 a)),(1, .v (.s n)),(2, .p 1000 0 0),(5, .p 1002 0 0),(7, .p 1047 0 0)],[(1000,⟨0,[.v (.sl (vs.map .s)), .v (.s sd), .v (.i .i64 i)],false,none⟩),(1002,⟨0,[.sn, .v (.s []), .v (.i .i64 0)],false,some 29⟩),(1040,⟨0,List.map AV.v (vs.map .s),false,none⟩),(1047,⟨0,[.rs 1040 0 0 vs.length 1, .v (.s sd), .v (.i .i64 ((i:Int)+1))],false,some 29⟩)],1061⟩) (fun a=>a<=256/\pU f (num n) a (256-a)=pU f (num n) 0 256) 0 (fun _=>an _) ⟨aH _,rfl⟩ ?_ ?_
 ·refine AS.Le.of oC ?_ ?_<;>simp[dM,dL,aK,aj,AV.bd,AV.bd.bdL,oF,r1,r3];rw[cd (by simp)]
 ·rintro a ⟨ha,hst⟩ R hR;rw[<-hst]
  by_cases hlt:a<256
  ·obtain⟨m,hm⟩: ∃m,256-a=m+1:=⟨255-a,by omega⟩
   have hAa:=hA a hlt;have hCa:=hC a;have hgo:=hR (a+1);rw[hm,pU]
   by_cases hle:num (f a)<num n
   ·rw[if_pos hle];have hcm: ∀ _:True,decide (aU (num (f a)) (num n)<0)=true:=fun _=>by rw[tu];exact decide_eq_true hle
    generalize aU (num (f a)) (num n)=cm at*;repeat' first|simp only[go_sem,seval,hcm trivial,r1,r2,r3,r4,oF,eJ]|refine cP hB ?_|refine cP hAa ?_|refine cP hCa ?_|refine sB ?_|apply xX<;>intro hc|refine⟨oD,?_⟩|exact oD|fail
    rfl
   ·rw[if_neg hle];have hgo:=hgo ⟨hlt,by rw[<-hst,hm,pU,if_neg hle,show 256-(a+1)=m from by omega]⟩ oO
    have hcm: ∀ _:True,decide (aU (num (f a)) (num n)<0)=false:=fun _=>by rw[tu];exact decide_eq_false hle
    generalize aU (num (f a)) (num n)=cm at*;refine JK (hcm trivial) @hB @hAa @hCa ?_;refine hgo _ ?_;refine AS.Le.of oC ?_ ?_<;>simp[dM,dL,aK,aj,AV.bd,AV.bd.bdL]
  ·obtain rfl:a=256:=by omega
   exact z0
theorem FG {vs:List Bytes} {i:Nat} {n:Bytes} (hv:vs.all aa=true) (hn:aa n=true) (h0:n≠[]) (hi:i<=2147483647):uc vs i n=0:=by
 have h1:(vs.any fun x=> !aa x)=false:=by
  rw[eZ];intro g;obtain⟨x,hx,h⟩:=List.any_eq_true.1 g;simp[bz.1 hv x hx]at h
 have h2:eD vs i=true:=by
  unfold eD;rw[h1,decide_eq_true (show(i:Int)>=0 by omega),decide_eq_true (show(i:Int)<=2147483647 by omega)];rfl
 simp[uc,h2,hn,h0]
theorem xY {n:Bytes} (hn:aa n=true) (h0:n≠[]):num n≠0:=fun h=>h0 ((rI hn).1 h)
theorem sV {vs:List Bytes} {sd:Bytes} {i:Nat} {n:Bytes} (hv:vs.all aa=true) (hn:aa n=true) (h0:n≠[]) (hi:i<=2147483647) (hl:vs.length<1000000) (hsd:sd.length<1000000):aA Tryz.prog 76 [T vs sd i, .s n] (ic vs sd i (fA vs sd i n)):=by
 have h1:=rU vs sd i n oO;rw[FG hv hn h0 hi]at h1;have h2:=xg (sd:=sd) hv hn (xY hn h0) hi hl hsd;generalize fA vs sd i n=r at*
 cases r with
 |ok x=>
  unfold ic at*;refine eW Tryz.call76 Tryz.func76 ?_;exact z2 @h1 @h2
 |error e=>
  unfold ic at*;refine eW Tryz.call76 Tryz.func76 ?_;exact z2 @h1 @h2
theorem Rf (m:Nat) (h:m<10):List.drop m (48::List.take m ([49,50,51,52,53,54,55,56,57]:Bytes))=[UInt8.ofNat (48+m)]:=by
 have:=Yg ⟨m,h⟩;unfold mH at this;simp only at this;rw[if_pos h]at this;exact this
theorem tW (n:Nat) (hn:n<4294967296):aA Tryz.prog 121 [.i .i64 (n:Int)] (.s (Lib.decDigits n)):=by
 induction n using Nat.strongRecOn with
 | _ n ih=>
 by_cases h:n<10
 ·have hb:=Rf n h;rw[Lib.decDigits_one h];have t1: ∀ _:True,((n:Int)+1).toNat=n+1:=fun _=>by omega
  refine eW Tryz.call121 Tryz.func121 ?_;repeat' first|simp only[go_sem,seval,t1 trivial]|refine sB ?_|apply xX<;>intro hc|refine⟨oD,?_⟩|exact oD|fail
  all_goals first|omega|exact congrArg PV.s hb|skip
 ·have h1:=ih (n/10) oO oO;have hb:=Rf (n%10) (aD _ oC);have t1: ∀ _:True,(((n%10:Nat):Int)+1).toNat=n%10+1:=fun _=>by omega
  have l1:=nC (n:=n/10) oO;rw[Lib.decDigits,dif_neg h];refine eW Tryz.call121 Tryz.func121 ?_;refine o8 (t1 trivial) @h1 ?_;rw[hb];exact⟨by simp;omega,rfl,rfl⟩
theorem AA {α:Type} (l:List α) (p:α->Bool):(l.any fun x=> !p x)= !l.all p:=by
 induction l with
 |nil=>rfl
 |cons x l ih=>rw[List.any_cons,List.all_cons,ih];cases p x<;>simp
theorem rz {vs:List Bytes} {a:Int} (h:eD vs a=true):vs.all aa=true/\0<=a/\a<=2147483647:=by
 unfold eD at h;rw[AA,nW]at h;simp only[aY,decide_eq_true_eq]at h;exact⟨h.2,h.1.1,h.1.2⟩
theorem oG {vs:List Bytes} {i:Nat} (h:vs.all aa=true) (hi:i<=2147483647):eD vs i=true:=by
 unfold eD;rw[AA,h,decide_eq_true (show(i:Int)>=0 by omega),decide_eq_true (show(i:Int)<=2147483647 by omega)];rfl
def si (k:Bytes) (c:UInt8) (i:Nat):Bytes:=(List.range 64).map fun j=>if j<i then k.getD j 0^^^c else 0
theorem o6 (k:Bytes) (c:UInt8) (i:Nat):(si k c i).length=64:=by simp[si]
theorem NL (k:Bytes) (c:UInt8):si k c 64=oo k c:=by
 unfold si oo jt;refine ir ?_;intro j hj;rw[cM]at hj;rw[if_pos hj,if_pos hj]
theorem NM {k:Bytes} {c:UInt8} {i:Nat} (h:i<64):(si k c i).set i (k.getD i 0^^^c)=si k c (i+1):=by
 apply pI
 ·simp[si]
 ·intro n h1 h2;rw[Cq];simp only[si,B4,Cf]
  by_cases hn:i=n
  ·subst hn;simp
  ·rw[if_neg hn];have:(n<i)=(n<i+1):=by simp;omega
   simp only[this]
theorem yP (k:Bytes) (c:UInt8):(oo k c).length=64:=dC k c 64
theorem Q7 (l:Bytes) {o:Nat} (c:UInt8) (h:o<l.length):(ay l).take o++[.v (.i .u8 (c.toNat:Int))]++(ay l).drop (o+1)=ay (l.set o c):=by rw[eU];exact Ku l c h
theorem Ev (k:Bytes) (c:UInt8):aA Tryz.prog 443 [.s k, .i .u8 (c.toNat:Int)] (.s (oo k c)):=by
 have z:ay (si k c 0)=List.replicate 64 (.v (.i .u8 0)):=rfl;refine eW Tryz.call443 Tryz.func443 ?_;refine uZ ?_;refine af (α:=Nat) (fun i=>64-i) (fun i=>⟨[(0, .v (.s k)),(1, .v (.i .u8 (c.toNat:Int))),(5, .rs 1001 0 0 64 1),(6,E' i)],[(1001,⟨0,ay (si k c i),false,none⟩)],_⟩) (fun i=>i<=64) 0 (fun _=>an _) (aH _) ?_ ?_
 ·rw[z];exact lE
 ·intro i hi R hR
  by_cases hlt:i<64
  ·have hgo:=hR (i+1) oO oO;rw[<-NM hlt]at hgo;have b1:=Q7 (si k c i) (o:=i) c (by rw[o6];exact hlt)
   have b2:=Q7 ((si k c i).set i c) (o:=i) (k.getD i 0^^^c) (by rw[fU,o6];exact hlt)
   rw[wk]at b2;have g3:=NK (k.getD i 0) c
   by_cases hik:i<k.length
   ·repeat' first|simp only[go_sem,seval,b1,b2,g3,o6,fU]|refine sB ?_|apply xX<;>intro hc|refine⟨oD,?_⟩|exact oD|fail
    refine hgo _ ?_;exact lE
   ·have e0:k.getD i 0=0:=by rw[aR,kd oO];rfl
    rw[e0,UInt8.zero_xor]at hgo;exact u4 (aN @b1 @o6) @hgo
  ·obtain rfl:i=64:=by omega
   have t1:List.take 64 (ay (si k c 64))=ay (si k c 64):=cd (by rw[iC,o6];exact an _)
   refine fx @t1 ?_;rw[NL];exact⟨⟨by rw[yP];exact an _,qn _⟩,by rw[iT]⟩
theorem Jj (l:Bytes) (hl:l.length<1000000):aA Tryz.prog 372 [.s l] (.s (fD l)):=by
 refine eW Tryz.call372 Tryz.func372 ?_;refine uZ ?_;refine af (α:=Bytes) (fun x=>x.length) (fun x=>⟨[(0, .v (.s x))],[],_⟩) (fun x=>x.length<1000000/\fD x=fD l) l (fun _=>an _) ⟨hl,rfl⟩ ?_ ?_
 ·exact lE
 ·rintro x ⟨hx,he⟩ R hR;rw[<-he]
  cases x with
  |nil=>
   exact z0
  |cons y r=>
   have hgo:=hR r;simp only[fD]
   by_cases hy:y=0
   ·rw[if_pos hy];simp only[fD,if_pos hy]at he;have hg2:=hgo ⟨by simp at hx;omega,he⟩ (by simp)
    clear hgo hR;subst hy;exact zg0 @hg2
   ·rw[if_neg hy];have hz: ∀ _:True,((y.toNat:Int)==0)=false:=fun _=>by
     rw[beq_eq_false_iff_ne];intro h;exact hy (iP.1 (by exact_mod_cast h))
    clear hgo hR;exact lQ (hz trivial)
theorem Qo {k s:Bytes} (hk:k.length<1000000) (hs:s.length<1000000):aA Tryz.prog 371 [.s k, .s s] (.s (Bn k s)):=by
 have h1:=Ev (oK k) 92;have h2:=Ev (oK k) 54;have h3:=BA (s:=oo (oK k) 54++s) (by rw[bm];have:=dC (oK k) 54 64;unfold oo;omega)
 have h4:=BA (s:=oo (oK k) 92++lD (oo (oK k) 54++s)) (by rw[bm,eT];have:=dC (oK k) 92 64;unfold oo;omega)
 have g1:((92:UInt8).toNat:Int)=92:=rfl;have g2:((54:UInt8).toNat:Int)=54:=rfl;rw[g1]at h1;rw[g2]at h2;have hz:=BA (s:=k) oO;unfold Bn;unfold oK at*
 by_cases hl:k.length>64
 ·rw[if_pos hl]at*;refine eW Tryz.call371 Tryz.func371 ?_;repeat' first|simp only[go_sem,seval,yP,eT]|refine cP hz ?_|refine cP h1 ?_|refine cP h2 ?_|refine cP h3 ?_|refine cP h4 ?_|refine sB ?_|apply xX<;>intro hc|refine⟨oD,?_⟩|exact oD|fail
  all_goals rfl
 ·rw[if_neg hl]at*;refine eW Tryz.call371 Tryz.func371 ?_;repeat' first|simp only[go_sem,seval,yP,eT]|refine cP h1 ?_|refine cP h2 ?_|refine cP h3 ?_|refine cP h4 ?_|refine sB ?_|apply xX<;>intro hc|refine⟨oD,?_⟩|exact oD|fail
  all_goals rfl
end Go.Proofs.YtfdjchnefpefbaaGreatDoor
