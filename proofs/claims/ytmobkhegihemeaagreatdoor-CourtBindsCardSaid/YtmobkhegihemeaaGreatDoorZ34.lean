/-
  Part of the proof, part Z34. Own work.
-/
import Derived.Test.YtmobkhegihemeaaGreatDoorZ28
set_option linter.all false
namespace Go.Proofs.YtmobkhegihemeaaGreatDoor
open Go Go.Dom Go.Num
set_option maxRecDepth 100000
set_option maxHeartbeats 16000000
theorem rC (vs:List Bytes) (sd:Bytes) (at':Int) (a:Nat):aA Tryz.prog 247 [T vs sd at', .i .i64 a] (.fc 313 [] [.pt (T vs sd at') 0, .pt (.agg [.i .i64 a]) 0]):=by
 refine eW Tryz.call247 Tryz.func247 ?_;repeat' first|simp only[go_sem,seval]|refine sB ?_|(first|apply pX|apply bX)<;>intro hc|refine⟨oD,?_⟩|exact oD|fail
theorem Gt (sd:Bytes) (at' a:Nat): ∀(k b:Nat),∀y∈DE sd at' a b k,y.length=1:=by
 intro k
 induction k with
 |zero=>intro b y hy;cases hy
 |succ k ih=>
  intro b y hy
  cases hy with
  |head=>rfl
  |tail _ h=>exact ih _ _ h
def jA (size:Nat):Nat:=max 1 ((size+31)/32)
def lJ (sd:Bytes) (at' a:Nat):Nat→Bytes
 |0=>[]
 |k+1=>lJ sd at' a k++ug sd at' a k
def Am:Bytes→Nat→Bytes
 |[],_=>[]
 |x::r,d=>UInt8.ofNat (x.toNat%2^(8-d))::r
theorem I7: ∀(d:Fin 8) (x:Fin 256),ia .u8 (x.val:Int) (Int.fdiv 255 (2^d.val))=((UInt8.ofNat (x.val%2^(8-d.val))).toNat:Int):=by decide+kernel
theorem iL (c:UInt8) (r:Bytes):ay (c::r)= .v (.i .u8 (c.toNat:Int))::ay r:=rfl
def eK:Bytes→Bytes
 |[]=>[]
 |x::r=>if x=0 then eK r else x::r
def yI (sd:Bytes) (at' a len:Nat):Bytes:=eK (Am ((lJ sd at' a (jA ((len+7)/8))).take ((len+7)/8)) (8*((len+7)/8)-len))
theorem s9 {S:Nat} (h:1≤S) (x:UInt8) (r:Bytes) (d:Nat):Am (List.take S (x::r)) d=List.take S (UInt8.ofNat (x.toNat%2^(8-d))::r):=by
 obtain⟨S,rfl⟩: ∃m,S=m+1:=⟨S-1,by omega⟩
 rfl
theorem GY {q:Bytes} {S i:Nat} (h:i<S) (hS:S≤q.length):(q.take S).drop i=q.getD i 0::(q.take S).drop (i+1):=by
 rw[List.drop_eq_getElem_cons (by rw[List.length_take];omega),List.getElem_take,List.getD_eq_getElem?_getD,List.getElem?_eq_getElem (by omega)];rfl
theorem BB (q:Bytes) (S i:Nat):List.take (S-i) (List.drop i (ay q))=ay ((q.take S).drop i):=by
 rw[ay,ay,List.map_drop,List.map_take,List.drop_take]
theorem qK (l:Bytes): ∀y∈ay l,y.isByte:=by
 intro y hy;obtain⟨c,_,rfl⟩:=List.mem_map.1 hy;exact trivial
theorem Ad {vs:List Bytes} {sd:Bytes} {at' a len:Nat} (hv:vs.length<1000000) (hsd:sd.length<1000000) (ha:at'<4294967296) (ha2:a<4294967296) (hl0:0<len) (hl:len<100000):aA Tryz.prog 166 [T vs sd at', .i .i64 a, .i .i64 len] (.s (yI sd at' a len)):=by
 have hb:=rC vs sd at' a;have hit:=BW (vs:= .sl (vs.map .s)) (sd:=sd) (at':=at') (a:=a) (k:=jA ((len+7)/8)) hsd (by unfold jA;omega) ha ha2
 have hsz: ∀ _:True,IntKind.i64.wrap (((len:Int)+7).tdiv 8)=(((len+7)/8:Nat):Int):=by
  intro _;rw[Int.tdiv_eq_ediv_of_nonneg (by omega),IntWalk.i64_in _ (by omega)];omega
 have hs1:1≤(len+7)/8∧(len+7)/8≤13000:=by omega
 have hlen: ∀b,(ug sd at' a b).length=32:=fun b=>by unfold ug D4;rw[eC]
 have hcat: ∀k,(lJ sd at' a k).length=32*k:=by
  intro k
  induction k with
  |zero=>rfl
  |succ k ih=>rw[lJ,List.length_append,ih,hlen];omega
 have hR: ∀k,k<jA ((len+7)/8)→ ¬(len+7)/8≤32*k∨k=0:=by intro k h;unfold jA at h;omega
 refine eW Tryz.call166 Tryz.func166 ?_;repeat' first|simp only[go_sem,seval,hsz trivial]|refine cP hb ?_|refine sB ?_|(first|apply pX|apply bX)<;>intro hc|refine⟨oD,?_⟩|exact oD|fail
 unfold yI;generalize hS:(len+7)/8=S at*;refine Fq hit rfl ?_ ?_
 ·intro y hy;exact Gt _ _ _ _ _ y hy
 refine Jn (α:=Nat) (fun k=>match k with|0=>⟨[(7, .p 1005 0 0),(8, .p 1007 0 0),(2, .v (.i .i64 len))],[(1005,⟨0,[.v (.i .i64 S)],false,some 3⟩),(1007,⟨0,[.sn],false,some 140⟩)],1011⟩|k+1=>⟨[(7, .p 1005 0 0),(8, .p 1007 0 0),(2, .v (.i .i64 len))],[(1005,⟨0,[.v (.i .i64 S)],false,some 3⟩),(1007,⟨0,[.rs 1014 k 0 (32*(k+1)) 1],false,some 140⟩),(1014,⟨k,ay (lJ sd at' a (k+1)),true,some 5⟩)],1020⟩) (fun xs k=>k<jA S∧xs=DE sd at' a k (jA S-k)) 0 ?_ ⟨by unfold jA;omega,rfl⟩ ?_ ?_ ?_
 ·intro k;cases k
  ·exact Nat.le_refl _
  ·show 1011≤1020;decide
 ·refine AS.Le.of (by decide) ?_ ?_<;>simp[bz,bA,aD,ak,AV.bd,AV.bd.bdL]
 ·rintro k ⟨h1,h2⟩;obtain⟨m,hm⟩: ∃m,jA S-k=m+1:=⟨jA S-k-1,by omega⟩
  rw[hm]at h2;cases h2
 ·rintro y ys k ⟨h1,h2⟩ R hRR;obtain⟨m,hm⟩: ∃m,jA S-k=m+1:=⟨jA S-k-1,by omega⟩
  rw[hm]at h2;injection h2 with e1 e2
  subst e1 e2;have hkb:k<1000:=by unfold jA at h1;omega
  have hx:=hlen k;have hc:=hcat k;have ho:=hcat (k+1);have hc1:lJ sd at' a k++ug sd at' a k=lJ sd at' a (k+1):=rfl;have hgo:k+1<jA S→ _:=fun h=>hRR (k+1) ⟨h,by rw[show jA S-(k+1)=m from by omega]⟩
  clear hRR hit hb hcat hlen
  by_cases hf:S≤32*(k+1)
  ·have hk:jA S=k+1:=by unfold jA at h1⊢;omega
   rw[hk];clear hgo hR;have hd1: ∀ _:True,(8*(S:Int)-len).toNat=8*S-len:=fun _=>by omega
   have hd2:8*S-len<8:=by omega
   have hd3:(if 8*S-len≤8 then 8*S-len else 8)=8*S-len:=by rw[if_pos];omega
   have hmask:=fun x:UInt8=>I7 ⟨8*S-len,hd2⟩ ⟨x.toNat,x.toNat_lt⟩
   simp only at hmask;generalize hd:8*S-len=d at*;generalize hcc:lJ sd at' a (k+1)=o at*;obtain⟨x0,r,rfl⟩: ∃x0 r,o=x0::r:=by
    cases o with
    |nil=>simp at ho
    |cons x0 r=>exact⟨_,_,rfl⟩
   cases k with
   |zero=>
    generalize ug sd at' a 0=x at*;generalize lJ sd at' a 0=c at*;obtain rfl:c=[]:=List.eq_nil_of_length_eq_zero hc;obtain rfl:x=x0::r:=hc1;repeat' first|simp only[go_sem,seval,hx,iL,hd1 trivial,hd3,hmask]|refine sB ?_|(first|apply pX|apply bX)<;>intro hc|refine⟨oD,?_⟩|exact oD|fail
    rw[s9 hs1.1];simp only[←iL];generalize hq:UInt8.ofNat (x0.toNat%2^(8-d))::r=q at*;have hql:q.length=32*(0+1):=by rw[←hq];simpa using ho
    refine ai (α:=Nat) (fun i=>S-i) (fun i=>⟨[(8, .p 1007 0 0)],[(1007,⟨0,[.rs 1014 0 i (S-i) 1],false,some 140⟩),(1014,⟨0,ay q,true,some 5⟩)],1037⟩) (fun i=>i≤S∧eK ((q.take S).drop i)=eK (q.take S)) 0 (fun _=>Nat.le_refl _) ⟨Nat.zero_le _,rfl⟩ ?_ ?_
    ·refine AS.Le.of (by decide) ?_ ?_<;>simp[bz,bA,aD,ak,AV.bd,AV.bd.bdL,ah]
    ·rintro i ⟨hi,hst⟩ R2 hR2;rw[←hst]
     by_cases hlt:i<S
     ·have e1:=GY (q:=q) hlt (by omega)
      have e2:=ff (l:=q) (i:=i) (by omega)
      have e3: ∀ _:True,((S-i:Nat):Int)=(S:Int)-i:=fun _=>by omega
      have e4:=BB q S i
      by_cases hz:q.getD i 0=0
      ·have hgo2:=hR2 (i+1) ⟨hlt,by rw[←hst,e1,eK,if_pos hz]⟩ (by omega)
       clear hR2;repeat' first|simp only[go_sem,seval,e2,hz]|refine sB ?_|(first|apply pX|apply bX)<;>intro hc|refine⟨oD,?_⟩|exact oD|fail
       refine hgo2 _ ?_;refine AS.Le.of (by omega) ?_ ?_<;>simp[bz,bA,aD,ak,AV.bd,AV.bd.bdL,ah,Nat.sub_sub]
      ·rw[e1,eK,if_neg hz,←e1];have hz2: ∀ _:True,(((q.getD i 0).toNat:Int)==0)=false:=fun _=>by
        rw[beq_eq_false_iff_ne];intro h;exact hz (UInt8.toNat_inj.1 (by exact_mod_cast h))
       repeat' first|simp only[go_sem,seval,e2,hz2 trivial]|refine sB ?_|(first|apply pX|apply bX)<;>intro hc|refine⟨oD,?_⟩|exact oD|fail
       rw[e4];exact⟨⟨by omega,qK _⟩,by rw[gD]⟩
     ·obtain rfl:i=S:=by omega
      repeat' first|simp only[go_sem,seval]|refine sB ?_|(first|apply pX|apply bX)<;>intro hc|refine⟨oD,?_⟩|exact oD|fail
      rw[Nat.sub_self,List.take_zero,List.drop_of_length_le (by rw[List.length_take];omega)]
      exact⟨⟨by omega,fun y hy=>by cases hy⟩,rfl⟩
   |succ k=>
    dsimp only;generalize ug sd at' a (k+1)=x at*;generalize lJ sd at' a (k+1)=c at*;have htk:List.take (32*(k+1)) (ay c)=ay c:=by rw[←hc];exact e9 _
    repeat' first|simp only[go_sem,seval,hx,hc1,htk,iL,hd1 trivial,hd3,hmask]|refine sB ?_|(first|apply pX|apply bX)<;>intro hc|refine⟨oD,?_⟩|exact oD|fail
    rw[s9 hs1.1];simp only[←iL];generalize hq:UInt8.ofNat (x0.toNat%2^(8-d))::r=q at*;have hql:q.length=32*(k+1+1):=by rw[←hq];simpa using ho
    refine ai (α:=Nat) (fun i=>S-i) (fun i=>⟨[(8, .p 1007 0 0)],[(1007,⟨0,[.rs 1014 (k+1) i (S-i) 1],false,some 140⟩),(1014,⟨(k+1),ay q,true,some 5⟩)],1046⟩) (fun i=>i≤S∧eK ((q.take S).drop i)=eK (q.take S)) 0 (fun _=>Nat.le_refl _) ⟨Nat.zero_le _,rfl⟩ ?_ ?_
    ·refine AS.Le.of (by decide) ?_ ?_<;>simp[bz,bA,aD,ak,AV.bd,AV.bd.bdL,ah]
    ·rintro i ⟨hi,hst⟩ R2 hR2;rw[←hst]
     by_cases hlt:i<S
     ·have e1:=GY (q:=q) hlt (by omega)
      have e2:=ff (l:=q) (i:=i) (by omega)
      have e3: ∀ _:True,((S-i:Nat):Int)=(S:Int)-i:=fun _=>by omega
      have e4:=BB q S i
      by_cases hz:q.getD i 0=0
      ·have hgo2:=hR2 (i+1) ⟨hlt,by rw[←hst,e1,eK,if_pos hz]⟩ (by omega)
       clear hR2;repeat' first|simp only[go_sem,seval,e2,hz]|refine sB ?_|(first|apply pX|apply bX)<;>intro hc|refine⟨oD,?_⟩|exact oD|fail
       refine hgo2 _ ?_;refine AS.Le.of (by omega) ?_ ?_<;>simp[bz,bA,aD,ak,AV.bd,AV.bd.bdL,ah,Nat.sub_sub]
      ·rw[e1,eK,if_neg hz,←e1];have hz2: ∀ _:True,(((q.getD i 0).toNat:Int)==0)=false:=fun _=>by
        rw[beq_eq_false_iff_ne];intro h;exact hz (UInt8.toNat_inj.1 (by exact_mod_cast h))
       repeat' first|simp only[go_sem,seval,e2,hz2 trivial]|refine sB ?_|(first|apply pX|apply bX)<;>intro hc|refine⟨oD,?_⟩|exact oD|fail
       rw[e4];exact⟨⟨by omega,qK _⟩,by rw[gD]⟩
     ·obtain rfl:i=S:=by omega
      repeat' first|simp only[go_sem,seval]|refine sB ?_|(first|apply pX|apply bX)<;>intro hc|refine⟨oD,?_⟩|exact oD|fail
      rw[Nat.sub_self,List.take_zero,List.drop_of_length_le (by rw[List.length_take];omega)]
      exact⟨⟨by omega,fun y hy=>by cases hy⟩,rfl⟩
  ·have hgo:=hgo (by unfold jA;omega)
   cases k with
   |zero=>
    generalize ug sd at' a 0=x at*;repeat' first|simp only[go_sem,seval,hx]|refine sB ?_|(first|apply pX|apply bX)<;>intro hc|refine⟨oD,?_⟩|exact oD|fail
    refine hgo _ ?_;have hx1:lJ sd at' a 1=x:=hc1.symm;refine AS.Le.of (by decide) ?_ ?_<;>simp[bz,bA,aD,ak,AV.bd,AV.bd.bdL,hx1,ah]
   |succ k=>
    have htk:List.take (32*(k+1)) (ay (lJ sd at' a (k+1)))=ay (lJ sd at' a (k+1)):=by rw[←hc];exact e9 _
    generalize ug sd at' a (k+1)=x at*;repeat' first|simp only[go_sem,seval,hx,hc1]|refine sB ?_|(first|apply pX|apply bX)<;>intro hc|refine⟨oD,?_⟩|exact oD|fail
    all_goals first
     |omega
     |skip
    refine hgo _ ?_;refine AS.Le.of (by decide) ?_ ?_<;>simp[bz,bA,aD,ak,AV.bd,AV.bd.bdL,htk,fF,hc1,ah]
    omega
theorem pJ: ∀l:Bytes,(eK l).length≤l.length
 |[]=>Nat.le_refl _
 |x::r=>by
  rw[eK];split
  ·have:=pJ r;rw[List.length_cons];omega
  ·exact Nat.le_refl _
theorem oJ: ∀l:Bytes,((eK l).length==0||(eK l).headD 0 !=0)=true
 |[]=>rfl
 |x::r=>by
  rw[eK];split
  ·exact oJ r
  ·rename_i h;simp[h]
theorem CE (l:Bytes) (d:Nat):(Am l d).length=l.length:=by cases l<;>rfl
theorem qA (sd:Bytes) (at' a:Nat) {len:Nat} (h:len≤1024):aa (yI sd at' a len)=true:=by
 unfold aa;rw[Bool.and_eq_true];refine⟨decide_eq_true ?_,oJ _⟩;have:=pJ (Am ((lJ sd at' a (jA ((len+7)/8))).take ((len+7)/8)) (8*((len+7)/8)-len));rw[CE,List.length_take]at this;unfold yI;omega
def xw (f:Nat→Bytes) (n a:Nat):Nat→Option Bytes
 |0=>none
 |k+1=>if num (f a)<n then some (f a)else xw f n (a+1) k
def eF (vs:List Bytes) (sd:Bytes) (i:Nat) (n:Bytes):Except Int Bytes:=
 if i<vs.length then(if num n≤num (vs.getD i [])then .error 2 else .ok (vs.getD i []))
 else if sd=[]∨i=2147483647 then .error 14
 else match xw (fun a=>yI sd i a (a9 (num n))) (num n) 0 256 with
  |some x=> .ok x
  |none=> .error 14
def jI (vs:List Bytes) (sd:Bytes) (i:Nat):Except Int Bytes→PV
 | .ok x=> .tup [.s x,T vs sd (i+1:Nat),E 0]
 | .error e=> .tup [.s [],T [] [] 0,E e]
theorem wq {n:Bytes} (hn:aa n=true):a9 (num n)≤1024:=by
 have h1:=aZ n;have h2:n.length≤128:=by
  unfold aa at hn;rw[Bool.and_eq_true]at hn;exact of_decide_eq_true hn.1
 have h3:num n<2^1024:=Nat.lt_of_lt_of_le h1 (by rw[show(2:Nat)^1024=256^128 by decide+kernel];exact Nat.pow_le_pow_right (by decide) h2)
 unfold a9;split
 ·omega
 ·rename_i h;have:=(Nat.log2_lt h).2 h3;omega
theorem Fh (x y:Nat):decide (aO x y<0)=decide (x<y):=by
 have e:=pO x y;rw[eq_iff_iff]at e;rw[decide_eq_decide];omega
theorem LH (x y:Nat):decide (aO x y≥0)= !decide (x<y):=by
 have e:=pO x y;rw[eq_iff_iff]at e
 by_cases h:x<y
 ·rw[decide_eq_true h,decide_eq_false (fun g=>by have:=e.1 g;omega)];rfl
 ·rw[decide_eq_false h,decide_eq_true (e.2 (by omega))];rfl
theorem qH {vs:List Bytes} {sd:Bytes} {i:Nat} {n:Bytes} (hv:vs.all aa=true) (hn:aa n=true) (h0:num n≠0) (hi:i≤2147483647) (hl:vs.length<1000000) (hsd:sd.length<1000000):aA Tryz.prog 111 [T vs sd i, .s n] (jI vs sd i (eF vs sd i n)):=by
 by_cases hiv:i<vs.length
 ·have h:=JN sd hv hn hiv hl;unfold Hj at h;unfold eF;rw[if_pos hiv];split
  ·rename_i hle;rw[if_pos hle]at h;exact h
  ·rename_i hle;rw[if_neg hle]at h;exact h
 unfold eF;rw[if_neg hiv]
 by_cases hs:sd=[]∨i=2147483647
 ·rw[if_pos hs];have hnl: ∀ _:True,(([]:Bytes)==[])=true:=fun _=>rfl
  have h47: ∀ _:True,((2147483647:Int)==2147483647)=true:=fun _=>rfl
  rcases hs with rfl|rfl
  ·refine eW Tryz.call111 Tryz.func111 ?_;repeat' first|simp only[go_sem,seval,hnl trivial]|refine sB ?_|(first|apply pX|apply bX)<;>intro hc|refine⟨oD,?_⟩|exact oD|fail
   all_goals rfl
  ·cases hsb:sd==[]with
   |true=>
    refine eW Tryz.call111 Tryz.func111 ?_;repeat' first|simp only[go_sem,seval,hsb]|refine sB ?_|(first|apply pX|apply bX)<;>intro hc|refine⟨oD,?_⟩|exact oD|fail
    all_goals rfl
   |false=>
    refine eW Tryz.call111 Tryz.func111 ?_;repeat' first|simp only[go_sem,seval,hsb,h47 trivial]|refine sB ?_|(first|apply pX|apply bX)<;>intro hc|refine⟨oD,?_⟩|exact oD|fail
    all_goals rfl
 rw[if_neg hs];have hs1:sd≠[]:=fun h=>hs (.inl h)
 have hs2:i≠2147483647:=fun h=>hs (.inr h)
 have hbl:=wq hn;have hb0:0<a9 (num n):=by unfold a9;rw[if_neg h0];omega
 have hB:=px hn;have hA:=fun a (ha:a<256)=>Ad (vs:=vs) (sd:=sd) (at':=i) (a:=a) (len:=a9 (num n)) hl hsd (by omega) (by omega) hb0 (by omega)
 have hC:=fun a=>ie (yI sd i a (a9 (num n))) n
 have hV:=fun a=>qA sd i a hbl
 obtain⟨r1,r2,r3,r4⟩:=Ih vs;have hsb:(sd==[])=false:=by rw[beq_eq_false_iff_ne];exact hs1
 have hi47: ∀ _:True,((i:Int)==2147483647)=false:=fun _=>by rw[beq_eq_false_iff_ne];omega
 generalize hf:(fun a=>yI sd i a (a9 (num n)))=f
 have hA: ∀a:Nat,a<256→aA Tryz.prog 166 [T vs sd i, .i .i64 a, .i .i64 (a9 (num n))] (.s (f a)):=by rw[←hf];exact hA
 have hC: ∀a,aA Tryz.prog 30 [.s (f a), .s n] (E (aO (num (f a)) (num n))):=by
  intro a;have h:=hC a;rw[hV,hn]at h;rw[←hf];exact h
 refine eW Tryz.call111 Tryz.func111 ?_;repeat' first|simp only[go_sem,seval,hsb,hi47 trivial]|refine sB ?_|(first|apply pX|apply bX)<;>intro hc|refine⟨oD,?_⟩|exact oD|fail
 refine⟨⟨fun x hx=>tY hx,fun y hy=>DO hy,by rw[ig];exact Nat.le_refl _⟩,?_⟩
 refine ai (α:=Nat) (fun a=>256-a) (fun a=>⟨[(73, .v (.i .i64 a)),(1, .v (.s n)),(2, .p 1000 0 0),(5, .p 1002 0 0),(7, .p 1047 0 0)],[(1000,⟨0,[.v (.sl (vs.map .s)), .v (.s sd), .v (.i .i64 i)],false,none⟩),(1002,⟨0,[.sn, .v (.s []), .v (.i .i64 0)],false,some 40⟩),(1040,⟨0,List.map AV.v (vs.map .s),false,none⟩),(1047,⟨0,[.rs 1040 0 0 vs.length 1, .v (.s sd), .v (.i .i64 ((i:Int)+1))],false,some 40⟩)],1061⟩) (fun a=>a≤256∧xw f (num n) a (256-a)=xw f (num n) 0 256) 0 (fun _=>Nat.le_refl _) ⟨Nat.zero_le _,rfl⟩ ?_ ?_
 ·refine AS.Le.of (by decide) ?_ ?_<;>simp[bz,bA,aD,ak,AV.bd,AV.bd.bdL,pP,r1,r3]
  rw[List.take_of_length_le (by simp)]
 ·rintro a ⟨ha,hst⟩ R hR;rw[←hst]
  by_cases hlt:a<256
  ·obtain⟨m,hm⟩: ∃m,256-a=m+1:=⟨255-a,by omega⟩
   have hAa:=hA a hlt;have hCa:=hC a;have hgo:=hR (a+1);rw[hm,xw]
   by_cases hle:num (f a)<num n
   ·rw[if_pos hle];have hcm: ∀ _:True,decide (aO (num (f a)) (num n)<0)=true:=fun _=>by rw[Fh];exact decide_eq_true hle
    generalize aO (num (f a)) (num n)=cm at*;repeat' first|simp only[go_sem,seval,hcm trivial,r1,r2,r3,r4,pP,dA]|refine cP hB ?_|refine cP hAa ?_|refine cP hCa ?_|refine sB ?_|(first|apply pX|apply bX)<;>intro hc|refine⟨oD,?_⟩|exact oD|fail
    rfl
   ·rw[if_neg hle];have hgo:=hgo ⟨hlt,by rw[←hst,hm,xw,if_neg hle,show 256-(a+1)=m from by omega]⟩ (by omega)
    have hcm: ∀ _:True,decide (aO (num (f a)) (num n)<0)=false:=fun _=>by rw[Fh];exact decide_eq_false hle
    generalize aO (num (f a)) (num n)=cm at*;repeat' first|simp only[go_sem,seval,hcm trivial]|refine cP hB ?_|refine cP hAa ?_|refine cP hCa ?_|refine sB ?_|(first|apply pX|apply bX)<;>intro hc|refine⟨oD,?_⟩|exact oD|fail
    refine hgo _ ?_;refine AS.Le.of (by decide) ?_ ?_<;>simp[bz,bA,aD,ak,AV.bd,AV.bd.bdL]
  ·obtain rfl:a=256:=by omega
   repeat' first|simp only[go_sem,seval]|refine sB ?_|(first|apply pX|apply bX)<;>intro hc|refine⟨oD,?_⟩|exact oD|fail
   all_goals rfl
theorem Ag {vs:List Bytes} {i:Nat} {n:Bytes} (hv:vs.all aa=true) (hn:aa n=true) (h0:n≠[]) (hi:i≤2147483647):oj vs i n=0:=by
 have h1:(vs.any fun x=> !aa x)=false:=by
  rw[Bool.eq_false_iff];intro g;obtain⟨x,hx,h⟩:=List.any_eq_true.1 g;simp[List.all_eq_true.1 hv x hx]at h
 have h2:dc vs i=true:=by
  unfold dc;rw[h1,decide_eq_true (show(i:Int)≥0 by omega),decide_eq_true (show(i:Int)≤2147483647 by omega)];rfl
 simp[oj,h2,hn,h0]
theorem uU {n:Bytes} (hn:aa n=true) (h0:n≠[]):num n≠0:=fun h=>h0 ((mL hn).1 h)
theorem ny {vs:List Bytes} {sd:Bytes} {i:Nat} {n:Bytes} (hv:vs.all aa=true) (hn:aa n=true) (h0:n≠[]) (hi:i≤2147483647) (hl:vs.length<1000000) (hsd:sd.length<1000000):aA Tryz.prog 61 [T vs sd i, .s n] (jI vs sd i (eF vs sd i n)):=by
 have h1:=lG vs sd i n (by omega)
 rw[Ag hv hn h0 hi]at h1;have h2:=qH (sd:=sd) hv hn (uU hn h0) hi hl hsd;generalize eF vs sd i n=r at*
 cases r with
 |ok x=>
  unfold jI at*;refine eW Tryz.call61 Tryz.func61 ?_;repeat' first|simp only[go_sem,seval]|refine cP h1 ?_|refine cP h2 ?_|refine sB ?_|(first|apply pX|apply bX)<;>intro hc|refine⟨oD,?_⟩|exact oD|fail
  all_goals rfl
 |error e=>
  unfold jI at*;refine eW Tryz.call61 Tryz.func61 ?_;repeat' first|simp only[go_sem,seval]|refine cP h1 ?_|refine cP h2 ?_|refine sB ?_|(first|apply pX|apply bX)<;>intro hc|refine⟨oD,?_⟩|exact oD|fail
  all_goals rfl
theorem Ac {α:Type} (l:List α) (p:α→Bool):(l.any fun x=> !p x)= !l.all p:=by
 induction l with
 |nil=>rfl
 |cons x l ih=>rw[List.any_cons,List.all_cons,ih];cases p x<;>simp
theorem rT {vs:List Bytes} {a:Int} (h:dc vs a=true):vs.all aa=true∧0≤a∧a≤2147483647:=by
 unfold dc at h;rw[Ac,Bool.not_not]at h;simp only[Bool.and_eq_true,decide_eq_true_eq]at h;exact⟨h.2,h.1.1,h.1.2⟩
theorem rk {vs:List Bytes} {i:Nat} (h:vs.all aa=true) (hi:i≤2147483647):dc vs i=true:=by
 unfold dc;rw[Ac,h,decide_eq_true (show(i:Int)≥0 by omega),decide_eq_true (show(i:Int)≤2147483647 by omega)];rfl
end Go.Proofs.YtmobkhegihemeaaGreatDoor
