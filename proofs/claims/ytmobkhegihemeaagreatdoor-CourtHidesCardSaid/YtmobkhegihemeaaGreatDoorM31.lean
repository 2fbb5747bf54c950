/-
  Part of the proof, part 31. Own work.
-/
import Derived.Test.YtmobkhegihemeaaGreatDoorM26
set_option linter.all false
namespace Go.Proofs.YtmobkhegihemeaaGreatDoor
open Go Go.Dom Go.Num
set_option maxRecDepth 100000
set_option maxHeartbeats 16000000
theorem coinsblocks_ok (vs:List Bytes) (sd:Bytes) (at':Int) (a:Nat):EvP Tryz.prog 247 [T vs sd at', .i .i64 a] (.fc 313 [] [.pt (T vs sd at') 0, .pt (.agg [.i .i64 a]) 0]):=by
 refine eW Tryz.call247 Tryz.func247 ?_;repeat' first|simp only[go_sem,seval]|refine sB ?_|(first|apply pX|apply bX)<;>intro hc|refine⟨oD,?_⟩|exact oD|fail
theorem blkL_len (sd:Bytes) (at' a:Nat): ∀(k b:Nat),∀y∈blkL sd at' a b k,y.length=1:=by
 intro k
 induction k with
 |zero=>intro b y hy;cases hy
 |succ k ih=>
  intro b y hy
  cases hy with
  |head=>rfl
  |tail _ h=>exact ih _ _ h
def rnds (size:Nat):Nat:=max 1 ((size+31)/32)
def catB (sd:Bytes) (at' a:Nat):Nat→Bytes
 |0=>[]
 |k+1=>catB sd at' a k++blkB sd at' a k
def maskB:Bytes→Nat→Bytes
 |[],_=>[]
 |x::r,d=>UInt8.ofNat (x.toNat%2^(8-d))::r
theorem mask_ok: ∀(d:Fin 8) (x:Fin 256),iAnd .u8 (x.val:Int) (Int.fdiv 255 (2^d.val))=((UInt8.ofNat (x.val%2^(8-d.val))).toNat:Int):=by decide+kernel
theorem bcells_cons (c:UInt8) (r:Bytes):bcells (c::r)= .v (.i .u8 (c.toNat:Int))::bcells r:=rfl
def stripB:Bytes→Bytes
 |[]=>[]
 |x::r=>if x=0 then stripB r else x::r
def attB (sd:Bytes) (at' a len:Nat):Bytes:=stripB (maskB ((catB sd at' a (rnds ((len+7)/8))).take ((len+7)/8)) (8*((len+7)/8)-len))
theorem mask_take {S:Nat} (h:1≤S) (x:UInt8) (r:Bytes) (d:Nat):maskB (List.take S (x::r)) d=List.take S (UInt8.ofNat (x.toNat%2^(8-d))::r):=by
 obtain⟨S,rfl⟩: ∃m,S=m+1:=⟨S-1,by omega⟩
 rfl
theorem drop_b {q:Bytes} {S i:Nat} (h:i<S) (hS:S≤q.length):(q.take S).drop i=q.getD i 0::(q.take S).drop (i+1):=by
 rw[List.drop_eq_getElem_cons (by rw[List.length_take];omega),List.getElem_take,List.getD_eq_getElem?_getD,List.getElem?_eq_getElem (by omega)];rfl
theorem drop_bc (q:Bytes) (S i:Nat):List.take (S-i) (List.drop i (bcells q))=bcells ((q.take S).drop i):=by
 rw[bcells,bcells,List.map_drop,List.map_take,List.drop_take]
theorem bcells_isB (l:Bytes): ∀y∈bcells l,y.isByte:=by
 intro y hy;obtain⟨c,_,rfl⟩:=List.mem_map.1 hy;exact trivial
theorem attempt_ok {vs:List Bytes} {sd:Bytes} {at' a len:Nat} (hv:vs.length<1000000) (hsd:sd.length<1000000) (ha:at'<4294967296) (ha2:a<4294967296) (hl0:0<len) (hl:len<100000):EvP Tryz.prog 166 [T vs sd at', .i .i64 a, .i .i64 len] (.s (attB sd at' a len)):=by
 have hb:=coinsblocks_ok vs sd at' a;have hit:=blocks_it (vs:= .sl (vs.map .s)) (sd:=sd) (at':=at') (a:=a) (k:=rnds ((len+7)/8)) hsd (by unfold rnds;omega) ha ha2
 have hsz: ∀ _:True,IntKind.i64.wrap (((len:Int)+7).tdiv 8)=(((len+7)/8:Nat):Int):=by
  intro _;rw[Int.tdiv_eq_ediv_of_nonneg (by omega),IntWalk.i64_in _ (by omega)];omega
 have hs1:1≤(len+7)/8∧(len+7)/8≤13000:=by omega
 have hlen: ∀b,(blkB sd at' a b).length=32:=fun b=>by unfold blkB macB;rw[sumB_len]
 have hcat: ∀k,(catB sd at' a k).length=32*k:=by
  intro k
  induction k with
  |zero=>rfl
  |succ k ih=>rw[catB,List.length_append,ih,hlen];omega
 have hR: ∀k,k<rnds ((len+7)/8)→ ¬(len+7)/8≤32*k∨k=0:=by intro k h;unfold rnds at h;omega
 refine eW Tryz.call166 Tryz.func166 ?_;repeat' first|simp only[go_sem,seval,hsz trivial]|refine cP hb ?_|refine sB ?_|(first|apply pX|apply bX)<;>intro hc|refine⟨oD,?_⟩|exact oD|fail
 unfold attB;generalize hS:(len+7)/8=S at*;refine CW_rng hit rfl ?_ ?_
 ·intro y hy;exact blkL_len _ _ _ _ _ y hy
 refine rg_runI (α:=Nat) (fun k=>match k with|0=>⟨[(7, .p 1005 0 0),(8, .p 1007 0 0),(2, .v (.i .i64 len))],[(1005,⟨0,[.v (.i .i64 S)],false,some 3⟩),(1007,⟨0,[.sn],false,some 140⟩)],1011⟩|k+1=>⟨[(7, .p 1005 0 0),(8, .p 1007 0 0),(2, .v (.i .i64 len))],[(1005,⟨0,[.v (.i .i64 S)],false,some 3⟩),(1007,⟨0,[.rs 1014 k 0 (32*(k+1)) 1],false,some 140⟩),(1014,⟨k,bcells (catB sd at' a (k+1)),true,some 5⟩)],1020⟩) (fun xs k=>k<rnds S∧xs=blkL sd at' a k (rnds S-k)) 0 ?_ ⟨by unfold rnds;omega,rfl⟩ ?_ ?_ ?_
 ·intro k;cases k
  ·exact Nat.le_refl _
  ·show 1011≤1020;decide
 ·refine AS.Le.of (by decide) ?_ ?_<;>simp[LeT,LeH,tget,hget,AV.bd,AV.bd.bdL]
 ·rintro k ⟨h1,h2⟩;obtain⟨m,hm⟩: ∃m,rnds S-k=m+1:=⟨rnds S-k-1,by omega⟩
  rw[hm]at h2;cases h2
 ·rintro y ys k ⟨h1,h2⟩ R hRR;obtain⟨m,hm⟩: ∃m,rnds S-k=m+1:=⟨rnds S-k-1,by omega⟩
  rw[hm]at h2;injection h2 with e1 e2
  subst e1 e2;have hkb:k<1000:=by unfold rnds at h1;omega
  have hx:=hlen k;have hc:=hcat k;have ho:=hcat (k+1);have hc1:catB sd at' a k++blkB sd at' a k=catB sd at' a (k+1):=rfl;have hgo:k+1<rnds S→ _:=fun h=>hRR (k+1) ⟨h,by rw[show rnds S-(k+1)=m from by omega]⟩
  clear hRR hit hb hcat hlen
  by_cases hf:S≤32*(k+1)
  ·have hk:rnds S=k+1:=by unfold rnds at h1⊢;omega
   rw[hk];clear hgo hR;have hd1: ∀ _:True,(8*(S:Int)-len).toNat=8*S-len:=fun _=>by omega
   have hd2:8*S-len<8:=by omega
   have hd3:(if 8*S-len≤8 then 8*S-len else 8)=8*S-len:=by rw[if_pos];omega
   have hmask:=fun x:UInt8=>mask_ok ⟨8*S-len,hd2⟩ ⟨x.toNat,x.toNat_lt⟩
   simp only at hmask;generalize hd:8*S-len=d at*;generalize hcc:catB sd at' a (k+1)=o at*;obtain⟨x0,r,rfl⟩: ∃x0 r,o=x0::r:=by
    cases o with
    |nil=>simp at ho
    |cons x0 r=>exact⟨_,_,rfl⟩
   cases k with
   |zero=>
    generalize blkB sd at' a 0=x at*;generalize catB sd at' a 0=c at*;obtain rfl:c=[]:=List.eq_nil_of_length_eq_zero hc;obtain rfl:x=x0::r:=hc1;repeat' first|simp only[go_sem,seval,hx,bcells_cons,hd1 trivial,hd3,hmask]|refine sB ?_|(first|apply pX|apply bX)<;>intro hc|refine⟨oD,?_⟩|exact oD|fail
    rw[mask_take hs1.1];simp only[←bcells_cons];generalize hq:UInt8.ofNat (x0.toNat%2^(8-d))::r=q at*;have hql:q.length=32*(0+1):=by rw[←hq];simpa using ho
    refine loop_run (α:=Nat) (fun i=>S-i) (fun i=>⟨[(8, .p 1007 0 0)],[(1007,⟨0,[.rs 1014 0 i (S-i) 1],false,some 140⟩),(1014,⟨0,bcells q,true,some 5⟩)],1037⟩) (fun i=>i≤S∧stripB ((q.take S).drop i)=stripB (q.take S)) 0 (fun _=>Nat.le_refl _) ⟨Nat.zero_le _,rfl⟩ ?_ ?_
    ·refine AS.Le.of (by decide) ?_ ?_<;>simp[LeT,LeH,tget,hget,AV.bd,AV.bd.bdL,bcells_bd]
    ·rintro i ⟨hi,hst⟩ R2 hR2;rw[←hst]
     by_cases hlt:i<S
     ·have e1:=drop_b (q:=q) hlt (by omega)
      have e2:=bcells_getD (l:=q) (i:=i) (by omega)
      have e3: ∀ _:True,((S-i:Nat):Int)=(S:Int)-i:=fun _=>by omega
      have e4:=drop_bc q S i
      by_cases hz:q.getD i 0=0
      ·have hgo2:=hR2 (i+1) ⟨hlt,by rw[←hst,e1,stripB,if_pos hz]⟩ (by omega)
       clear hR2;repeat' first|simp only[go_sem,seval,e2,hz]|refine sB ?_|(first|apply pX|apply bX)<;>intro hc|refine⟨oD,?_⟩|exact oD|fail
       refine hgo2 _ ?_;refine AS.Le.of (by omega) ?_ ?_<;>simp[LeT,LeH,tget,hget,AV.bd,AV.bd.bdL,bcells_bd,Nat.sub_sub]
      ·rw[e1,stripB,if_neg hz,←e1];have hz2: ∀ _:True,(((q.getD i 0).toNat:Int)==0)=false:=fun _=>by
        rw[beq_eq_false_iff_ne];intro h;exact hz (UInt8.toNat_inj.1 (by exact_mod_cast h))
       repeat' first|simp only[go_sem,seval,e2,hz2 trivial]|refine sB ?_|(first|apply pX|apply bX)<;>intro hc|refine⟨oD,?_⟩|exact oD|fail
       rw[e4];exact⟨⟨by omega,bcells_isB _⟩,by rw[bcells_byte]⟩
     ·obtain rfl:i=S:=by omega
      repeat' first|simp only[go_sem,seval]|refine sB ?_|(first|apply pX|apply bX)<;>intro hc|refine⟨oD,?_⟩|exact oD|fail
      rw[Nat.sub_self,List.take_zero,List.drop_of_length_le (by rw[List.length_take];omega)]
      exact⟨⟨by omega,fun y hy=>by cases hy⟩,rfl⟩
   |succ k=>
    dsimp only;generalize blkB sd at' a (k+1)=x at*;generalize catB sd at' a (k+1)=c at*;have htk:List.take (32*(k+1)) (bcells c)=bcells c:=by rw[←hc];exact bcells_take _
    repeat' first|simp only[go_sem,seval,hx,hc1,htk,bcells_cons,hd1 trivial,hd3,hmask]|refine sB ?_|(first|apply pX|apply bX)<;>intro hc|refine⟨oD,?_⟩|exact oD|fail
    rw[mask_take hs1.1];simp only[←bcells_cons];generalize hq:UInt8.ofNat (x0.toNat%2^(8-d))::r=q at*;have hql:q.length=32*(k+1+1):=by rw[←hq];simpa using ho
    refine loop_run (α:=Nat) (fun i=>S-i) (fun i=>⟨[(8, .p 1007 0 0)],[(1007,⟨0,[.rs 1014 (k+1) i (S-i) 1],false,some 140⟩),(1014,⟨(k+1),bcells q,true,some 5⟩)],1046⟩) (fun i=>i≤S∧stripB ((q.take S).drop i)=stripB (q.take S)) 0 (fun _=>Nat.le_refl _) ⟨Nat.zero_le _,rfl⟩ ?_ ?_
    ·refine AS.Le.of (by decide) ?_ ?_<;>simp[LeT,LeH,tget,hget,AV.bd,AV.bd.bdL,bcells_bd]
    ·rintro i ⟨hi,hst⟩ R2 hR2;rw[←hst]
     by_cases hlt:i<S
     ·have e1:=drop_b (q:=q) hlt (by omega)
      have e2:=bcells_getD (l:=q) (i:=i) (by omega)
      have e3: ∀ _:True,((S-i:Nat):Int)=(S:Int)-i:=fun _=>by omega
      have e4:=drop_bc q S i
      by_cases hz:q.getD i 0=0
      ·have hgo2:=hR2 (i+1) ⟨hlt,by rw[←hst,e1,stripB,if_pos hz]⟩ (by omega)
       clear hR2;repeat' first|simp only[go_sem,seval,e2,hz]|refine sB ?_|(first|apply pX|apply bX)<;>intro hc|refine⟨oD,?_⟩|exact oD|fail
       refine hgo2 _ ?_;refine AS.Le.of (by omega) ?_ ?_<;>simp[LeT,LeH,tget,hget,AV.bd,AV.bd.bdL,bcells_bd,Nat.sub_sub]
      ·rw[e1,stripB,if_neg hz,←e1];have hz2: ∀ _:True,(((q.getD i 0).toNat:Int)==0)=false:=fun _=>by
        rw[beq_eq_false_iff_ne];intro h;exact hz (UInt8.toNat_inj.1 (by exact_mod_cast h))
       repeat' first|simp only[go_sem,seval,e2,hz2 trivial]|refine sB ?_|(first|apply pX|apply bX)<;>intro hc|refine⟨oD,?_⟩|exact oD|fail
       rw[e4];exact⟨⟨by omega,bcells_isB _⟩,by rw[bcells_byte]⟩
     ·obtain rfl:i=S:=by omega
      repeat' first|simp only[go_sem,seval]|refine sB ?_|(first|apply pX|apply bX)<;>intro hc|refine⟨oD,?_⟩|exact oD|fail
      rw[Nat.sub_self,List.take_zero,List.drop_of_length_le (by rw[List.length_take];omega)]
      exact⟨⟨by omega,fun y hy=>by cases hy⟩,rfl⟩
  ·have hgo:=hgo (by unfold rnds;omega)
   cases k with
   |zero=>
    generalize blkB sd at' a 0=x at*;repeat' first|simp only[go_sem,seval,hx]|refine sB ?_|(first|apply pX|apply bX)<;>intro hc|refine⟨oD,?_⟩|exact oD|fail
    refine hgo _ ?_;have hx1:catB sd at' a 1=x:=hc1.symm;refine AS.Le.of (by decide) ?_ ?_<;>simp[LeT,LeH,tget,hget,AV.bd,AV.bd.bdL,hx1,bcells_bd]
   |succ k=>
    have htk:List.take (32*(k+1)) (bcells (catB sd at' a (k+1)))=bcells (catB sd at' a (k+1)):=by rw[←hc];exact bcells_take _
    generalize blkB sd at' a (k+1)=x at*;repeat' first|simp only[go_sem,seval,hx,hc1]|refine sB ?_|(first|apply pX|apply bX)<;>intro hc|refine⟨oD,?_⟩|exact oD|fail
    all_goals first
     |omega
     |skip
    refine hgo _ ?_;refine AS.Le.of (by decide) ?_ ?_<;>simp[LeT,LeH,tget,hget,AV.bd,AV.bd.bdL,htk,bcells_app,hc1,bcells_bd]
    omega
theorem stripB_len: ∀l:Bytes,(stripB l).length≤l.length
 |[]=>Nat.le_refl _
 |x::r=>by
  rw[stripB];split
  ·have:=stripB_len r;rw[List.length_cons];omega
  ·exact Nat.le_refl _
theorem stripB_head: ∀l:Bytes,((stripB l).length==0||(stripB l).headD 0 !=0)=true
 |[]=>rfl
 |x::r=>by
  rw[stripB];split
  ·exact stripB_head r
  ·rename_i h;simp[h]
theorem maskB_len (l:Bytes) (d:Nat):(maskB l d).length=l.length:=by cases l<;>rfl
theorem attB_valid (sd:Bytes) (at' a:Nat) {len:Nat} (h:len≤1024):validN (attB sd at' a len)=true:=by
 unfold validN;rw[Bool.and_eq_true];refine⟨decide_eq_true ?_,stripB_head _⟩;have:=stripB_len (maskB ((catB sd at' a (rnds ((len+7)/8))).take ((len+7)/8)) (8*((len+7)/8)-len));rw[maskB_len,List.length_take]at this;unfold attB;omega
def seek (f:Nat→Bytes) (n a:Nat):Nat→Option Bytes
 |0=>none
 |k+1=>if num (f a)<n then some (f a)else seek f n (a+1) k
def drawO (vs:List Bytes) (sd:Bytes) (i:Nat) (n:Bytes):Except Int Bytes:=
 if i<vs.length then(if num n≤num (vs.getD i [])then .error 2 else .ok (vs.getD i []))
 else if sd=[]∨i=2147483647 then .error 14
 else match seek (fun a=>attB sd i a (blen (num n))) (num n) 0 256 with
  |some x=> .ok x
  |none=> .error 14
def drawP (vs:List Bytes) (sd:Bytes) (i:Nat):Except Int Bytes→PV
 | .ok x=> .tup [.s x,T vs sd (i+1:Nat),E 0]
 | .error e=> .tup [.s [],T [] [] 0,E e]
theorem blenV_le {n:Bytes} (hn:validN n=true):blen (num n)≤1024:=by
 have h1:=num_lt n;have h2:n.length≤128:=by
  unfold validN at hn;rw[Bool.and_eq_true]at hn;exact of_decide_eq_true hn.1
 have h3:num n<2^1024:=Nat.lt_of_lt_of_le h1 (by rw[show(2:Nat)^1024=256^128 by decide+kernel];exact Nat.pow_le_pow_right (by decide) h2)
 unfold blen;split
 ·omega
 ·rename_i h;have:=(Nat.log2_lt h).2 h3;omega
theorem cmpLtD (x y:Nat):decide (cmpN x y<0)=decide (x<y):=by
 have e:=cmpGe x y;rw[eq_iff_iff]at e;rw[decide_eq_decide];omega
theorem geD (x y:Nat):decide (cmpN x y≥0)= !decide (x<y):=by
 have e:=cmpGe x y;rw[eq_iff_iff]at e
 by_cases h:x<y
 ·rw[decide_eq_true h,decide_eq_false (fun g=>by have:=e.1 g;omega)];rfl
 ·rw[decide_eq_false h,decide_eq_true (e.2 (by omega))];rfl
theorem drawG_ok {vs:List Bytes} {sd:Bytes} {i:Nat} {n:Bytes} (hv:vs.all validN=true) (hn:validN n=true) (h0:num n≠0) (hi:i≤2147483647) (hl:vs.length<1000000) (hsd:sd.length<1000000):EvP Tryz.prog 111 [T vs sd i, .s n] (drawP vs sd i (drawO vs sd i n)):=by
 by_cases hiv:i<vs.length
 ·have h:=draw_ok sd hv hn hiv hl;unfold drawR at h;unfold drawO;rw[if_pos hiv];split
  ·rename_i hle;rw[if_pos hle]at h;exact h
  ·rename_i hle;rw[if_neg hle]at h;exact h
 unfold drawO;rw[if_neg hiv]
 by_cases hs:sd=[]∨i=2147483647
 ·rw[if_pos hs];have hnl: ∀ _:True,(([]:Bytes)==[])=true:=fun _=>rfl
  have h47: ∀ _:True,((2147483647:Int)==2147483647)=true:=fun _=>rfl
  rcases hs with rfl|rfl
  ·refine eW Tryz.call111 Tryz.func111 ?_;repeat' first|simp only[go_sem,seval,hnl trivial]|refine sB ?_|(first|apply pX|apply bX)<;>intro hc|refine⟨oD,?_⟩|exact oD|fail
   all_goals rfl
  ·cases hsb:sd==[]with
   |true=>
    refine eW Tryz.call111 Tryz.func111 ?_;repeat' first|simp only[go_sem,seval,hsb]|refine sB ?_|(first|apply pX|apply bX)<;>intro hc|refine⟨oD,?_⟩|exact oD|fail
    all_goals rfl
   |false=>
    refine eW Tryz.call111 Tryz.func111 ?_;repeat' first|simp only[go_sem,seval,hsb,h47 trivial]|refine sB ?_|(first|apply pX|apply bX)<;>intro hc|refine⟨oD,?_⟩|exact oD|fail
    all_goals rfl
 rw[if_neg hs];have hs1:sd≠[]:=fun h=>hs (.inl h)
 have hs2:i≠2147483647:=fun h=>hs (.inr h)
 have hbl:=blenV_le hn;have hb0:0<blen (num n):=by unfold blen;rw[if_neg h0];omega
 have hB:=Bits_ok hn;have hA:=fun a (ha:a<256)=>attempt_ok (vs:=vs) (sd:=sd) (at':=i) (a:=a) (len:=blen (num n)) hl hsd (by omega) (by omega) hb0 (by omega)
 have hC:=fun a=>Cmp_ok (attB sd i a (blen (num n))) n
 have hV:=fun a=>attB_valid sd i a hbl
 obtain⟨r1,r2,r3,r4⟩:=rowS vs;have hsb:(sd==[])=false:=by rw[beq_eq_false_iff_ne];exact hs1
 have hi47: ∀ _:True,((i:Int)==2147483647)=false:=fun _=>by rw[beq_eq_false_iff_ne];omega
 generalize hf:(fun a=>attB sd i a (blen (num n)))=f
 have hA: ∀a:Nat,a<256→EvP Tryz.prog 166 [T vs sd i, .i .i64 a, .i .i64 (blen (num n))] (.s (f a)):=by rw[←hf];exact hA
 have hC: ∀a,EvP Tryz.prog 30 [.s (f a), .s n] (E (cmpN (num (f a)) (num n))):=by
  intro a;have h:=hC a;rw[hV,hn]at h;rw[←hf];exact h
 refine eW Tryz.call111 Tryz.func111 ?_;repeat' first|simp only[go_sem,seval,hsb,hi47 trivial]|refine sB ?_|(first|apply pX|apply bX)<;>intro hc|refine⟨oD,?_⟩|exact oD|fail
 refine⟨⟨fun x hx=>cells_S hx,fun y hy=>one_SA hy,by rw[flat_rep];exact Nat.le_refl _⟩,?_⟩
 refine loop_run (α:=Nat) (fun a=>256-a) (fun a=>⟨[(73, .v (.i .i64 a)),(1, .v (.s n)),(2, .p 1000 0 0),(5, .p 1002 0 0),(7, .p 1047 0 0)],[(1000,⟨0,[.v (.sl (vs.map .s)), .v (.s sd), .v (.i .i64 i)],false,none⟩),(1002,⟨0,[.sn, .v (.s []), .v (.i .i64 0)],false,some 40⟩),(1040,⟨0,List.map AV.v (vs.map .s),false,none⟩),(1047,⟨0,[.rs 1040 0 0 vs.length 1, .v (.s sd), .v (.i .i64 ((i:Int)+1))],false,some 40⟩)],1061⟩) (fun a=>a≤256∧seek f (num n) a (256-a)=seek f (num n) 0 256) 0 (fun _=>Nat.le_refl _) ⟨Nat.zero_le _,rfl⟩ ?_ ?_
 ·refine AS.Le.of (by decide) ?_ ?_<;>simp[LeT,LeH,tget,hget,AV.bd,AV.bd.bdL,flat_S,r1,r3]
  rw[List.take_of_length_le (by simp)]
 ·rintro a ⟨ha,hst⟩ R hR;rw[←hst]
  by_cases hlt:a<256
  ·obtain⟨m,hm⟩: ∃m,256-a=m+1:=⟨255-a,by omega⟩
   have hAa:=hA a hlt;have hCa:=hC a;have hgo:=hR (a+1);rw[hm,seek]
   by_cases hle:num (f a)<num n
   ·rw[if_pos hle];have hcm: ∀ _:True,decide (cmpN (num (f a)) (num n)<0)=true:=fun _=>by rw[cmpLtD];exact decide_eq_true hle
    generalize cmpN (num (f a)) (num n)=cm at*;repeat' first|simp only[go_sem,seval,hcm trivial,r1,r2,r3,r4,flat_S,mapO_view_v]|refine cP hB ?_|refine cP hAa ?_|refine cP hCa ?_|refine sB ?_|(first|apply pX|apply bX)<;>intro hc|refine⟨oD,?_⟩|exact oD|fail
    rfl
   ·rw[if_neg hle];have hgo:=hgo ⟨hlt,by rw[←hst,hm,seek,if_neg hle,show 256-(a+1)=m from by omega]⟩ (by omega)
    have hcm: ∀ _:True,decide (cmpN (num (f a)) (num n)<0)=false:=fun _=>by rw[cmpLtD];exact decide_eq_false hle
    generalize cmpN (num (f a)) (num n)=cm at*;repeat' first|simp only[go_sem,seval,hcm trivial]|refine cP hB ?_|refine cP hAa ?_|refine cP hCa ?_|refine sB ?_|(first|apply pX|apply bX)<;>intro hc|refine⟨oD,?_⟩|exact oD|fail
    refine hgo _ ?_;refine AS.Le.of (by decide) ?_ ?_<;>simp[LeT,LeH,tget,hget,AV.bd,AV.bd.bdL]
  ·obtain rfl:a=256:=by omega
   repeat' first|simp only[go_sem,seval]|refine sB ?_|(first|apply pX|apply bX)<;>intro hc|refine⟨oD,?_⟩|exact oD|fail
   all_goals rfl
theorem readyG {vs:List Bytes} {i:Nat} {n:Bytes} (hv:vs.all validN=true) (hn:validN n=true) (h0:n≠[]) (hi:i≤2147483647):readyE vs i n=0:=by
 have h1:(vs.any fun x=> !validN x)=false:=by
  rw[Bool.eq_false_iff];intro g;obtain⟨x,hx,h⟩:=List.any_eq_true.1 g;simp[List.all_eq_true.1 hv x hx]at h
 have h2:goodT vs i=true:=by
  unfold goodT;rw[h1,decide_eq_true (show(i:Int)≥0 by omega),decide_eq_true (show(i:Int)≤2147483647 by omega)];rfl
 simp[readyE,h2,hn,h0]
theorem num_ne {n:Bytes} (hn:validN n=true) (h0:n≠[]):num n≠0:=fun h=>h0 ((num_zero hn).1 h)
theorem BelowG_ok {vs:List Bytes} {sd:Bytes} {i:Nat} {n:Bytes} (hv:vs.all validN=true) (hn:validN n=true) (h0:n≠[]) (hi:i≤2147483647) (hl:vs.length<1000000) (hsd:sd.length<1000000):EvP Tryz.prog 61 [T vs sd i, .s n] (drawP vs sd i (drawO vs sd i n)):=by
 have h1:=ready_ok vs sd i n (by omega)
 rw[readyG hv hn h0 hi]at h1;have h2:=drawG_ok (sd:=sd) hv hn (num_ne hn h0) hi hl hsd;generalize drawO vs sd i n=r at*
 cases r with
 |ok x=>
  unfold drawP at*;refine eW Tryz.call61 Tryz.func61 ?_;repeat' first|simp only[go_sem,seval]|refine cP h1 ?_|refine cP h2 ?_|refine sB ?_|(first|apply pX|apply bX)<;>intro hc|refine⟨oD,?_⟩|exact oD|fail
  all_goals rfl
 |error e=>
  unfold drawP at*;refine eW Tryz.call61 Tryz.func61 ?_;repeat' first|simp only[go_sem,seval]|refine cP h1 ?_|refine cP h2 ?_|refine sB ?_|(first|apply pX|apply bX)<;>intro hc|refine⟨oD,?_⟩|exact oD|fail
  all_goals rfl
theorem anyNot {α:Type} (l:List α) (p:α→Bool):(l.any fun x=> !p x)= !l.all p:=by
 induction l with
 |nil=>rfl
 |cons x l ih=>rw[List.any_cons,List.all_cons,ih];cases p x<;>simp
theorem goodT_ok {vs:List Bytes} {a:Int} (h:goodT vs a=true):vs.all validN=true∧0≤a∧a≤2147483647:=by
 unfold goodT at h;rw[anyNot,Bool.not_not]at h;simp only[Bool.and_eq_true,decide_eq_true_eq]at h;exact⟨h.2,h.1.1,h.1.2⟩
theorem goodT_of {vs:List Bytes} {i:Nat} (h:vs.all validN=true) (hi:i≤2147483647):goodT vs i=true:=by
 unfold goodT;rw[anyNot,h,decide_eq_true (show(i:Int)≥0 by omega),decide_eq_true (show(i:Int)≤2147483647 by omega)];rfl
end Go.Proofs.YtmobkhegihemeaaGreatDoor
