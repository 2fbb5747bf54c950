/-
  Part of the proof, part 40. Own work.
-/
import Derived.Test.YtmledjfbgjnknaaGreatDoorM39
import Derived.Test.YtmledjfbgjnknaaGreatDoorM34
set_option linter.all false
namespace Go.Proofs.YtmledjfbgjnknaaGreatDoor
open Go Go.Dom Go.Num
set_option maxRecDepth 100000
set_option maxHeartbeats 16000000
theorem coinsblocks_ok (vs:List Bytes) (sd:Bytes) (at':Int) (a:Nat):EvP Tryz.prog 333 [T vs sd at', .i .i64 a] (.fc 408 [] [.pt (T vs sd at') 0, .pt (.agg [.i .i64 a]) 0]):=by
 refine eW Tryz.call333 Tryz.func333 ?_;repeat' first|simp only[go_sem,seval]|refine sB ?_|(first|apply pX|apply bX)<;>intro hc|refine⟨oD,?_⟩|exact oD|fail
theorem blkL_len (sd:Bytes) (at' a:Nat): ∀(k b:Nat),∀y∈blkL sd at' a b k,y.length=1:=by
 intro k
 induction k with
 |zero=>intro b y hy;cases hy
 |succ k ih=>
  intro b y hy
  cases hy with
  |head=>rfl
  |tail _ h=>exact ih _ _ h
def rnds (size:Nat):Nat:=max 1 ((size+31)/32)
def catB (sd:Bytes) (at' a:Nat):Nat→Bytes
 |0=>[]
 |k+1=>catB sd at' a k++blkB sd at' a k
def maskB:Bytes→Nat→Bytes
 |[],_=>[]
 |x::r,d=>UInt8.ofNat (x.toNat%2^(8-d))::r
theorem mask_ok: ∀(d:Fin 8) (x:Fin 256),iAnd .u8 (x.val:Int) (Int.fdiv 255 (2^d.val))=((UInt8.ofNat (x.val%2^(8-d.val))).toNat:Int):=by decide+kernel
theorem bcells_cons (c:UInt8) (r:Bytes):bcells (c::r)= .v (.i .u8 (c.toNat:Int))::bcells r:=rfl
def stripB:Bytes→Bytes
 |[]=>[]
 |x::r=>if x=0 then stripB r else x::r
def attB (sd:Bytes) (at' a len:Nat):Bytes:=stripB (maskB ((catB sd at' a (rnds ((len+7)/8))).take ((len+7)/8)) (8*((len+7)/8)-len))
theorem mask_take {S:Nat} (h:1≤S) (x:UInt8) (r:Bytes) (d:Nat):maskB (List.take S (x::r)) d=List.take S (UInt8.ofNat (x.toNat%2^(8-d))::r):=by
 obtain⟨S,rfl⟩: ∃m,S=m+1:=⟨S-1,by omega⟩
 rfl
theorem drop_b {q:Bytes} {S i:Nat} (h:i<S) (hS:S≤q.length):(q.take S).drop i=q.getD i 0::(q.take S).drop (i+1):=by
 rw[List.drop_eq_getElem_cons (by rw[List.length_take];omega),List.getElem_take,List.getD_eq_getElem?_getD,List.getElem?_eq_getElem (by omega)];rfl
theorem drop_bc (q:Bytes) (S i:Nat):List.take (S-i) (List.drop i (bcells q))=bcells ((q.take S).drop i):=by
 rw[bcells,bcells,List.map_drop,List.map_take,List.drop_take]
theorem bcells_isB (l:Bytes): ∀y∈bcells l,y.isByte:=by
 intro y hy;obtain⟨c,_,rfl⟩:=List.mem_map.1 hy;exact trivial
theorem attempt_ok {vs:List Bytes} {sd:Bytes} {at' a len:Nat} (hv:vs.length<1000000) (hsd:sd.length<1000000) (ha:at'<4294967296) (ha2:a<4294967296) (hl0:0<len) (hl:len<100000):EvP Tryz.prog 210 [T vs sd at', .i .i64 a, .i .i64 len] (.s (attB sd at' a len)):=by
 have hb:=coinsblocks_ok vs sd at' a;have hit:=blocks_it (vs:= .sl (vs.map .s)) (sd:=sd) (at':=at') (a:=a) (k:=rnds ((len+7)/8)) hsd (by unfold rnds;omega) ha ha2
 have hsz: ∀ _:True,IntKind.i64.wrap (((len:Int)+7).tdiv 8)=(((len+7)/8:Nat):Int):=by
  intro _;rw[Int.tdiv_eq_ediv_of_nonneg (by omega),IntWalk.i64_in _ (by omega)];omega
 have hs1:1≤(len+7)/8∧(len+7)/8≤13000:=by omega
 have hlen: ∀b,(blkB sd at' a b).length=32:=fun b=>by unfold blkB macB;rw[sumB_len]
 have hcat: ∀k,(catB sd at' a k).length=32*k:=by
  intro k
  induction k with
  |zero=>rfl
  |succ k ih=>rw[catB,List.length_append,ih,hlen];omega
 have hR: ∀k,k<rnds ((len+7)/8)→ ¬(len+7)/8≤32*k∨k=0:=by intro k h;unfold rnds at h;omega
 refine eW Tryz.call210 Tryz.func210 ?_;repeat' first|simp only[go_sem,seval,hsz trivial]|refine cP hb ?_|refine sB ?_|(first|apply pX|apply bX)<;>intro hc|refine⟨oD,?_⟩|exact oD|fail
 unfold attB;generalize hS:(len+7)/8=S at*;refine CW_rng hit rfl ?_ ?_
 ·intro y hy;exact blkL_len _ _ _ _ _ y hy
 refine rg_runI (α:=Nat) (fun k=>match k with|0=>⟨[(7, .p 1005 0 0),(8, .p 1007 0 0),(2, .v (.i .i64 len))],[(1005,⟨0,[.v (.i .i64 S)],false,some 3⟩),(1007,⟨0,[.sn],false,some 106⟩)],1011⟩|k+1=>⟨[(7, .p 1005 0 0),(8, .p 1007 0 0),(2, .v (.i .i64 len))],[(1005,⟨0,[.v (.i .i64 S)],false,some 3⟩),(1007,⟨0,[.rs 1014 k 0 (32*(k+1)) 1],false,some 106⟩),(1014,⟨k,bcells (catB sd at' a (k+1)),true,some 5⟩)],1020⟩) (fun xs k=>k<rnds S∧xs=blkL sd at' a k (rnds S-k)) 0 ?_ ⟨by unfold rnds;omega,rfl⟩ ?_ ?_ ?_
 ·intro k;cases k
  ·exact Nat.le_refl _
  ·show 1011≤1020;decide
 ·refine AS.Le.of (by decide) ?_ ?_<;>simp[LeT,LeH,tget,hget,AV.bd,AV.bd.bdL]
 ·rintro k ⟨h1,h2⟩;obtain⟨m,hm⟩: ∃m,rnds S-k=m+1:=⟨rnds S-k-1,by omega⟩
  rw[hm]at h2;cases h2
 ·rintro y ys k ⟨h1,h2⟩ R hRR;obtain⟨m,hm⟩: ∃m,rnds S-k=m+1:=⟨rnds S-k-1,by omega⟩
  rw[hm]at h2;injection h2 with e1 e2
  subst e1 e2;have hkb:k<1000:=by unfold rnds at h1;omega
  have hx:=hlen k;have hc:=hcat k;have ho:=hcat (k+1);have hc1:catB sd at' a k++blkB sd at' a k=catB sd at' a (k+1):=rfl;have hgo:k+1<rnds S→ _:=fun h=>hRR (k+1) ⟨h,by rw[show rnds S-(k+1)=m from by omega]⟩
  clear hRR hit hb hcat hlen
  by_cases hf:S≤32*(k+1)
  ·have hk:rnds S=k+1:=by unfold rnds at h1⊢;omega
   rw[hk];clear hgo hR;have hd1: ∀ _:True,(8*(S:Int)-len).toNat=8*S-len:=fun _=>by omega
   have hd2:8*S-len<8:=by omega
   have hd3:(if 8*S-len≤8 then 8*S-len else 8)=8*S-len:=by rw[if_pos];omega
   have hmask:=fun x:UInt8=>mask_ok ⟨8*S-len,hd2⟩ ⟨x.toNat,x.toNat_lt⟩
   simp only at hmask;generalize hd:8*S-len=d at*;generalize hcc:catB sd at' a (k+1)=o at*;obtain⟨x0,r,rfl⟩: ∃x0 r,o=x0::r:=by
    cases o with
    |nil=>simp at ho
    |cons x0 r=>exact⟨_,_,rfl⟩
   cases k with
   |zero=>
    generalize blkB sd at' a 0=x at*;generalize catB sd at' a 0=c at*;obtain rfl:c=[]:=List.eq_nil_of_length_eq_zero hc;obtain rfl:x=x0::r:=hc1;repeat' first|simp only[go_sem,seval,hx,bcells_cons,hd1 trivial,hd3,hmask]|refine sB ?_|(first|apply pX|apply bX)<;>intro hc|refine⟨oD,?_⟩|exact oD|fail
    rw[mask_take hs1.1];simp only[←bcells_cons];generalize hq:UInt8.ofNat (x0.toNat%2^(8-d))::r=q at*;have hql:q.length=32*(0+1):=by rw[←hq];simpa using ho
    refine loop_run (α:=Nat) (fun i=>S-i) (fun i=>⟨[(8, .p 1007 0 0)],[(1007,⟨0,[.rs 1014 0 i (S-i) 1],false,some 106⟩),(1014,⟨0,bcells q,true,some 5⟩)],1037⟩) (fun i=>i≤S∧stripB ((q.take S).drop i)=stripB (q.take S)) 0 (fun _=>Nat.le_refl _) ⟨Nat.zero_le _,rfl⟩ ?_ ?_
    ·refine AS.Le.of (by decide) ?_ ?_<;>simp[LeT,LeH,tget,hget,AV.bd,AV.bd.bdL,bcells_bd]
    ·rintro i ⟨hi,hst⟩ R2 hR2;rw[←hst]
     by_cases hlt:i<S
     ·have e1:=drop_b (q:=q) hlt (by omega)
      have e2:=bcells_getD (l:=q) (i:=i) (by omega)
      have e3: ∀ _:True,((S-i:Nat):Int)=(S:Int)-i:=fun _=>by omega
      have e4:=drop_bc q S i
      by_cases hz:q.getD i 0=0
      ·have hgo2:=hR2 (i+1) ⟨hlt,by rw[←hst,e1,stripB,if_pos hz]⟩ (by omega)
       clear hR2;repeat' first|simp only[go_sem,seval,e2,hz]|refine sB ?_|(first|apply pX|apply bX)<;>intro hc|refine⟨oD,?_⟩|exact oD|fail
       refine hgo2 _ ?_;refine AS.Le.of (by omega) ?_ ?_<;>simp[LeT,LeH,tget,hget,AV.bd,AV.bd.bdL,bcells_bd,Nat.sub_sub]
      ·rw[e1,stripB,if_neg hz,←e1];have hz2: ∀ _:True,(((q.getD i 0).toNat:Int)==0)=false:=fun _=>by
        rw[beq_eq_false_iff_ne];intro h;exact hz (UInt8.toNat_inj.1 (by exact_mod_cast h))
       repeat' first|simp only[go_sem,seval,e2,hz2 trivial]|refine sB ?_|(first|apply pX|apply bX)<;>intro hc|refine⟨oD,?_⟩|exact oD|fail
       rw[e4];exact⟨⟨by omega,bcells_isB _⟩,by rw[bcells_byte]⟩
     ·obtain rfl:i=S:=by omega
      repeat' first|simp only[go_sem,seval]|refine sB ?_|(first|apply pX|apply bX)<;>intro hc|refine⟨oD,?_⟩|exact oD|fail
      rw[Nat.sub_self,List.take_zero,List.drop_of_length_le (by rw[List.length_take];omega)]
      exact⟨⟨by omega,fun y hy=>by cases hy⟩,rfl⟩
   |succ k=>
    dsimp only;generalize blkB sd at' a (k+1)=x at*;generalize catB sd at' a (k+1)=c at*;have htk:List.take (32*(k+1)) (bcells c)=bcells c:=by rw[←hc];exact bcells_take _
    repeat' first|simp only[go_sem,seval,hx,hc1,htk,bcells_cons,hd1 trivial,hd3,hmask]|refine sB ?_|(first|apply pX|apply bX)<;>intro hc|refine⟨oD,?_⟩|exact oD|fail
    rw[mask_take hs1.1];simp only[←bcells_cons];generalize hq:UInt8.ofNat (x0.toNat%2^(8-d))::r=q at*;have hql:q.length=32*(k+1+1):=by rw[←hq];simpa using ho
    refine loop_run (α:=Nat) (fun i=>S-i) (fun i=>⟨[(8, .p 1007 0 0)],[(1007,⟨0,[.rs 1014 (k+1) i (S-i) 1],false,some 106⟩),(1014,⟨(k+1),bcells q,true,some 5⟩)],1046⟩) (fun i=>i≤S∧stripB ((q.take S).drop i)=stripB (q.take S)) 0 (fun _=>Nat.le_refl _) ⟨Nat.zero_le _,rfl⟩ ?_ ?_
    ·refine AS.Le.of (by decide) ?_ ?_<;>simp[LeT,LeH,tget,hget,AV.bd,AV.bd.bdL,bcells_bd]
    ·rintro i ⟨hi,hst⟩ R2 hR2;rw[←hst]
     by_cases hlt:i<S
     ·have e1:=drop_b (q:=q) hlt (by omega)
      have e2:=bcells_getD (l:=q) (i:=i) (by omega)
      have e3: ∀ _:True,((S-i:Nat):Int)=(S:Int)-i:=fun _=>by omega
      have e4:=drop_bc q S i
      by_cases hz:q.getD i 0=0
      ·have hgo2:=hR2 (i+1) ⟨hlt,by rw[←hst,e1,stripB,if_pos hz]⟩ (by omega)
       clear hR2;repeat' first|simp only[go_sem,seval,e2,hz]|refine sB ?_|(first|apply pX|apply bX)<;>intro hc|refine⟨oD,?_⟩|exact oD|fail
       refine hgo2 _ ?_;refine AS.Le.of (by omega) ?_ ?_<;>simp[LeT,LeH,tget,hget,AV.bd,AV.bd.bdL,bcells_bd,Nat.sub_sub]
      ·rw[e1,stripB,if_neg hz,←e1];have hz2: ∀ _:True,(((q.getD i 0).toNat:Int)==0)=false:=fun _=>by
        rw[beq_eq_false_iff_ne];intro h;exact hz (UInt8.toNat_inj.1 (by exact_mod_cast h))
       repeat' first|simp only[go_sem,seval,e2,hz2 trivial]|refine sB ?_|(first|apply pX|apply bX)<;>intro hc|refine⟨oD,?_⟩|exact oD|fail
       rw[e4];exact⟨⟨by omega,bcells_isB _⟩,by rw[bcells_byte]⟩
     ·obtain rfl:i=S:=by omega
      repeat' first|simp only[go_sem,seval]|refine sB ?_|(first|apply pX|apply bX)<;>intro hc|refine⟨oD,?_⟩|exact oD|fail
      rw[Nat.sub_self,List.take_zero,List.drop_of_length_le (by rw[List.length_take];omega)]
      exact⟨⟨by omega,fun y hy=>by cases hy⟩,rfl⟩
  ·have hgo:=hgo (by unfold rnds;omega)
   cases k with
   |zero=>
    generalize blkB sd at' a 0=x at*;repeat' first|simp only[go_sem,seval,hx]|refine sB ?_|(first|apply pX|apply bX)<;>intro hc|refine⟨oD,?_⟩|exact oD|fail
    refine hgo _ ?_;have hx1:catB sd at' a 1=x:=hc1.symm;refine AS.Le.of (by decide) ?_ ?_<;>simp[LeT,LeH,tget,hget,AV.bd,AV.bd.bdL,hx1,bcells_bd]
   |succ k=>
    have htk:List.take (32*(k+1)) (bcells (catB sd at' a (k+1)))=bcells (catB sd at' a (k+1)):=by rw[←hc];exact bcells_take _
    generalize blkB sd at' a (k+1)=x at*;repeat' first|simp only[go_sem,seval,hx,hc1]|refine sB ?_|(first|apply pX|apply bX)<;>intro hc|refine⟨oD,?_⟩|exact oD|fail
    all_goals first
     |omega
     |skip
    refine hgo _ ?_;refine AS.Le.of (by decide) ?_ ?_<;>simp[LeT,LeH,tget,hget,AV.bd,AV.bd.bdL,htk,bcells_app,hc1,bcells_bd]
    omega
theorem stripB_len: ∀l:Bytes,(stripB l).length≤l.length
 |[]=>Nat.le_refl _
 |x::r=>by
  rw[stripB];split
  ·have:=stripB_len r;rw[List.length_cons];omega
  ·exact Nat.le_refl _
theorem stripB_head: ∀l:Bytes,((stripB l).length==0||(stripB l).headD 0 !=0)=true
 |[]=>rfl
 |x::r=>by
  rw[stripB];split
  ·exact stripB_head r
  ·rename_i h;simp[h]
theorem maskB_len (l:Bytes) (d:Nat):(maskB l d).length=l.length:=by cases l<;>rfl
theorem attB_valid (sd:Bytes) (at' a:Nat) {len:Nat} (h:len≤1024):validN (attB sd at' a len)=true:=by
 unfold validN;rw[Bool.and_eq_true];refine⟨decide_eq_true ?_,stripB_head _⟩;have:=stripB_len (maskB ((catB sd at' a (rnds ((len+7)/8))).take ((len+7)/8)) (8*((len+7)/8)-len));rw[maskB_len,List.length_take]at this;unfold attB;omega
def seek (f:Nat→Bytes) (n a:Nat):Nat→Option Bytes
 |0=>none
 |k+1=>if num (f a)<n then some (f a)else seek f n (a+1) k
def drawO (vs:List Bytes) (sd:Bytes) (i:Nat) (n:Bytes):Except Int Bytes:=
 if i<vs.length then(if num n≤num (vs.getD i [])then .error 2 else .ok (vs.getD i []))
 else if sd=[]∨i=2147483647 then .error 14
 else match seek (fun a=>attB sd i a (blen (num n))) (num n) 0 256 with
  |some x=> .ok x
  |none=> .error 14
def drawP (vs:List Bytes) (sd:Bytes) (i:Nat):Except Int Bytes→PV
 | .ok x=> .tup [.s x,T vs sd (i+1:Nat),E 0]
 | .error e=> .tup [.s [],T [] [] 0,E e]
theorem blenV_le {n:Bytes} (hn:validN n=true):blen (num n)≤1024:=by
 have h1:=num_lt n;have h2:n.length≤128:=by
  unfold validN at hn;rw[Bool.and_eq_true]at hn;exact of_decide_eq_true hn.1
 have h3:num n<2^1024:=Nat.lt_of_lt_of_le h1 (by rw[show(2:Nat)^1024=256^128 by decide+kernel];exact Nat.pow_le_pow_right (by decide) h2)
 unfold blen;split
 ·omega
 ·rename_i h;have:=(Nat.log2_lt h).2 h3;omega
theorem cmpLtD (x y:Nat):decide (cmpN x y<0)=decide (x<y):=by
 have e:=cmpGe x y;rw[eq_iff_iff]at e;rw[decide_eq_decide];omega
theorem geD (x y:Nat):decide (cmpN x y≥0)= !decide (x<y):=by
 have e:=cmpGe x y;rw[eq_iff_iff]at e
 by_cases h:x<y
 ·rw[decide_eq_true h,decide_eq_false (fun g=>by have:=e.1 g;omega)];rfl
 ·rw[decide_eq_false h,decide_eq_true (e.2 (by omega))];rfl
theorem drawG_ok {vs:List Bytes} {sd:Bytes} {i:Nat} {n:Bytes} (hv:vs.all validN=true) (hn:validN n=true) (h0:num n≠0) (hi:i≤2147483647) (hl:vs.length<1000000) (hsd:sd.length<1000000):EvP Tryz.prog 98 [T vs sd i, .s n] (drawP vs sd i (drawO vs sd i n)):=by
 by_cases hiv:i<vs.length
 ·have h:=draw_ok sd hv hn hiv hl;unfold drawR at h;unfold drawO;rw[if_pos hiv];split
  ·rename_i hle;rw[if_pos hle]at h;exact h
  ·rename_i hle;rw[if_neg hle]at h;exact h
 unfold drawO;rw[if_neg hiv]
 by_cases hs:sd=[]∨i=2147483647
 ·rw[if_pos hs];have hnl: ∀ _:True,(([]:Bytes)==[])=true:=fun _=>rfl
  have h47: ∀ _:True,((2147483647:Int)==2147483647)=true:=fun _=>rfl
  rcases hs with rfl|rfl
  ·refine eW Tryz.call98 Tryz.func98 ?_;repeat' first|simp only[go_sem,seval,hnl trivial]|refine sB ?_|(first|apply pX|apply bX)<;>intro hc|refine⟨oD,?_⟩|exact oD|fail
   all_goals rfl
  ·cases hsb:sd==[]with
   |true=>
    refine eW Tryz.call98 Tryz.func98 ?_;repeat' first|simp only[go_sem,seval,hsb]|refine sB ?_|(first|apply pX|apply bX)<;>intro hc|refine⟨oD,?_⟩|exact oD|fail
    all_goals rfl
   |false=>
    refine eW Tryz.call98 Tryz.func98 ?_;repeat' first|simp only[go_sem,seval,hsb,h47 trivial]|refine sB ?_|(first|apply pX|apply bX)<;>intro hc|refine⟨oD,?_⟩|exact oD|fail
    all_goals rfl
 rw[if_neg hs];have hs1:sd≠[]:=fun h=>hs (.inl h)
 have hs2:i≠2147483647:=fun h=>hs (.inr h)
 have hbl:=blenV_le hn;have hb0:0<blen (num n):=by unfold blen;rw[if_neg h0];omega
 have hB:=Bits_ok hn;have hA:=fun a (ha:a<256)=>attempt_ok (vs:=vs) (sd:=sd) (at':=i) (a:=a) (len:=blen (num n)) hl hsd (by omega) (by omega) hb0 (by omega)
 have hC:=fun a=>Cmp_ok (attB sd i a (blen (num n))) n
 have hV:=fun a=>attB_valid sd i a hbl
 obtain⟨r1,r2,r3,r4⟩:=rowS vs;have hsb:(sd==[])=false:=by rw[beq_eq_false_iff_ne];exact hs1
 have hi47: ∀ _:True,((i:Int)==2147483647)=false:=fun _=>by rw[beq_eq_false_iff_ne];omega
 generalize hf:(fun a=>attB sd i a (blen (num n)))=f
 have hA: ∀a:Nat,a<256→EvP Tryz.prog 210 [T vs sd i, .i .i64 a, .i .i64 (blen (num n))] (.s (f a)):=by rw[←hf];exact hA
 have hC: ∀a,EvP Tryz.prog 85 [.s (f a), .s n] (E (cmpN (num (f a)) (num n))):=by
  intro a;have h:=hC a;rw[hV,hn]at h;rw[←hf];exact h
 refine eW Tryz.call98 Tryz.func98 ?_;repeat' first|simp only[go_sem,seval,hsb,hi47 trivial]|refine sB ?_|(first|apply pX|apply bX)<;>intro hc|refine⟨oD,?_⟩|exact oD|fail
 refine⟨⟨fun x hx=>cells_S hx,fun y hy=>one_SA hy,by rw[flat_rep];exact Nat.le_refl _⟩,?_⟩
 refine loop_run (α:=Nat) (fun a=>256-a) (fun a=>⟨[(73, .v (.i .i64 a)),(1, .v (.s n)),(2, .p 1000 0 0),(5, .p 1002 0 0),(7, .p 1047 0 0)],[(1000,⟨0,[.v (.sl (vs.map .s)), .v (.s sd), .v (.i .i64 i)],false,none⟩),(1002,⟨0,[.sn, .v (.s []), .v (.i .i64 0)],false,some 35⟩),(1040,⟨0,List.map AV.v (vs.map .s),false,none⟩),(1047,⟨0,[.rs 1040 0 0 vs.length 1, .v (.s sd), .v (.i .i64 ((i:Int)+1))],false,some 35⟩)],1061⟩) (fun a=>a≤256∧seek f (num n) a (256-a)=seek f (num n) 0 256) 0 (fun _=>Nat.le_refl _) ⟨Nat.zero_le _,rfl⟩ ?_ ?_
 ·refine AS.Le.of (by decide) ?_ ?_<;>simp[LeT,LeH,tget,hget,AV.bd,AV.bd.bdL,flat_S,r1,r3]
  rw[List.take_of_length_le (by simp)]
 ·rintro a ⟨ha,hst⟩ R hR;rw[←hst]
  by_cases hlt:a<256
  ·obtain⟨m,hm⟩: ∃m,256-a=m+1:=⟨255-a,by omega⟩
   have hAa:=hA a hlt;have hCa:=hC a;have hgo:=hR (a+1);rw[hm,seek]
   by_cases hle:num (f a)<num n
   ·rw[if_pos hle];have hcm: ∀ _:True,decide (cmpN (num (f a)) (num n)<0)=true:=fun _=>by rw[cmpLtD];exact decide_eq_true hle
    generalize cmpN (num (f a)) (num n)=cm at*;repeat' first|simp only[go_sem,seval,hcm trivial,r1,r2,r3,r4,flat_S,mapO_view_v]|refine cP hB ?_|refine cP hAa ?_|refine cP hCa ?_|refine sB ?_|(first|apply pX|apply bX)<;>intro hc|refine⟨oD,?_⟩|exact oD|fail
    rfl
   ·rw[if_neg hle];have hgo:=hgo ⟨hlt,by rw[←hst,hm,seek,if_neg hle,show 256-(a+1)=m from by omega]⟩ (by omega)
    have hcm: ∀ _:True,decide (cmpN (num (f a)) (num n)<0)=false:=fun _=>by rw[cmpLtD];exact decide_eq_false hle
    generalize cmpN (num (f a)) (num n)=cm at*;repeat' first|simp only[go_sem,seval,hcm trivial]|refine cP hB ?_|refine cP hAa ?_|refine cP hCa ?_|refine sB ?_|(first|apply pX|apply bX)<;>intro hc|refine⟨oD,?_⟩|exact oD|fail
    refine hgo _ ?_;refine AS.Le.of (by decide) ?_ ?_<;>simp[LeT,LeH,tget,hget,AV.bd,AV.bd.bdL]
  ·obtain rfl:a=256:=by omega
   repeat' first|simp only[go_sem,seval]|refine sB ?_|(first|apply pX|apply bX)<;>intro hc|refine⟨oD,?_⟩|exact oD|fail
   all_goals rfl
theorem readyG {vs:List Bytes} {i:Nat} {n:Bytes} (hv:vs.all validN=true) (hn:validN n=true) (h0:n≠[]) (hi:i≤2147483647):readyE vs i n=0:=by
 have h1:(vs.any fun x=> !validN x)=false:=by
  rw[Bool.eq_false_iff];intro g;obtain⟨x,hx,h⟩:=List.any_eq_true.1 g;simp[List.all_eq_true.1 hv x hx]at h
 have h2:goodT vs i=true:=by
  unfold goodT;rw[h1,decide_eq_true (show(i:Int)≥0 by omega),decide_eq_true (show(i:Int)≤2147483647 by omega)];rfl
 simp[readyE,h2,hn,h0]
theorem num_ne {n:Bytes} (hn:validN n=true) (h0:n≠[]):num n≠0:=fun h=>h0 ((num_zero hn).1 h)
end Go.Proofs.YtmledjfbgjnknaaGreatDoor
namespace Go.Proofs.YtmledjfbgjnknaaGreatDoor
open Go Go.Dom
set_option maxRecDepth 100000
set_option maxHeartbeats 16000000
theorem CloneN0:EvP Tryz.prog 191 [.sl []] (.sl []):=by
 refine eW Tryz.call191 Tryz.func191 ?_;repeat' first|simp only[go_sem,seval]|refine sB ?_|(first|apply pX|apply bX)<;>intro hc|refine⟨oD,?_⟩|exact oD|fail
def X0 (c sl:Bytes) (s:Stm):PV:= .agg [.s c, .s sl, .sl (s.groups.map gpv), .sl (s.vars.map vpv), .sl (s.eqs.map Eqn.pv), .sl [], .sl [], .s []]
theorem newSetting_ok {c sl:Bytes} (hr:RuOK c sl) {s:Stm} (hs:StOK s) (h0:s.vars≠[]):EvP Tryz.prog 53 [.agg [.s c, .s sl],s.pv,C0] (.tup [X0 c sl s,E 0]):=by
 have hb:=sBounds_ok hr hs h0;obtain⟨gs,vs,es⟩:=s;simp only[Stm.pv,X0]at hb⊢;refine eW Tryz.call53 Tryz.func53 ?_;repeat' first|simp only[go_sem,seval]|refine cP hb ?_|refine cP bCheck0 ?_|refine sB ?_|(first|apply pX|apply bX)<;>intro hc|refine⟨oD,?_⟩|exact oD|fail
abbrev sDom:Bytes:=[100,111,109,105,110,111,32,112,114,111,111,102]
abbrev sCtx:Bytes:=[99,111,110,116,101,120,116]
abbrev sFor:Bytes:=[102,111,114,109,117,108,97]
abbrev sFst:Bytes:=[102,105,114,115,116]
def fsS (ctx:Bytes) (s:Stm) (fs:List Bytes):Bytes:=trNats (trAdd (bindS (trAdd (trNew sDom) sCtx ctx) s) sFor []) sFst fs
theorem bindS_len {st:Bytes} {s:Stm} (hs:BdS s):(bindS st s).length=32:=by
 unfold bindS;exact bindF_len (trNats_len _ _ _) fun q hq=>by obtain⟨-,-,-,t,ht,-⟩:=hs.q q hq;exact⟨t,ht⟩
theorem challenge_ok {c sl:Bytes} (hr:RuOK c sl) {s:Stm} (hb:BdS s) {ctx:Bytes} (hx:ctx.length≤100000) {fs:List Bytes} (f0:fs≠[]) (fn:fs.length≤900) (fl: ∀x∈fs,x.length≤100000):
  EvP Tryz.prog 57 [X0 c sl s, .s ctx, .sl (fs.map .s), .sl []] (.tup [N (trChal (fsS ctx s fs) c),E 0]):=by
 have c0:c≠[]:=by
  intro h;have:=hr.c2;rw[h]at this;exact absurd this (by decide)
 have n1:=tNew_ok sDom (by decide)
 have n2:=tAdd_ok (trNew sDom) sCtx ctx (by rw[trNew_len];decide) (by decide) hx
 have n3:=Bind_ok (st:=trAdd (trNew sDom) sCtx ctx) (by rw[trAdd_len];decide) hb
 have n4:=tAdd_ok (bindS (trAdd (trNew sDom) sCtx ctx) s) sFor [] (by rw[bindS_len hb];decide) (by decide) (by decide)
 have n5:=tNats_ok (trAdd (bindS (trAdd (trNew sDom) sCtx ctx) s) sFor []) sFst fs (by rw[trAdd_len];decide) (by decide) f0 fn fl
 have n6:=tChallenge_ok (fsS ctx s fs) c (by rw[fsS,trNats_len];decide) hr.vc c0 hr.lc
 have n5:EvP Tryz.prog 131 [.s (trAdd (bindS (trAdd (trNew sDom) sCtx ctx) s) sFor []), .s sFst, .sl (fs.map .s)] (.s (fsS ctx s fs)):=n5;generalize fsS ctx s fs=st5 at*;generalize bindS (trAdd (trNew sDom) sCtx ctx) s=st3 at*;obtain⟨gq,vs,es⟩:=s;simp only[X0,Stm.pv]at n3⊢;refine eW Tryz.call57 Tryz.func57 ?_;repeat' first|simp only[go_sem,seval]|refine cP n1 ?_|refine cP n2 ?_|refine cP n3 ?_|refine cP n4 ?_|refine cP n5 ?_|refine cP n6 ?_|refine cP fText0 ?_|(refine loop_unroll' ?_)|refine sB ?_|(first|apply pX|apply bX)<;>intro hc|refine⟨oD,?_⟩|exact oD|fail
noncomputable def fmsg (s:Stm) (ch:Bytes) (rs:List (Bool×Bytes)):List Bytes:=s.eqs.map fun q=>bts (msgQ s.groups ch rs q)
end Go.Proofs.YtmledjfbgjnknaaGreatDoor
namespace Go.Proofs.YtmledjfbgjnknaaGreatDoor
open Go Go.Dom Go.Num
set_option maxRecDepth 100000
def signO (vs:List Bytes) (sd:Bytes) (i M:Nat):Except Int Int:=
 match drawO vs sd i (bts (2*M-1))with
 | .error e=> .error e
 | .ok x=> .ok ((num x:Int)-(M-1:Nat))
def maskG (vs:List Bytes) (sd:Bytes):List Nat→Nat→List Int→Except Int (List Int)
 |[],_,acc=> .ok acc
 |M::Ms,i,acc=>match signO vs sd i M with
  | .error e=> .error e
  | .ok z=>maskG vs sd Ms (i+1) (acc++[z])
def respZ (ms w:List Int) (c:Nat):List Int:=List.zipWith (fun a x=>a+c*x) ms w
def inR (c sl:Bytes) (vars:List Bytes) (rs:List Int):Bool:=(List.range vars.length).all fun i=>decide ((rs.getD i 0).natAbs<limR c sl (vars.getD i []))
noncomputable def tryG (c sl ctx:Bytes) (s:Stm) (w:List Int) (vs:List Bytes) (sd:Bytes):Nat→Nat→Except Int (Bytes×List Int×Nat)
 |0,_=> .error 15
 |k+1,i=>match maskG vs sd (s.vars.map (limM c sl)) i []with
  | .error e=> .error e
  | .ok ms=>
   let ch:=trChal (fsS ctx s (imgL s (ms.map ipz))) c
   if inR c sl s.vars (respZ ms w ch)then .ok (bts ch,respZ ms w ch,i+s.vars.length)else tryG c sl ctx s w vs sd k (i+s.vars.length)
theorem maskG_len (vs:List Bytes) (sd:Bytes): ∀(Ms:List Nat) (i:Nat) (acc l:List Int),maskG vs sd Ms i acc= .ok l→l.length=acc.length+Ms.length:=by
 intro Ms
 induction Ms with
 |nil=>intro i acc l h;injection h with h;rw[←h];rfl
 |cons M Ms ih=>
  intro i acc l h;rw[maskG]at h
  split at h
  ·cases h
  ·have:=ih _ _ _ h;simp at this⊢;omega
theorem tryG_ok {c sl ctx:Bytes} {s:Stm} {w:List Int} {vs:List Bytes} {sd:Bytes}: ∀{k i:Nat} {ch:Bytes} {rs:List Int} {j:Nat},tryG c sl ctx s w vs sd k i= .ok (ch,rs,j)→ ∃ms:List Int,ms.length=s.vars.length∧ch=bts (trChal (fsS ctx s (imgL s (ms.map ipz))) c)∧rs=respZ ms w (trChal (fsS ctx s (imgL s (ms.map ipz))) c)∧inR c sl s.vars rs=true:=by
 intro k
 induction k with
 |zero=>intro i ch rs j h;cases h
 |succ k ih=>
  intro i ch rs j h;rw[tryG]at h
  split at h
  ·cases h
  ·rename_i ms hms;simp only at h
   split at h
   ·rename_i hin;injection h with h
    injection h with h1 h2
    injection h2 with h2 h3
    subst h1 h2;exact⟨ms,by rw[maskG_len _ _ _ _ _ _ hms];simp,rfl,rfl,hin⟩
   ·exact ih h
theorem getD_ipz (l:List Int) (i:Nat) (h:i<l.length):(l.map ipz).getD i d0I=ipz (l.getD i 0):=by
 simp[List.getD_eq_getElem?_getD,h]
theorem getD_resp {ms w:List Int} {c i:Nat} (h1:i<ms.length) (h2:i<w.length):(respZ ms w c).getD i 0=ms.getD i 0+c*w.getD i 0:=by
 simp[respZ,List.getD_eq_getElem?_getD,List.getElem?_zipWith,h1,h2]
theorem trChal_lt (st:Bytes) {c:Bytes} (h:2≤num c):trChal st c<num c:=Nat.mod_lt _ (by omega)
end Go.Proofs.YtmledjfbgjnknaaGreatDoor
namespace Go.Proofs.YtmledjfbgjnknaaGreatDoor
open Go Go.Dom Go.Num
set_option maxRecDepth 100000
set_option maxHeartbeats 16000000
theorem decA2 (m:Nat) (h:m<10):List.drop m (48::List.take m ([49,50,51,52,53,54,55,56,57]:Bytes))=[UInt8.ofNat (48+m)]:=by
 have:=decA ⟨m,h⟩;unfold decN at this;simp only at this;rw[if_pos h]at this;exact this
theorem rDecimalG (n:Nat) (hn:n<4294967296):EvP Tryz.prog 297 [.i .i64 (n:Int)] (.s (Lib.decDigits n)):=by
 induction n using Nat.strongRecOn with
 | _ n ih=>
 by_cases h:n<10
 ·have hb:=decA2 n h;rw[Lib.decDigits_one h];have t1: ∀ _:True,((n:Int)+1).toNat=n+1:=fun _=>by omega
  refine eW Tryz.call297 Tryz.func297 ?_;repeat' first|simp only[go_sem,seval,t1 trivial]|refine sB ?_|(first|apply pX|apply bX)<;>intro hc|refine⟨oD,?_⟩|exact oD|fail
  all_goals first|omega|exact congrArg PV.s hb|skip
 ·have h1:=ih (n/10) (by omega) (by omega)
  have hb:=decA2 (n%10) (Nat.mod_lt _ (by decide))
  have t1: ∀ _:True,(((n%10:Nat):Int)+1).toNat=n%10+1:=fun _=>by omega
  have l1:=dec_len (n:=n/10) (by omega)
  rw[Lib.decDigits,dif_neg h];refine eW Tryz.call297 Tryz.func297 ?_;repeat' first|simp only[go_sem,seval,t1 trivial]|refine cP h1 ?_|refine sB ?_|(first|apply pX|apply bX)<;>intro hc|refine⟨oD,?_⟩|exact oD|fail
  rw[hb];exact⟨by simp;omega,rfl,rfl⟩
theorem anyNot {α:Type} (l:List α) (p:α→Bool):(l.any fun x=> !p x)= !l.all p:=by
 induction l with
 |nil=>rfl
 |cons x l ih=>rw[List.any_cons,List.all_cons,ih];cases p x<;>simp
theorem goodT_ok {vs:List Bytes} {a:Int} (h:goodT vs a=true):vs.all validN=true∧0≤a∧a≤2147483647:=by
 unfold goodT at h;rw[anyNot,Bool.not_not]at h;simp only[Bool.and_eq_true,decide_eq_true_eq]at h;exact⟨h.2,h.1.1,h.1.2⟩
theorem goodT_of {vs:List Bytes} {i:Nat} (h:vs.all validN=true) (hi:i≤2147483647):goodT vs i=true:=by
 unfold goodT;rw[anyNot,h,decide_eq_true (show(i:Int)≥0 by omega),decide_eq_true (show(i:Int)≤2147483647 by omega)];rfl
def xorQ (k:Bytes) (c:UInt8) (i:Nat):Bytes:=(List.range 64).map fun j=>if j<i then k.getD j 0^^^c else 0
theorem xorQ_len (k:Bytes) (c:UInt8) (i:Nat):(xorQ k c i).length=64:=by simp[xorQ]
theorem xorQ_all (k:Bytes) (c:UInt8):xorQ k c 64=xorB k c:=by
 unfold xorQ xorB xorP;refine List.map_congr_left ?_;intro j hj;rw[List.mem_range]at hj;rw[if_pos hj,if_pos hj]
theorem xorQ_set {k:Bytes} {c:UInt8} {i:Nat} (h:i<64):(xorQ k c i).set i (k.getD i 0^^^c)=xorQ k c (i+1):=by
 apply List.ext_getElem
 ·simp[xorQ]
 ·intro n h1 h2;rw[List.getElem_set];simp only[xorQ,List.getElem_map,List.getElem_range]
  by_cases hn:i=n
  ·subst hn;simp
  ·rw[if_neg hn];have:(n<i)=(n<i+1):=by simp;omega
   simp only[this]
theorem xorB_len (k:Bytes) (c:UInt8):(xorB k c).length=64:=xorP_len k c 64
theorem bset' (l:Bytes) {o:Nat} (c:UInt8) (h:o<l.length):(bcells l).take o++[.v (.i .u8 (c.toNat:Int))]++(bcells l).drop (o+1)=bcells (l.set o c):=by rw[List.append_assoc];exact bset l c h
theorem xored_ok (k:Bytes) (c:UInt8):EvP Tryz.prog 458 [.s k, .i .u8 (c.toNat:Int)] (.s (xorB k c)):=by
 have z:bcells (xorQ k c 0)=List.replicate 64 (.v (.i .u8 0)):=rfl;refine eW Tryz.call458 Tryz.func458 ?_;repeat' first|simp only[go_sem,seval]|refine sB ?_|(first|apply pX|apply bX)<;>intro hc|refine⟨oD,?_⟩|exact oD|fail
 refine loop_run (α:=Nat) (fun i=>64-i) (fun i=>⟨[(0, .v (.s k)),(1, .v (.i .u8 (c.toNat:Int))),(5, .rs 1001 0 0 64 1),(6,E' i)],[(1001,⟨0,bcells (xorQ k c i),false,none⟩)],_⟩) (fun i=>i≤64) 0 (fun _=>Nat.le_refl _) (Nat.zero_le _) ?_ ?_
 ·rw[z];exact lE
 ·intro i hi R hR
  by_cases hlt:i<64
  ·have hgo:=hR (i+1) (by omega) (by omega)
   rw[←xorQ_set hlt]at hgo;have b1:=bset' (xorQ k c i) (o:=i) c (by rw[xorQ_len];exact hlt)
   have b2:=bset' ((xorQ k c i).set i c) (o:=i) (k.getD i 0^^^c) (by rw[List.length_set,xorQ_len];exact hlt)
   rw[List.set_set]at b2;have g3:=xor8 (k.getD i 0) c
   by_cases hik:i<k.length
   ·repeat' first|simp only[go_sem,seval,b1,b2,g3,xorQ_len,List.length_set]|refine sB ?_|(first|apply pX|apply bX)<;>intro hc|refine⟨oD,?_⟩|exact oD|fail
    refine hgo _ ?_;exact lE
   ·have e0:k.getD i 0=0:=by rw[List.getD_eq_getElem?_getD,List.getElem?_eq_none (by omega)];rfl
    rw[e0,UInt8.zero_xor]at hgo;repeat' first|simp only[go_sem,seval,b1,xorQ_len]|refine sB ?_|(first|apply pX|apply bX)<;>intro hc|refine⟨oD,?_⟩|exact oD|fail
    refine hgo _ ?_;exact lE
  ·obtain rfl:i=64:=by omega
   have t1:List.take 64 (bcells (xorQ k c 64))=bcells (xorQ k c 64):=List.take_of_length_le (by rw[bcells_len,xorQ_len];exact Nat.le_refl _)
   repeat' first|simp only[go_sem,seval,t1]|refine sB ?_|(first|apply pX|apply bX)<;>intro hc|refine⟨oD,?_⟩|exact oD|fail
   rw[xorQ_all];exact⟨⟨by rw[xorB_len];exact Nat.le_refl _,bcells_isB _⟩,by rw[bcells_byte]⟩
theorem rcanon_ok (l:Bytes) (hl:l.length<1000000):EvP Tryz.prog 434 [.s l] (.s (stripB l)):=by
 refine eW Tryz.call434 Tryz.func434 ?_;repeat' first|simp only[go_sem,seval]|refine sB ?_|(first|apply pX|apply bX)<;>intro hc|refine⟨oD,?_⟩|exact oD|fail
 refine loop_run (α:=Bytes) (fun x=>x.length) (fun x=>⟨[(0, .v (.s x))],[],_⟩) (fun x=>x.length<1000000∧stripB x=stripB l) l (fun _=>Nat.le_refl _) ⟨hl,rfl⟩ ?_ ?_
 ·exact lE
 ·rintro x ⟨hx,he⟩ R hR;rw[←he]
  cases x with
  |nil=>
   repeat' first|simp only[go_sem,seval]|refine sB ?_|(first|apply pX|apply bX)<;>intro hc|refine⟨oD,?_⟩|exact oD|fail
   all_goals rfl
  |cons y r=>
   have hgo:=hR r;simp only[stripB]
   by_cases hy:y=0
   ·rw[if_pos hy];simp only[stripB,if_pos hy]at he;have hg2:=hgo ⟨by simp at hx;omega,he⟩ (by simp)
    clear hgo hR;subst hy;repeat' first|simp only[go_sem,seval]|refine sB ?_|(first|apply pX|apply bX)<;>intro hc|refine⟨oD,?_⟩|exact oD|fail
    refine hg2 _ ?_;exact lE
   ·rw[if_neg hy];have hz: ∀ _:True,((y.toNat:Int)==0)=false:=fun _=>by
     rw[beq_eq_false_iff_ne];intro h;exact hy (UInt8.toNat_inj.1 (by exact_mod_cast h))
    clear hgo hR;repeat' first|simp only[go_sem,seval,hz trivial]|refine sB ?_|(first|apply pX|apply bX)<;>intro hc|refine⟨oD,?_⟩|exact oD|fail
    all_goals rfl
theorem rMac_ok {k s:Bytes} (hk:k.length<1000000) (hs:s.length<1000000):EvP Tryz.prog 433 [.s k, .s s] (.s (macB k s)):=by
 have h1:=xored_ok (macK k) 92;have h2:=xored_ok (macK k) 54;have h3:=rSum_ok (s:=xorB (macK k) 54++s) (by rw[List.length_append];have:=xorP_len (macK k) 54 64;unfold xorB;omega)
 have h4:=rSum_ok (s:=xorB (macK k) 92++sumB (xorB (macK k) 54++s)) (by rw[List.length_append,sumB_len];have:=xorP_len (macK k) 92 64;unfold xorB;omega)
 have g1:((92:UInt8).toNat:Int)=92:=rfl;have g2:((54:UInt8).toNat:Int)=54:=rfl;rw[g1]at h1;rw[g2]at h2;have hz:=rSum_ok (s:=k) (by omega)
 unfold macB;unfold macK at*
 by_cases hl:k.length>64
 ·rw[if_pos hl]at*;refine eW Tryz.call433 Tryz.func433 ?_;repeat' first|simp only[go_sem,seval,xorB_len,sumB_len]|refine cP hz ?_|refine cP h1 ?_|refine cP h2 ?_|refine cP h3 ?_|refine cP h4 ?_|refine sB ?_|(first|apply pX|apply bX)<;>intro hc|refine⟨oD,?_⟩|exact oD|fail
  all_goals rfl
 ·rw[if_neg hl]at*;refine eW Tryz.call433 Tryz.func433 ?_;repeat' first|simp only[go_sem,seval,xorB_len,sumB_len]|refine cP h1 ?_|refine cP h2 ?_|refine cP h3 ?_|refine cP h4 ?_|refine sB ?_|(first|apply pX|apply bX)<;>intro hc|refine⟨oD,?_⟩|exact oD|fail
  all_goals rfl
end Go.Proofs.YtmledjfbgjnknaaGreatDoor
namespace Go.Proofs.YtmledjfbgjnknaaGreatDoor
open Go Go.Dom
set_option maxRecDepth 100000
set_option maxHeartbeats 16000000
theorem rInts22_ok (l:List (Bool×Bytes)) (hl:l.length<4611686018427387904):EvP Tryz.prog 67 [.sl (l.map ipv)] (.b (l.all izok)):=by
 have l5:(l.map ipv).length=l.length:=List.length_map ..;refine eW Tryz.call67 Tryz.func67 ?_;repeat' first|simp only[go_sem,seval]|refine sB ?_|(first|apply pX|apply bX)<;>intro hc|refine⟨oD,?_⟩|exact oD|fail
 refine loop_run (α:=Nat) (fun i=>l.length-i) (fun i=>⟨[(0, .v (.sl (l.map ipv))),(3,E' i)],[],_⟩) (fun i=>i≤l.length∧(l.drop i).all izok=l.all izok) 0 (fun _=>Nat.le_refl _) ⟨Nat.zero_le _,rfl⟩ ?_ ?_
 ·exact lE
 ·rintro i ⟨hi,hf⟩ R hR;rw[←hf]
  by_cases hlt:i<l.length
  ·have e1:=getD_map ipv l d0I hlt;have hgo:=hR (i+1);rw[←hf]at hgo;rw[drop_getD d0I hlt,List.all_cons]at hgo⊢;obtain⟨x,hx⟩: ∃x,x=l.getD i d0I:=⟨_,rfl⟩;rw[←hx]at e1 hgo⊢;clear hx hf hR;obtain⟨n,a⟩:=x;have hv:=rIValid_ok n a;have e:izok (n,a)=(validN a&& !(n&&a==[])):=rfl;rw[e]at hgo⊢;clear e;simp only[ipv]at e1;generalize (validN a&& !(n&&a==[]))=b at*;cases b
   ·repeat' first|simp only[go_sem,seval,l5,e1]|refine cP hv ?_|refine sB ?_|(first|apply pX|apply bX)<;>intro hc|refine⟨oD,?_⟩|exact oD|fail
    all_goals simp
   ·have hgo:=hgo ⟨by omega,by simp⟩ (by omega)
    repeat' first|simp only[go_sem,seval,l5,e1]|refine cP hv ?_|refine sB ?_|(first|apply pX|apply bX)<;>intro hc|refine⟨oD,?_⟩|exact oD|fail
    refine hgo _ ?_;exact lE
  ·obtain rfl:i=l.length:=by omega
   rw[List.drop_length];repeat' first|simp only[go_sem,seval,l5]|refine sB ?_|(first|apply pX|apply bX)<;>intro hc|refine⟨oD,?_⟩|exact oD|fail
   all_goals rfl
theorem rNats22_ok (l:List Bytes) (hl:l.length<4611686018427387904):EvP Tryz.prog 170 [.sl (l.map .s)] (.b (l.all validN)):=by
 have l5:(l.map PV.s).length=l.length:=List.length_map ..;refine eW Tryz.call170 Tryz.func170 ?_;repeat' first|simp only[go_sem,seval]|refine sB ?_|(first|apply pX|apply bX)<;>intro hc|refine⟨oD,?_⟩|exact oD|fail
 refine loop_run (α:=Nat) (fun i=>l.length-i) (fun i=>⟨[(0, .v (.sl (l.map .s))),(3,E' i)],[],_⟩) (fun i=>i≤l.length∧(l.drop i).all validN=l.all validN) 0 (fun _=>Nat.le_refl _) ⟨Nat.zero_le _,rfl⟩ ?_ ?_
 ·exact lE
 ·rintro i ⟨hi,hf⟩ R hR;rw[←hf]
  by_cases hlt:i<l.length
  ·have e1:=getD_map PV.s l ([]:Bytes) hlt;have hgo:=hR (i+1);rw[←hf]at hgo;rw[drop_getD ([]:Bytes) hlt,List.all_cons]at hgo⊢;generalize l.getD i []=a at*;clear hf hR;have hv:=rValid_ok a;generalize validN a=b at*;cases b
   ·repeat' first|simp only[go_sem,seval,l5,e1]|refine cP hv ?_|refine sB ?_|(first|apply pX|apply bX)<;>intro hc|refine⟨oD,?_⟩|exact oD|fail
    all_goals simp
   ·have hgo:=hgo ⟨by omega,by simp⟩ (by omega)
    repeat' first|simp only[go_sem,seval,l5,e1]|refine cP hv ?_|refine sB ?_|(first|apply pX|apply bX)<;>intro hc|refine⟨oD,?_⟩|exact oD|fail
    refine hgo _ ?_;exact lE
  ·obtain rfl:i=l.length:=by omega
   rw[List.drop_length];repeat' first|simp only[go_sem,seval,l5]|refine sB ?_|(first|apply pX|apply bX)<;>intro hc|refine⟨oD,?_⟩|exact oD|fail
   all_goals rfl
theorem rSetting_ok {c sl:Bytes} (hr:RuOK c sl) {s:Stm} (hs:StOK s) (h0:s.vars≠[]):EvP Tryz.prog 66 [.agg [.s c, .s sl],s.pv,C0] (E 0):=by
 have hb:=r16Bounds_ok hr hs h0;obtain⟨gs,vs,es⟩:=s;simp only[Stm.pv]at hb⊢;refine eW Tryz.call66 Tryz.func66 ?_;repeat' first|simp only[go_sem,seval]|refine cP hb ?_|refine cP rbCheck0 ?_|refine sB ?_|(first|apply pX|apply bX)<;>intro hc|refine⟨oD,?_⟩|exact oD|fail
 all_goals skip
theorem rChallenge22_ok {c sl:Bytes} (hr:RuOK c sl) {s:Stm} (hs:StOK s) (hb:BdS s) {ctx:Bytes} (hx:ctx.length≤100000) {fs:List Bytes} (f0:fs≠[]) (fe:fs.length=s.eqs.length) (fl: ∀x∈fs,x.length≤8) (fv:fs.all validN=true):
  EvP Tryz.prog 75 [.agg [.s c, .s sl], .s ctx,s.pv,C0, .sl (fs.map .s), .sl []] (.tup [N (trChal (fsS ctx s fs) c),E 0]):=by
 have fn:fs.length≤900:=by rw[fe];have:=hb.ne;omega
 have fl: ∀x∈fs,x.length≤100000:=fun x hx=>by have:=fl x hx;omega
 have c0:c≠[]:=by
  intro h;have:=hr.c2;rw[h]at this;exact absurd this (by decide)
 have hst:=rSetting_ok hr hs hb.v0;have hv:=rNats22_ok fs (by omega)
 rw[fv]at hv;have n1:=rNew_ok sDom (by decide)
 have n2:=rAdd12_ok (trNew sDom) sCtx ctx (by rw[trNew_len];decide) (by decide) hx
 have n3:=rBind_ok (st:=trAdd (trNew sDom) sCtx ctx) (by rw[trAdd_len];decide) hb
 have n4:=rAdd12_ok (bindS (trAdd (trNew sDom) sCtx ctx) s) sFor [] (by rw[bindS_len hb];decide) (by decide) (by decide)
 have n5:=rNats12_ok (trAdd (bindS (trAdd (trNew sDom) sCtx ctx) s) sFor []) sFst fs (by rw[trAdd_len];decide) (by decide) f0 fn fl
 have n6:=rChallenge12_ok (fsS ctx s fs) c (by rw[fsS,trNats_len];decide) hr.vc c0 hr.lc
 have n5:EvP Tryz.prog 175 [.s (trAdd (bindS (trAdd (trNew sDom) sCtx ctx) s) sFor []), .s sFst, .sl (fs.map .s)] (.s (fsS ctx s fs)):=n5;generalize fsS ctx s fs=st5 at*;generalize bindS (trAdd (trNew sDom) sCtx ctx) s=st3 at*;obtain⟨gq,vs,es⟩:=s;have l1:(fs.map PV.s).length=es.length:=by rw[List.length_map];exact fe
 have l2:(es.map Eqn.pv).length=es.length:=List.length_map ..;simp only[Stm.pv]at n3 hst⊢;refine eW Tryz.call75 Tryz.func75 ?_;repeat' first|simp only[go_sem,seval,l1,l2]|refine cP hst ?_|refine cP hv ?_|refine cP n1 ?_|refine cP n2 ?_|refine cP n3 ?_|refine cP n4 ?_|refine cP n5 ?_|refine cP n6 ?_|refine cP rfText0 ?_|(refine loop_unroll' ?_)|refine sB ?_|(first|apply pX|apply bX)<;>intro hc|refine⟨oD,?_⟩|exact oD|fail
end Go.Proofs.YtmledjfbgjnknaaGreatDoor
