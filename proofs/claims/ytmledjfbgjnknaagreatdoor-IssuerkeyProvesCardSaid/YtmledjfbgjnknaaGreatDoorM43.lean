/-
  Part of the proof, part 43. Own work.
-/
import Derived.Test.YtmledjfbgjnknaaGreatDoorM41
set_option linter.all false
namespace Go.Proofs.YtmledjfbgjnknaaGreatDoor
open Go Go.Dom Go.Num
set_option maxRecDepth 100000
set_option maxHeartbeats 16000000
theorem catB_len (sd:Bytes) (at' a k:Nat):(catB sd at' a k).length=32*k:=by
 induction k with
 |zero=>rfl
 |succ k ih=>rw[catB,List.length_append,ih,blkB,macB,sumB_len];omega
theorem rattempt_ok {sd:Bytes} {at' a len:Nat} (hsd:sd.length<1000000) (ha:at'<4294967296) (ha2:a<4294967296) (hl0:0<len) (hl:len<100000):EvP Tryz.prog 376 [.s sd, .i .i64 at', .i .i64 a, .i .i64 len] (.s (attB sd at' a len)):=by
 have hsz: ∀ _:True,IntKind.i64.wrap (((len:Int)+7).tdiv 8)=(((len+7)/8:Nat):Int):=by
  intro _;rw[Int.tdiv_eq_ediv_of_nonneg (by omega),IntWalk.i64_in _ (by omega)];omega
 have hs1:1≤(len+7)/8∧(len+7)/8≤13000:=by omega
 have hd7:8*((len+7)/8)-len<8∧len≤8*((len+7)/8):=by omega
 have d1:=rDecimalG at' ha;have d2:=rDecimalG a ha2;have n1:=dec_len ha;have n2:=dec_len ha2;unfold attB;generalize hS:(len+7)/8=S at*;have hcl:=catB_len sd at' a (rnds S);refine eW Tryz.call376 Tryz.func376 ?_;repeat' first|simp only[go_sem,seval,hsz trivial]|refine sB ?_|(first|apply pX|apply bX)<;>intro hc|refine⟨oD,?_⟩|exact oD|fail
 refine loop_run (α:=Nat) (fun b=>rnds S-b) (fun b=>⟨[(0, .v (.s sd)),(1, .v (.i .i64 (at':Nat))),(2, .v (.i .i64 (a:Nat))),(3, .v (.i .i64 (len:Nat))),(9, .v (.i .i64 (S:Nat))),(10, .v (.s (catB sd at' a b))),(11,E' b)],[],_⟩) (fun b=>b≤rnds S) 0 (fun _=>Nat.le_refl _) (Nat.zero_le _) ?_ ?_
 ·(refine AS.Le.of (by first|decide|omega) ?_ ?_<;>simp[LeT,LeH,tget,hget,AV.bd,AV.bd.bdL,u8,bd_cellsOf,bcells_bd,icells_bd])
  all_goals rfl
 ·intro b hb R hR;have hcb:=catB_len sd at' a b;have hb3:b≤1000:=by unfold rnds at hb;omega
  by_cases hlt:32*b<S
  ·have hbr:b<rnds S:=by unfold rnds;omega
   have d3:=rDecimalG b (by omega)
   have n3:=dec_len (n:=b) (by omega)
   have hm:=rMac_ok (k:=sd) (s:=blkN at' a b) hsd (by unfold blkN;simp;omega)
   have hgo:=hR (b+1) (by omega) (by omega)
   have hbk:(blkB sd at' a b).length=32:=by unfold blkB macB;rw[sumB_len]
   rw[←blkB]at hm;rw[catB]at hgo;unfold blkN at hm;generalize blkB sd at' a b=x at*;generalize catB sd at' a b=o at*;generalize Lib.decDigits at'=D1 at*;generalize Lib.decDigits a=D2 at*;generalize Lib.decDigits b=D3 at*;simp only[List.append_assoc]at hm;clear hR;repeat' first|simp only[go_sem,seval,hcb,hbk,List.append_assoc,List.length_append,List.length_cons,List.length_nil]|refine cP d1 ?_|refine cP d2 ?_|refine cP d3 ?_|refine cP hm ?_|refine sB ?_|(first|apply pX|apply bX)<;>intro hc|refine⟨oD,?_⟩|exact oD|fail
   refine hgo _ ?_;exact lE
  ·obtain rfl:b=rnds S:=by unfold rnds at hb⊢;omega
   clear hR;obtain⟨x0,r,hxr⟩: ∃x0 r,catB sd at' a (rnds S)=x0::r:=by
    cases h:catB sd at' a (rnds S)with
    |nil=>rw[h]at hcl;unfold rnds at hcl;simp at hcl;omega
    |cons x0 r=>exact⟨_,_,rfl⟩
   rw[hxr]at hcl hcb⊢;rw[mask_take hs1.1];have hx0:=x0.toNat_lt;repeat' first|simp only[go_sem,seval,hcb]|refine sB ?_|(first|apply pX|apply bX)<;>intro hc|refine⟨oD,?_⟩|exact oD|fail
   refine loop_run (α:=Nat) (fun j=>j) (fun j=>⟨[(3, .v (.i .i64 (len:Nat))),(9, .v (.i .i64 (S:Nat))),(10, .v (.s (x0::r))),(12,E' (x0.toNat%2^j)),(13, .v (.i .i64 ((j:Int)-1)))],[],_⟩) (fun j=>j≤8∧8≤j+(8*S-len)) 8 (fun _=>Nat.le_refl _) ⟨Nat.le_refl _,by omega⟩ ?_ ?_
   ·(refine AS.Le.of (by first|decide|omega) ?_ ?_<;>simp[LeT,LeH,tget,hget,AV.bd,AV.bd.bdL,u8,bd_cellsOf,bcells_bd,icells_bd])
    all_goals omega
   ·rintro j ⟨hj,hjd⟩ R hR
    by_cases hlt2:9≤j+(8*S-len)
    ·obtain⟨k,rfl⟩: ∃k,j=k+1:=⟨j-1,by omega⟩
     have hgo:=hR k ⟨by omega,by omega⟩ (by omega)
     have hj1:((((k+1:Nat):Int)-1).toNat)=k:=by omega
     have hsh: ∀ _:True,IntKind.i64.wrap (1*2^(if k≤64 then k else 64))=((2^k:Nat):Int):=fun _=>by
      have hp:2^k≤2^7:=Nat.pow_le_pow_right (by decide) (by omega)
      rw[if_pos (by omega),Int.one_mul,show(2:Int)^k=((2^k:Nat):Int) by simp]
      exact(fun(B:Nat) (h:B≤2^7)=>IntWalk.i64_in (B:Int) (by omega)) _ hp
     have hA:=Nat.mod_pow_succ (x:=x0.toNat) (b:=2) (k:=k);have hC:=Nat.mod_lt x0.toNat (Nat.pow_pos (n:=k) (show 0<2 by decide))
     have hp:2^k≤2^7:=Nat.pow_le_pow_right (by decide) (by omega)
     have ht2:x0.toNat/2^k%2<2:=Nat.mod_lt _ (by decide)
     generalize x0.toNat/2^k%2=tt at*;generalize x0.toNat%2^(k+1)=A at*;generalize x0.toNat%2^k=C at*;generalize 2^k=B at*;have htt:tt=0∧A=C∨tt=1∧A=C+B:=by
      have:tt=0∨tt=1:=by omega
      rcases this with rfl|rfl
      ·left;simpa using hA
      ·right;simpa using hA
     clear hA ht2 hR hxr;rcases htt with⟨-,rfl⟩|⟨-,rfl⟩
     ·repeat' first|simp only[go_sem,seval,hj1,hsh trivial]|refine sB ?_|(first|apply pX|apply bX)<;>intro hc|refine⟨oD,?_⟩|exact oD|fail
      refine hgo _ ?_
      (refine AS.Le.of (by first|decide|omega) ?_ ?_<;>simp[LeT,LeH,tget,hget,AV.bd,AV.bd.bdL,u8,bd_cellsOf,bcells_bd,icells_bd])
      all_goals omega
     ·repeat' first|simp only[go_sem,seval,hj1,hsh trivial]|refine sB ?_|(first|apply pX|apply bX)<;>intro hc|refine⟨oD,?_⟩|exact oD|fail
      refine hgo _ ?_
      (refine AS.Le.of (by first|decide|omega) ?_ ?_<;>simp[LeT,LeH,tget,hget,AV.bd,AV.bd.bdL,u8,bd_cellsOf,bcells_bd,icells_bd])
      all_goals omega
    ·obtain rfl:j=8-(8*S-len):=by omega
     clear hR;have hlr:r.length+1=32*rnds S:=by simpa using hcb
     have hle:=Nat.mod_le x0.toNat (2^(8-(8*S-len)));generalize x0.toNat%2^(8-(8*S-len))=y at*;have hw8: ∀ _:True,IntKind.u8.wrap (y:Int)=(y:Int):=fun _=>by show(((UInt8.ofNat y).toNat:Nat):Int)=y;rw[UInt8.toNat_ofNat_of_lt' (show y<256 by omega)]
     have hcut: ∀z:UInt8,List.take S (z::r)=z::List.take (S-1) r:=fun z=>by
      obtain⟨S',rfl⟩: ∃S',S=S'+1:=⟨S-1,by omega⟩
      rfl
     have hca:=rcanon_ok (UInt8.ofNat y::List.take (S-1) r) (by simp;omega)
     have hl3:(List.take (S-1) r).length≤r.length:=by rw[List.length_take];exact Nat.min_le_right _ _
     rw[hcut];have hcd:List.drop 1 (List.take S (x0::r))=List.take (S-1) r:=by rw[hcut];rfl
     repeat' first|simp only[go_sem,seval,hw8 trivial,Int.toNat_natCast,hcd]|refine cP hca ?_|refine sB ?_|(first|apply pX|apply bX)<;>intro hc|refine⟨oD,?_⟩|exact oD|fail
theorem rGood_ok (vs:List Bytes) (sd:Bytes) (a:Int) (hl:vs.length<1000000):EvP Tryz.prog 68 [T vs sd a] (.b (goodT vs a)):=by
 unfold goodT;rw[anyNot,Bool.not_not];have l1:(vs.map PV.s).length=vs.length:=List.length_map ..;refine eW Tryz.call68 Tryz.func68 ?_;repeat' first|simp only[go_sem,seval]|refine sB ?_|(first|apply pX|apply bX)<;>intro hc|refine⟨oD,?_⟩|exact oD|fail
 refine loop_run (α:=Nat) (fun i=>vs.length-i) (fun i=>⟨[(1, .p 1000 0 0),(3,E' i)],[(1000,⟨0,[.v (.sl (vs.map .s)), .v (.s sd), .v (.i .i64 a)],false,none⟩)],_⟩) (fun i=>i≤vs.length∧(vs.drop i).all validN=vs.all validN) 0 (fun _=>Nat.le_refl _) ⟨Nat.zero_le _,rfl⟩ ?_ ?_
 ·exact lE
 ·rintro i ⟨hi,hf⟩ R hR;rw[←hf]
  by_cases hlt:i<vs.length
  ·have e1:=getD_S hlt;have hgo:=hR (i+1);rw[←hf]at hgo;rw[drop_cons hlt,List.all_cons]at hgo⊢;generalize vs.getD i []=x at*;clear hf hR;have hv:=rValid_ok x;generalize validN x=b at*;cases b
   ·repeat' first|simp only[go_sem,seval,l1,e1]|refine cP hv ?_|refine sB ?_|(first|apply pX|apply bX)<;>intro hc|refine⟨oD,?_⟩|exact oD|fail
    all_goals simp
   ·have hgo:=hgo ⟨by omega,by simp⟩ (by omega)
    repeat' first|simp only[go_sem,seval,l1,e1]|refine cP hv ?_|refine sB ?_|(first|apply pX|apply bX)<;>intro hc|refine⟨oD,?_⟩|exact oD|fail
    refine hgo _ ?_;exact lE
  ·obtain rfl:i=vs.length:=by omega
   rw[List.drop_length];repeat' first|simp only[go_sem,seval,l1]|refine sB ?_|(first|apply pX|apply bX)<;>intro hc|refine⟨oD,?_⟩|exact oD|fail
   all_goals simp_all
   all_goals (intros;omega)
theorem rdraw_ok {vs:List Bytes} {sd:Bytes} {i:Nat} {n:Bytes} (hv:vs.all validN=true) (hn:validN n=true) (h0:num n≠0) (hi:i≤2147483647) (hl:vs.length<1000000) (hsd:sd.length<1000000):EvP Tryz.prog 286 [T vs sd i, .s n] (drawP vs sd i (drawO vs sd i n)):=by
 have l1:(vs.map PV.s).length=vs.length:=List.length_map ..;have hbl:=blenV_le hn;have hb0:0<blen (num n):=by unfold blen;rw[if_neg h0];omega
 have hB:=rBits'_ok hn;have hA:=fun a (ha:a<256)=>rattempt_ok (sd:=sd) (at':=i) (a:=a) (len:=blen (num n)) hsd (by omega) (by omega) hb0 (by omega)
 have hC:=fun a=>rCmp_ok (attB sd i a (blen (num n))) n
 have hV:=fun a=>attB_valid sd i a hbl
 unfold drawO;generalize hf:(fun a=>attB sd i a (blen (num n)))=f
 have hA: ∀a:Nat,a<256→EvP Tryz.prog 376 [.s sd, .i .i64 i, .i .i64 a, .i .i64 (blen (num n))] (.s (f a)):=by rw[←hf];exact hA
 have hC: ∀a,EvP Tryz.prog 158 [.s (f a), .s n] (E (cmpN (num (f a)) (num n))):=by
  intro a;have h:=hC a;rw[hV,hn]at h;rw[←hf];exact h
 clear hf hV
 by_cases hvn:vs=[]
 ·have hz:vs.length=0:=by rw[hvn];rfl
  have hm0:vs.map PV.s=[]:=by rw[hvn];rfl
  rw[if_neg (by omega)]
  by_cases hs:sd=[]∨i=2147483647
  ·rw[if_pos hs];refine eW Tryz.call286 Tryz.func286 ?_;repeat' first|simp only[go_sem,seval,if_pos hz,l1]|refine sB ?_|(first|apply pX|apply bX)<;>intro hc|refine⟨oD,?_⟩|exact oD|fail
   refine⟨fun x hx=>cells_S hx,?_⟩
   have hnl: ∀ _:True,(([]:Bytes)==[])=true:=fun _=>rfl
   have h47: ∀ _:True,((2147483647:Int)==2147483647)=true:=fun _=>rfl
   rcases hs with rfl|rfl
   ·repeat' first|simp only[go_sem,seval,l1,hnl trivial,l1]|refine sB ?_|(first|apply pX|apply bX)<;>intro hc|refine⟨oD,?_⟩|exact oD|fail
    all_goals rfl
   ·cases hsb:sd==[]with
    |true=>
     repeat' first|simp only[go_sem,seval,l1,hsb,l1]|refine sB ?_|(first|apply pX|apply bX)<;>intro hc|refine⟨oD,?_⟩|exact oD|fail
     all_goals rfl
    |false=>
     repeat' first|simp only[go_sem,seval,l1,hsb,h47 trivial,l1]|refine sB ?_|(first|apply pX|apply bX)<;>intro hc|refine⟨oD,?_⟩|exact oD|fail
     all_goals rfl
  ·rw[if_neg hs];refine eW Tryz.call286 Tryz.func286 ?_;repeat' first|simp only[go_sem,seval,if_pos hz,l1]|refine sB ?_|(first|apply pX|apply bX)<;>intro hc|refine⟨oD,?_⟩|exact oD|fail
   refine⟨fun x hx=>cells_S hx,?_⟩
   have hs1:sd≠[]:=fun h=>hs (.inl h)
   have hs2:i≠2147483647:=fun h=>hs (.inr h)
   have hsb:(sd==[])=false:=by rw[beq_eq_false_iff_ne];exact hs1
   have hi47: ∀ _:True,((i:Int)==2147483647)=false:=fun _=>by rw[beq_eq_false_iff_ne];omega
   repeat' first|simp only[go_sem,seval,l1,hsb,hi47 trivial,l1]|refine sB ?_|(first|apply pX|apply bX)<;>intro hc|refine⟨oD,?_⟩|exact oD|fail
   refine loop_run (α:=Nat) (fun a=>256-a) (fun a=>⟨[(8, .v (.i .i64 a)),(1, .v (.s n)),(2, .p 1000 0 0),(5, .p 1002 0 0),(7, .p 1010 0 0)],[(1000,⟨0,[.v (.sl (vs.map .s)), .v (.s sd), .v (.i .i64 i)],false,none⟩),(1002,⟨0,[.sn, .v (.s []), .v (.i .i64 0)],false,some 35⟩),(1010,⟨0,[.sn, .v (.s sd), .v (.i .i64 ((i:Int)+1))],false,some 35⟩)],_⟩) (fun a=>a≤256∧seek f (num n) a (256-a)=seek f (num n) 0 256) 0 (fun _=>Nat.le_refl _) ⟨Nat.zero_le _,rfl⟩ ?_ ?_
   ·(refine AS.Le.of (by first|decide|omega) ?_ ?_<;>simp[LeT,LeH,tget,hget,AV.bd,AV.bd.bdL,u8,bd_cellsOf,bcells_bd,icells_bd])
    all_goals rfl
   ·rintro a ⟨ha,hst⟩ R hR;rw[←hst]
    by_cases hlt:a<256
    ·obtain⟨m,hm⟩: ∃m,256-a=m+1:=⟨255-a,by omega⟩
     have hAa:=hA a hlt;have hCa:=hC a;have hgo:=hR (a+1);rw[hm,seek]
     by_cases hle:num (f a)<num n
     ·rw[if_pos hle];have hcm: ∀ _:True,decide (cmpN (num (f a)) (num n)<0)=true:=fun _=>by rw[cmpLtD];exact decide_eq_true hle
      generalize cmpN (num (f a)) (num n)=cm at*;repeat' first|simp only[go_sem,seval,hcm trivial,hm0]|refine cP hB ?_|refine cP hAa ?_|refine cP hCa ?_|refine sB ?_|(first|apply pX|apply bX)<;>intro hc|refine⟨oD,?_⟩|exact oD|fail
      all_goals (unfold drawP;simp only[T,hm0];rfl)
     ·rw[if_neg hle];have hgo:=hgo ⟨hlt,by rw[←hst,hm,seek,if_neg hle,show 256-(a+1)=m from by omega]⟩ (by omega)
      have hcm: ∀ _:True,decide (cmpN (num (f a)) (num n)<0)=false:=fun _=>by rw[cmpLtD];exact decide_eq_false hle
      generalize cmpN (num (f a)) (num n)=cm at*;repeat' first|simp only[go_sem,seval,hcm trivial]|refine cP hB ?_|refine cP hAa ?_|refine cP hCa ?_|refine sB ?_|(first|apply pX|apply bX)<;>intro hc|refine⟨oD,?_⟩|exact oD|fail
      refine hgo _ ?_;exact lE
    ·obtain rfl:a=256:=by omega
     repeat' first|simp only[go_sem,seval]|refine sB ?_|(first|apply pX|apply bX)<;>intro hc|refine⟨oD,?_⟩|exact oD|fail
     all_goals rfl
 ·obtain⟨r1,r2,r3,r4⟩:=rowS vs;have hz:vs.length≠0:=fun h=>hvn (List.length_eq_zero_iff.1 h)
  by_cases hiv:i<vs.length
  ·rw[if_pos hiv];have hx:validN (vs.getD i [])=true:=List.all_eq_true.1 hv _ (getD_mem hiv);have hcm:=rCmp_ok (vs.getD i []) n;rw[hx,hn]at hcm;simp only[Bool.and_self,if_true]at hcm;have e1:=getD_S hiv;have e2:decide (cmpN (num (vs.getD i [])) (num n)≥0)= !decide (num (vs.getD i [])<num n):=geD _ _;generalize cmpN (num (vs.getD i [])) (num n)=cm at*;generalize vs.getD i []=x at*;clear hA hC
   by_cases hle:num n≤num x
   ·rw[if_pos hle];rw[decide_eq_false (show¬num x<num n by omega)]at e2
    refine eW Tryz.call286 Tryz.func286 ?_;repeat' first|simp only[go_sem,seval,if_neg hz,l1]|refine sB ?_|(first|apply pX|apply bX)<;>intro hc|refine⟨oD,?_⟩|exact oD|fail
    refine⟨⟨fun x hx=>cells_S hx,fun y hy=>one_SA hy,by omega,by omega⟩,?_⟩
    repeat' first|simp only[go_sem,seval,l1,e1,e2,Bool.not_false]|refine cP hcm ?_|refine sB ?_|(first|apply pX|apply bX)<;>intro hc|refine⟨oD,?_⟩|exact oD|fail
    all_goals rfl
   ·rw[if_neg hle];rw[decide_eq_true (show num x<num n by omega)]at e2
    refine eW Tryz.call286 Tryz.func286 ?_;repeat' first|simp only[go_sem,seval,if_neg hz,l1]|refine sB ?_|(first|apply pX|apply bX)<;>intro hc|refine⟨oD,?_⟩|exact oD|fail
    refine⟨⟨fun x hx=>cells_S hx,fun y hy=>one_SA hy,by omega,by omega⟩,?_⟩
    repeat' first|simp only[go_sem,seval,l1,e1,e2,Bool.not_true,r2,r3,r4,flat_S,mapO_view_v]|refine cP hcm ?_|refine sB ?_|(first|apply pX|apply bX)<;>intro hc|refine⟨oD,?_⟩|exact oD|fail
    all_goals rfl
  ·rw[if_neg hiv]
   by_cases hs:sd=[]∨i=2147483647
   ·rw[if_pos hs];refine eW Tryz.call286 Tryz.func286 ?_;repeat' first|simp only[go_sem,seval,if_neg hz,l1]|refine sB ?_|(first|apply pX|apply bX)<;>intro hc|refine⟨oD,?_⟩|exact oD|fail
    refine⟨⟨fun x hx=>cells_S hx,fun y hy=>one_SA hy,by omega,by omega⟩,?_⟩
    have hnl: ∀ _:True,(([]:Bytes)==[])=true:=fun _=>rfl
    have h47: ∀ _:True,((2147483647:Int)==2147483647)=true:=fun _=>rfl
    rcases hs with rfl|rfl
    ·repeat' first|simp only[go_sem,seval,l1,hnl trivial,l1]|refine sB ?_|(first|apply pX|apply bX)<;>intro hc|refine⟨oD,?_⟩|exact oD|fail
     all_goals rfl
    ·cases hsb:sd==[]with
     |true=>
      repeat' first|simp only[go_sem,seval,l1,hsb,l1]|refine sB ?_|(first|apply pX|apply bX)<;>intro hc|refine⟨oD,?_⟩|exact oD|fail
      all_goals rfl
     |false=>
      repeat' first|simp only[go_sem,seval,l1,hsb,h47 trivial,l1]|refine sB ?_|(first|apply pX|apply bX)<;>intro hc|refine⟨oD,?_⟩|exact oD|fail
      all_goals rfl
   ·rw[if_neg hs];refine eW Tryz.call286 Tryz.func286 ?_;repeat' first|simp only[go_sem,seval,if_neg hz,l1]|refine sB ?_|(first|apply pX|apply bX)<;>intro hc|refine⟨oD,?_⟩|exact oD|fail
    refine⟨⟨fun x hx=>cells_S hx,fun y hy=>one_SA hy,by omega,by omega⟩,?_⟩
    have hs1:sd≠[]:=fun h=>hs (.inl h)
    have hs2:i≠2147483647:=fun h=>hs (.inr h)
    have hsb:(sd==[])=false:=by rw[beq_eq_false_iff_ne];exact hs1
    have hi47: ∀ _:True,((i:Int)==2147483647)=false:=fun _=>by rw[beq_eq_false_iff_ne];omega
    repeat' first|simp only[go_sem,seval,l1,hsb,hi47 trivial,l1]|refine sB ?_|(first|apply pX|apply bX)<;>intro hc|refine⟨oD,?_⟩|exact oD|fail
    refine loop_run (α:=Nat) (fun a=>256-a) (fun a=>⟨[(8, .v (.i .i64 a)),(1, .v (.s n)),(2, .p 1000 0 0),(5, .p 1002 0 0),(7, .p 1010 0 0)],[(1000,⟨0,[.v (.sl (vs.map .s)), .v (.s sd), .v (.i .i64 i)],false,none⟩),(1002,⟨0,[.sn, .v (.s []), .v (.i .i64 0)],false,some 35⟩),(1010,⟨0,[.rs 1016 0 0 vs.length 1, .v (.s sd), .v (.i .i64 ((i:Int)+1))],false,some 35⟩),(1016,⟨0,List.map AV.v (vs.map .s),true,some 22⟩)],_⟩) (fun a=>a≤256∧seek f (num n) a (256-a)=seek f (num n) 0 256) 0 (fun _=>Nat.le_refl _) ⟨Nat.zero_le _,rfl⟩ ?_ ?_
    ·(refine AS.Le.of (by first|decide|omega) ?_ ?_<;>simp[LeT,LeH,tget,hget,AV.bd,AV.bd.bdL,u8,bd_cellsOf,bcells_bd,icells_bd])
     all_goals rw[flat_S,List.map_map]
    ·rintro a ⟨ha,hst⟩ R hR;rw[←hst]
     by_cases hlt:a<256
     ·obtain⟨m,hm⟩: ∃m,256-a=m+1:=⟨255-a,by omega⟩
      have hAa:=hA a hlt;have hCa:=hC a;have hgo:=hR (a+1);rw[hm,seek]
      by_cases hle:num (f a)<num n
      ·rw[if_pos hle];have hcm: ∀ _:True,decide (cmpN (num (f a)) (num n)<0)=true:=fun _=>by rw[cmpLtD];exact decide_eq_true hle
       generalize cmpN (num (f a)) (num n)=cm at*;repeat' first|simp only[go_sem,seval,hcm trivial,r2,r3,r4,flat_S,mapO_view_v]|refine cP hB ?_|refine cP hAa ?_|refine cP hCa ?_|refine sB ?_|(first|apply pX|apply bX)<;>intro hc|refine⟨oD,?_⟩|exact oD|fail
       all_goals rfl
      ·rw[if_neg hle];have hgo:=hgo ⟨hlt,by rw[←hst,hm,seek,if_neg hle,show 256-(a+1)=m from by omega]⟩ (by omega)
       have hcm: ∀ _:True,decide (cmpN (num (f a)) (num n)<0)=false:=fun _=>by rw[cmpLtD];exact decide_eq_false hle
       generalize cmpN (num (f a)) (num n)=cm at*;repeat' first|simp only[go_sem,seval,hcm trivial]|refine cP hB ?_|refine cP hAa ?_|refine cP hCa ?_|refine sB ?_|(first|apply pX|apply bX)<;>intro hc|refine⟨oD,?_⟩|exact oD|fail
       refine hgo _ ?_;exact lE
     ·obtain rfl:a=256:=by omega
      repeat' first|simp only[go_sem,seval]|refine sB ?_|(first|apply pX|apply bX)<;>intro hc|refine⟨oD,?_⟩|exact oD|fail
      all_goals rfl
theorem rSigned_ok {vs:List Bytes} {sd:Bytes} {i M:Nat} (hv:vs.all validN=true) (hi:i≤2147483647) (hl:vs.length<1000000) (hsd:sd.length<1000000) (h1:1≤M) (h2:3*M<LIM):EvP Tryz.prog 165 [T vs sd i,N M] (signP vs sd i (signO vs sd i M)):=by
 have hM:bts M≠[]:=by rw[ne_eq,bts_nil];omega
 have hMb:(bts M==[])=false:=by simpa using hM
 have hN:validN (bts (2*M-1))=true:=vB (by omega)
 have hr:=rGood_ok vs sd i hl;rw[goodT_of hv hi]at hr;have hva:=rValid_ok (bts M);rw[vB (by omega)]at hva
 have hs:=rSubN (a:=M) (b:=1) (by omega) (by omega)
 have ho:=rAddN (a:=M) (b:=M-1) (by omega)
 have hd:=rdraw_ok (sd:=sd) hv hN (by rw[num_bts];omega) hi hl hsd
 have hf2:=rFromZ (n:=M-1) (by omega)
 rw[←one_eq]at hs;rw[show M+(M-1)=2*M-1 by omega]at ho
 unfold signO;generalize hD:drawO vs sd i (bts (2*M-1))=r at*
 cases r with
 |error e=>
  unfold drawP at hd;unfold signP;rcases drawO_err hD with rfl|rfl
  ·refine eW Tryz.call165 Tryz.func165 ?_;repeat' first|simp only[go_sem,seval,hMb]|refine cP hr ?_|refine cP hva ?_|refine cP rOf1' ?_|refine cP hs ?_|refine cP ho ?_|refine cP hd ?_|refine sB ?_|(first|apply pX|apply bX)<;>intro hc|refine⟨oD,?_⟩|exact oD|fail
   all_goals rfl
  ·refine eW Tryz.call165 Tryz.func165 ?_;repeat' first|simp only[go_sem,seval,hMb]|refine cP hr ?_|refine cP hva ?_|refine cP rOf1' ?_|refine cP hs ?_|refine cP ho ?_|refine cP hd ?_|refine sB ?_|(first|apply pX|apply bX)<;>intro hc|refine⟨oD,?_⟩|exact oD|fail
   all_goals rfl
 |ok x=>
  obtain⟨vx,hx,-⟩:=drawO_ok hv hN hl hi hD;rw[num_bts]at hx;have hz:=rISubL (x:=(num x:Int)) (y:=((M-1:Nat):Int)) (by omega)
  have hf1:=rFromZ (n:=num x) (by omega)
  rw[N_of vx]at hf1;unfold drawP at hd;unfold signP;simp only;refine eW Tryz.call165 Tryz.func165 ?_;repeat' first|simp only[go_sem,seval,hMb]|refine cP hr ?_|refine cP hva ?_|refine cP rOf1' ?_|refine cP hs ?_|refine cP ho ?_|refine cP hd ?_|refine cP hf1 ?_|refine cP hf2 ?_|refine cP hz ?_|refine sB ?_|(first|apply pX|apply bX)<;>intro hc|refine⟨oD,?_⟩|exact oD|fail
  all_goals rfl
end Go.Proofs.YtmledjfbgjnknaaGreatDoor
