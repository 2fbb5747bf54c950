/-
  Part of the proof, part 20. Own work.
-/
import Derived.Test.YtmledjfbgjnknaaGreatDoorM19
set_option linter.all false
namespace Go.Proofs.YtmledjfbgjnknaaGreatDoor
open Go Go.Dom
set_option maxRecDepth 100000
theorem Of_ok (n:Nat) (hn:n<18446744073709551616):EvP Tryz.prog 46 [.i .u64 n] (.s (bts n)):=by
 refine eW Tryz.call46 Tryz.func46 ?_;simp only[go_sem,seval];refine loop_run (α:=Nat) (fun i=>8-i) (fun i=>⟨[(0, .v (.i .u64 n)),(3, .p 1001 0 0),(5, .v (.i .i64 i))],[(1001,⟨0,bcells (List.replicate (8-i) 0++be i n),false,some 181⟩)],1003⟩) (fun i=>i≤8) 0 (fun _=>Nat.le_refl _) (Nat.zero_le _) ?_ ?_
 ·(refine AS.Le.of (by first|decide|omega) ?_ ?_<;>simp[LeT,LeH,tget,hget,AV.bd,AV.bd.bdL,u8,bd_cellsOf,bcells_bd,icells_bd]);rfl
 ·intro i hi R hR;have hl:(List.replicate (8-i) (0:UInt8)++be i n).length=8:=by simp[be_len];omega
  by_cases hlt:i<8
  ·repeat' first|simp only[go_sem,seval,hl]|refine sB ?_|(first|apply pX|apply bX)<;>intro hc|refine⟨oD,?_⟩|exact oD|fail
   refine hR (i+1) (by omega) (by omega) _ ?_
   have e1:(8*(i:Int)).toNat=8*i:=by omega
   have e2:((7:Int)-i).toNat=8-1-i:=by omega
   have e3:IntKind.u8.wrap ((n/2^(8*i):Nat):Int)=((UInt8.ofNat (n/256^i)).toNat:Int):=by
    rw[wu8_nat,Nat.pow_mul]
   rw[e1,e2,if_pos (by omega),bput (by omega) e3,fill_set hlt]
   (refine AS.Le.of (by first|decide|omega) ?_ ?_<;>simp[LeT,LeH,tget,hget,AV.bd,AV.bd.bdL,u8,bd_cellsOf,bcells_bd,icells_bd]);rfl
  ·obtain rfl:i=8:=by omega
   have:=trimmed_ok (be 8 n);have hl:(be 8 n).length=8:=be_len 8 n;repeat' first|simp only[go_sem,seval,hl]|(refine CR_bytes this rfl rfl hl.symm ?_)|refine sB ?_|(first|apply pX|apply bX)<;>intro hc|refine⟨oD,?_⟩|exact oD|fail
   rw[trim_be (by omega)]
def LIM:Nat:=256^128
theorem lim_len {n:Nat}:(bts n).length≤128↔n<LIM:=bts_len
def addB (a b:Bytes):Bytes×Int:=if validN a&&validN b then(if num a+num b<LIM then(bts (num a+num b),0)else([],5))else([],3)
theorem cellsZ (n:Nat):(List.replicate n [AV.v (PV.i IntKind.u8 0)]).flatten=bcells (List.replicate n 0):=by
 induction n with
 |zero=>rfl
 |succ n ih=>simp[List.replicate_succ,bcells,u8]at ih⊢
theorem fillLen (n i x:Nat) (h:i≤n):(List.replicate (n-i) (0:UInt8)++be i x).length=n:=by simp[be_len];omega
theorem Add_ok (a b:Bytes):EvP Tryz.prog 347 [.s a, .s b] (.tup [.s (addB a b).1,E (addB a b).2]):=by
 have hmax:(if(b.length:Int)>(a.length:Int)then(b.length:Int)else(a.length:Int))=((max a.length b.length:Nat):Int):=by
  split<;>omega
 by_cases hv:validN a=true∧validN b=true
 case neg=>
  refine eW Tryz.call347 Tryz.func347 ?_;repeat' first|simp only[go_sem,seval]|refine cP (natValid _) ?_|refine sB ?_|(first|apply pX|apply bX)<;>intro hc|refine⟨oD,?_⟩|exact oD|fail
  all_goals simp_all[addB]
 obtain⟨hva,hvb⟩:=hv;have la:=len_of hva;have lb:=len_of hvb;obtain⟨n,hn⟩: ∃n,n=max a.length b.length+1:=⟨_,rfl⟩;have hn2:((max a.length b.length:Nat):Int)+1=(n:Int):=by omega
 refine eW Tryz.call347 Tryz.func347 ?_;repeat' first|simp only[go_sem,seval,hmax,hn2,cellsZ]|refine cP (natValid _) ?_|refine sB ?_|(first|apply pX|apply bX)<;>intro hc|refine⟨oD,?_⟩|exact oD|fail
 refine loop_run (α:=Nat) (fun i=>n-i) (fun i=>⟨[(0, .v (.s a)),(1, .v (.s b)),(6, .v (.i .i64 n)),(7, .rs 1018 0 0 n 1),(8, .v (.i .i64 (carry (num a) (num b) (256^i)))),(26, .v (.i .i64 n)),(27, .v (.i .i64 i))],[(1018,⟨0,bcells (List.replicate (n-i) 0++be i (num a+num b)),false,none⟩)],1023⟩) (fun i=>i≤n) 0 (fun _=>Nat.le_refl _) (Nat.zero_le _) ?_ ?_
 ·(refine AS.Le.of (by first|decide|omega) ?_ ?_<;>simp[LeT,LeH,tget,hget,AV.bd,AV.bd.bdL,u8,bd_cellsOf,bcells_bd,icells_bd])
  ·simp[carry,Nat.mod_one]
  ·simp[be]
 ·intro i hi R hR;have hl:=fillLen n i (num a+num b) hi;have hp:=pow256_pos i;have hc1:=carry_le (num a) (num b) hp
  by_cases hlt:i<n
  ·repeat' first|simp only[go_sem,seval,hl]|(refine CR_pure (digit_ok a i (by omega)) rfl ?_)|(refine CR_pure (digit_ok b i (by omega)) rfl ?_)|refine sB ?_|(first|apply pX|apply bX)<;>intro hc|refine⟨oD,?_⟩|exact oD|fail
   refine hR (i+1) (by omega) (by omega) _ ?_
   have e2:((n:Int)-1-i).toNat=n-1-i:=by omega
   have e0:((carry (num a) (num b) (256^i):Nat):Int)+(((num a/256^i%256:Nat):Int)+((num b/256^i%256:Nat):Int))=((carry (num a) (num b) (256^i)+(num a/256^i%256+num b/256^i%256):Nat):Int):=by omega
   rw[e0,e2,bput (by omega) ((wu8_nat _).trans (by rw[carry_byte _ _ hp])),fill_set hlt,show(256:Int)=((256:Nat):Int)from rfl,fdivNat,carry_next _ _ hp,←Nat.pow_succ]
   (refine AS.Le.of (by first|decide|omega) ?_ ?_<;>simp[LeT,LeH,tget,hget,AV.bd,AV.bd.bdL,u8,bd_cellsOf,bcells_bd,icells_bd]);rfl
  ·obtain rfl:i=n:=by omega
   have:=trimmed_ok (be i (num a+num b));have hl:(be i (num a+num b)).length=i:=be_len _ _;repeat' first|simp only[go_sem,seval,hl,Nat.sub_self,List.replicate_zero]|(refine CR_bytes this rfl rfl hl.symm ?_)|refine cP (fitting_ok _) ?_|refine sB ?_|(first|apply pX|apply bX)<;>intro hc|refine⟨oD,?_⟩|exact oD|fail
   have h1:num a+num b<256^i:=by
    have g1:=num_lt a;have g2:=num_lt b;have p1:256^a.length≤256^(i-1):=Nat.pow_le_pow_right (by decide) (by omega)
    have p2:256^b.length≤256^(i-1):=Nat.pow_le_pow_right (by decide) (by omega)
    have p3:256^i=256^(i-1)*256:=by rw[←Nat.pow_succ];congr 1;omega
    omega
   rw[trim_be h1];simp only[lim_len,addB,hva,hvb,Bool.and_self,if_true]
   split<;>simp
theorem less_ok (a b:Bytes) (ha:a.length≤128) (hb:b.length≤128) (h:num b≤num a):EvP Tryz.prog 217 [.s a, .s b] (.s (bts (num a-num b))):=by
 obtain⟨n,hn⟩: ∃n,n=a.length:=⟨_,rfl⟩;refine eW Tryz.call217 Tryz.func217 ?_;simp only[go_sem,seval,←hn];repeat' first|simp only[go_sem,seval,←hn,cellsZ]|refine sB ?_|(first|apply pX|apply bX)<;>intro hc|refine⟨oD,?_⟩|exact oD|fail
 refine loop_run (α:=Nat) (fun i=>n-i) (fun i=>⟨[(0, .v (.s a)),(1, .v (.s b)),(5, .v (.i .i64 n)),(6, .rs 1005 0 0 n 1),(7, .v (.i .i64 (borrow (num a) (num b) (256^i)))),(14, .v (.i .i64 n)),(15, .v (.i .i64 i))],[(1005,⟨0,bcells (List.replicate (n-i) 0++be i (num a-num b)),false,none⟩)],1010⟩) (fun i=>i≤n) 0 (fun _=>Nat.le_refl _) (Nat.zero_le _) ?_ ?_
 ·(refine AS.Le.of (by first|decide|omega) ?_ ?_<;>simp[LeT,LeH,tget,hget,AV.bd,AV.bd.bdL,u8,bd_cellsOf,bcells_bd,icells_bd])
  ·simp[borrow,Nat.mod_one]
  ·simp[be]
 ·intro i hi R hR;have hl:=fillLen n i (num a-num b) hi;have hp:=pow256_pos i;have hc1:=borrow_le (num a) (num b) (256^i);have hb1:=borrow_next (num a) (num b) hp;have hb2:=borrow_byte (num a) (num b) hp h;have e2:((n:Int)-1-i).toNat=n-1-i:=by omega
  by_cases hlt:i<n
  ·repeat' first|simp only[go_sem,seval,hl]|(refine CR_pure (digit_ok a i (by omega)) rfl ?_)|(refine CR_pure (digit_ok b i (by omega)) rfl ?_)|refine sB ?_|(first|apply pX|apply bX)<;>intro hc|refine⟨oD,?_⟩|exact oD|fail
   ·refine hR (i+1) (by omega) (by omega) _ ?_
    rw[e2,bput (c:=UInt8.ofNat ((num a-num b)/256^i)) (by omega) (by rw[wu8,UInt8.toNat_ofNat',←hb2 _ rfl];omega),fill_set hlt]
    (refine AS.Le.of (by first|decide|omega) ?_ ?_<;>simp[LeT,LeH,tget,hget,AV.bd,AV.bd.bdL,u8,bd_cellsOf,bcells_bd,icells_bd])
    ·rw[Nat.pow_succ,hb1,if_pos hc];rfl
    ·rfl
   ·refine hR (i+1) (by omega) (by omega) _ ?_
    rw[e2,bput (c:=UInt8.ofNat ((num a-num b)/256^i)) (by omega) (by rw[wu8,UInt8.toNat_ofNat',←hb2 _ rfl]),fill_set hlt]
    (refine AS.Le.of (by first|decide|omega) ?_ ?_<;>simp[LeT,LeH,tget,hget,AV.bd,AV.bd.bdL,u8,bd_cellsOf,bcells_bd,icells_bd])
    ·rw[Nat.pow_succ,hb1,if_neg hc];rfl
    ·rfl
  ·obtain rfl:i=n:=by omega
   have:=trimmed_ok (be i (num a-num b));have hl:(be i (num a-num b)).length=i:=be_len _ _;repeat' first|simp only[go_sem,seval,hl,Nat.sub_self,List.replicate_zero]|(refine CR_bytes this rfl rfl hl.symm ?_)|refine sB ?_|(first|apply pX|apply bX)<;>intro hc|refine⟨oD,?_⟩|exact oD|fail
   have h1:num a-num b<256^i:=by have:=num_lt a;rw[hn];omega
   rw[trim_be h1]
def subB (a b:Bytes):Bytes×Int:=if validN a&&validN b then(if num b≤num a then(bts (num a-num b),0)else([],2))else([],3)
theorem cmpN_lt {a b:Nat}:cmpN a b<0↔a<b:=by unfold cmpN;split<;>(try split)<;>omega
theorem Sub_ok (a b:Bytes):EvP Tryz.prog 104 [.s a, .s b] (.tup [.s (subB a b).1,E (subB a b).2]):=by
 by_cases hv:validN a=true∧validN b=true
 case neg=>
  refine eW Tryz.call104 Tryz.func104 ?_;repeat' first|simp only[go_sem,seval]|refine cP (natValid _) ?_|refine sB ?_|(first|apply pX|apply bX)<;>intro hc|refine⟨oD,?_⟩|exact oD|fail
  all_goals simp_all[subB]
 obtain⟨hva,hvb⟩:=hv;refine eW Tryz.call104 Tryz.func104 ?_;repeat' first|simp only[go_sem,seval]|refine cP (natValid _) ?_|refine cP (compare_ok (canon_of hva) (canon_of hvb)) ?_|(refine CR_pure (less_ok _ _ (len_of hva) (len_of hvb) (by rw[cmpN_lt]at hc;omega)) rfl ?_)|refine sB ?_|(first|apply pX|apply bX)<;>intro hc|refine⟨oD,?_⟩|exact oD|fail
 ·rw[cmpN_lt]at hc;simp[subB,hva,hvb,show¬num b≤num a by omega]
 ·rw[cmpN_lt]at hc;simp[subB,hva,hvb,show num b≤num a by omega]
end Go.Proofs.YtmledjfbgjnknaaGreatDoor
namespace Go.Proofs.YtmledjfbgjnknaaGreatDoor
open Go Go.Dom
set_option maxRecDepth 100000
set_option maxHeartbeats 4000000
theorem tabGet {l:List Nat} {i:Nat} (h:i<l.length):(l.map fun n:Nat=>PV.i .u8 n).getD i .fn0= .i .u8 (l.getD i 0:Nat):=by
 simp[List.getD_eq_getElem?_getD,h]
theorem TrailingZeros64_ok (x:Nat) (h0:x≠0) (h:x<18446744073709551616):EvP Tryz.prog 398 [.i .u64 x] (E (Lib.ctz 64 x:Nat)):=by
 obtain⟨g1,g2⟩:=Lib.lowest_bit 64 x h0 h;obtain⟨g3,g4⟩:=Lib.deBruijn64_at _ g2;obtain⟨k,hk⟩: ∃k,k=Lib.ctz 64 x:=⟨_,rfl⟩;rw[←hk]at g1 g2 g3 g4⊢;obtain⟨p,hp⟩: ∃p,p=2^k:=⟨_,rfl⟩;rw[←hp]at g1 g3 g4;obtain⟨i,hi⟩: ∃i,i=p*285870213051353865%18446744073709551616/288230376151711744:=⟨_,rfl⟩;rw[←hi]at g3 g4;have e1: ∀ _:True,IntKind.u64.wrap (0-(x:Int))=((18446744073709551616-x:Nat):Int):=fun _=>by rw[wu64];omega
 have e2: ∀ _:True,iAnd .u64 (x:Int) ((18446744073709551616-x:Nat):Int)=((p:Nat):Int):=fun _=>by
  rw[iAndN .u64 rfl h (by show 18446744073709551616-x<18446744073709551616;omega)];exact congrArg _ g1
 have e3: ∀ _:True,p*285870213051353865%18446744073709551616/288230376151711744=i:=fun _=>hi.symm
 have e4:=tabGet (l:=Lib.deBruijn64tab) (i:=i) (by exact g3)
 rw[g4]at e4;have e5: ∀ _:True,([(.i .u8 0),(.i .u8 1),(.i .u8 56),(.i .u8 2),(.i .u8 57),(.i .u8 49),(.i .u8 28),(.i .u8 3),(.i .u8 61),(.i .u8 58),(.i .u8 42),(.i .u8 50),(.i .u8 38),(.i .u8 29),(.i .u8 17),(.i .u8 4),(.i .u8 62),(.i .u8 47),(.i .u8 59),(.i .u8 36),(.i .u8 45),(.i .u8 43),(.i .u8 51),(.i .u8 22),(.i .u8 53),(.i .u8 39),(.i .u8 33),(.i .u8 30),(.i .u8 24),(.i .u8 18),(.i .u8 12),(.i .u8 5),(.i .u8 63),(.i .u8 55),(.i .u8 48),(.i .u8 27),(.i .u8 60),(.i .u8 41),(.i .u8 37),(.i .u8 16),(.i .u8 46),(.i .u8 35),(.i .u8 44),(.i .u8 21),(.i .u8 52),(.i .u8 32),(.i .u8 23),(.i .u8 11),(.i .u8 54),(.i .u8 26),(.i .u8 40),(.i .u8 15),(.i .u8 34),(.i .u8 20),(.i .u8 31),(.i .u8 10),(.i .u8 25),(.i .u8 14),(.i .u8 19),(.i .u8 9),(.i .u8 13),(.i .u8 8),(.i .u8 7),(.i .u8 6)]:List PV).getD i .fn0= .i .u8 (k:Nat):=fun _=>e4
 clear g1 g4 hi hp e4;refine eW Tryz.call398 Tryz.func398 ?_;simp only[go_sem,seval,e1 trivial,e2 trivial,mulUL,e3 trivial,e5 trivial];repeat' first|simp only[go_sem,seval,e1 trivial,e2 trivial,mulUL,e3 trivial,e5 trivial]|refine sB ?_|(first|apply pX|apply bX)<;>intro hc|refine⟨oD,?_⟩|exact oD|fail
 all_goals skip
theorem rValid_ok (a:Bytes):EvP Tryz.prog 26 [.s a] (.b (validN a)):=by
 rw[validN_eq];refine eW Tryz.call26 Tryz.func26 ?_;repeat' first|simp only[go_sem,seval]|refine sB ?_|(first|apply pX|apply bX)<;>intro hc|refine⟨oD,?_⟩|exact oD|fail
 all_goals simp_all
 all_goals first|omega|(cases a<;>simp_all)
theorem trimB_drop (l:Bytes) {i:Nat} (hi:i<l.length) (h:l.getD i 0=0):trimB (l.drop i)=trimB (l.drop (i+1)):=by
 rw[List.drop_eq_getElem_cons hi,trimB,if_pos (by rw[←h,List.getD_eq_getElem?_getD,List.getElem?_eq_getElem hi];rfl)]
theorem trimB_stop (l:Bytes) {i:Nat} (hi:i<l.length) (h:l.getD i 0≠0):trimB (l.drop i)=l.drop i:=by
 rw[List.drop_eq_getElem_cons hi,trimB,if_neg (by rw[List.getD_eq_getElem?_getD,List.getElem?_eq_getElem hi]at h;exact h)]
theorem rTrim_ok (l:Bytes) (hl:l.length<4611686018427387904):EvP Tryz.prog 271 [.sl (l.map u8)] (.s (trimB l)):=by
 refine eW Tryz.call271 Tryz.func271 ?_;simp only[go_sem,seval];refine loop_run (α:=Nat) (fun i=>l.length-i) (fun i=>⟨[(0, .v (.sl (l.map u8))),(3, .v (.i .i64 i))],[],_⟩) (fun i=>i≤l.length∧trimB (l.drop i)=trimB l) 0 (fun _=>Nat.le_refl _) ⟨Nat.zero_le _,rfl⟩ ?_ ?_
 ·exact lE
 ·rintro i ⟨hi,hx⟩ R hR
  by_cases hlt:i<l.length
  ·have e1:=getD_u8 hlt
   by_cases h0:l.getD i 0=0
   ·have e2: ∀ _:True,(((l.getD i 0).toNat:Int)==0)=true:=fun _=>by rw[h0];rfl
    repeat' first|simp only[go_sem,seval,e1,e2 trivial]|refine sB ?_|(first|apply pX|apply bX)<;>intro hc|refine⟨oD,?_⟩|exact oD|fail
    refine hR (i+1) ⟨by omega,by rw[←hx,trimB_drop l hlt h0]⟩ (by omega) _ ?_
    exact lE
   ·have e2: ∀ _:True,(((l.getD i 0).toNat:Int)==0)=false:=fun _=>by
     rw[beq_eq_false_iff_ne];intro e;exact h0 (u8z e)
    rw[←hx,trimB_stop l hlt h0];repeat' first|simp only[go_sem,seval,e1,e2 trivial]|refine sB ?_|(first|apply pX|apply bX)<;>intro hc|refine⟨oD,?_⟩|exact oD|fail
    refine⟨⟨by omega,fun x hx=>cells_u8 hx⟩,fun y hy=>isByte_u8 (List.mem_of_mem_drop hy),?_⟩
    rw[←List.map_drop,bytes_u8]
  ·obtain rfl:i=l.length:=by omega
   rw[←hx];repeat' first|simp only[go_sem,seval]|refine sB ?_|(first|apply pX|apply bX)<;>intro hc|refine⟨oD,?_⟩|exact oD|fail
   refine⟨⟨by omega,fun x hx=>cells_u8 hx⟩,fun y hy=>isByte_u8 (List.mem_of_mem_drop hy),?_⟩
   rw[←List.map_drop,bytes_u8,List.drop_length];rfl
theorem rOf_ok (n:Nat) (hn:n<18446744073709551616):EvP Tryz.prog 149 [.i .u64 n] (.s (bts n)):=by
 refine eW Tryz.call149 Tryz.func149 ?_;repeat' first|simp only[go_sem,seval]|refine sB ?_|(first|apply pX|apply bX)<;>intro hc|refine⟨oD,?_⟩|exact oD|fail
 refine loop_run (α:=Nat) (fun i=>8-i) (fun i=>⟨[(0, .v (.i .u64 (n/256^i:Nat))),(3, .rs 1001 0 0 8 1),(4, .v (.i .i64 (7-(i:Int))))],[(1001,⟨0,bcells (List.replicate (8-i) 0++be i n),false,none⟩)],_⟩) (fun i=>i≤8) 0 (fun _=>Nat.le_refl _) (Nat.zero_le _) ?_ ?_
 ·(refine AS.Le.of (by first|decide|omega) ?_ ?_<;>simp[LeT,LeH,tget,hget,AV.bd,AV.bd.bdL,u8,bd_cellsOf,bcells_bd,icells_bd])
  all_goals rfl
 ·intro i hi R hR;have hl:(List.replicate (8-i) (0:UInt8)++be i n).length=8:=by simp[be_len];omega
  have hle:n/256^i≤n:=Nat.div_le_self _ _
  by_cases hlt:i<8
  ·have e2: ∀ _:True,((7:Int)-i).toNat=8-1-i:=fun _=>by omega
   have e3: ∀ _:True,n/256^i/256=n/256^(i+1):=fun _=>by rw[Nat.div_div_eq_div_mul,←Nat.pow_succ]
   have hle2:n/256^(i+1)≤n:=Nat.div_le_self _ _;have e4: ∀ _:True,IntKind.u64.wrap ((n/256^(i+1):Nat):Int)=((n/256^(i+1):Nat):Int):=fun _=>by
    generalize n/256^(i+1)=z at hle2⊢;exact IntWalk.u64_in _ (by omega)
   repeat' first|simp only[go_sem,seval,hl,e3 trivial,e4 trivial]|refine sB ?_|(first|apply pX|apply bX)<;>intro hc|refine⟨oD,?_⟩|exact oD|fail
   refine hR (i+1) (by omega) (by omega) _ ?_
   rw[e2 trivial,bput (c:=UInt8.ofNat (n/256^i)) (by omega) (by rw[wu8_nat,UInt8.toNat_ofNat',UInt8.toNat_ofNat',Nat.mod_mod]),fill_set hlt]
   (refine AS.Le.of (by first|decide|omega) ?_ ?_<;>simp[LeT,LeH,tget,hget,AV.bd,AV.bd.bdL,u8,bd_cellsOf,bcells_bd,icells_bd])
   all_goals first|omega|rfl|skip
  ·obtain rfl:i=8:=by omega
   have:=rTrim_ok (be 8 n) (by rw[be_len];decide)
   have hl:(be 8 n).length=8:=be_len 8 n;repeat' first|simp only[go_sem,seval,hl]|(refine CR_bytes this rfl rfl hl.symm ?_)|refine sB ?_|(first|apply pX|apply bX)<;>intro hc|refine⟨oD,?_⟩|exact oD|fail
   rw[trim_be (by omega)]
theorem rU64_ok (a:Bytes) (hl:a.length≤8):EvP Tryz.prog 275 [.s a] (.i .u64 (num a)):=by
 refine eW Tryz.call275 Tryz.func275 ?_;repeat' first|simp only[go_sem,seval]|refine sB ?_|(first|apply pX|apply bX)<;>intro hc|refine⟨oD,?_⟩|exact oD|fail
 refine loop_run (α:=Nat) (fun i=>a.length-i) (fun i=>⟨[(0, .v (.s a)),(3, .v (.i .u64 (num (a.take i)))),(4, .v (.i .i64 i))],[],_⟩) (fun i=>i≤a.length) 0 (fun _=>Nat.le_refl _) (Nat.zero_le _) ?_ ?_
 ·(refine AS.Le.of (by first|decide|omega) ?_ ?_<;>simp[LeT,LeH,tget,hget,AV.bd,AV.bd.bdL,u8,bd_cellsOf,bcells_bd,icells_bd])
  all_goals rfl
 ·intro i hi R hR
  by_cases hlt:i<a.length
  ·have h1:=num_take_succ hlt;have h2:=num_lt (a.take (i+1));have h3:(256:Nat)^(a.take (i+1)).length≤256^8:=Nat.pow_le_pow_right (by decide) (by simp;omega)
   repeat' first|simp only[go_sem,seval]|refine sB ?_|(first|apply pX|apply bX)<;>intro hc|refine⟨oD,?_⟩|exact oD|fail
   refine hR (i+1) (by omega) (by omega) _ ?_
   rw[h1]
   (refine AS.Le.of (by first|decide|omega) ?_ ?_<;>simp[LeT,LeH,tget,hget,AV.bd,AV.bd.bdL,u8,bd_cellsOf,bcells_bd,icells_bd])
   all_goals first|omega|rfl|skip
  ·obtain rfl:i=a.length:=by omega
   rw[List.take_length];repeat' first|simp only[go_sem,seval]|refine sB ?_|(first|apply pX|apply bX)<;>intro hc|refine⟨oD,?_⟩|exact oD|fail
theorem rOrder_ok {a b:Bytes} (ha:Canon a) (hb:Canon b) (la:a.length<4611686018427387904) (lb:b.length<4611686018427387904):EvP Tryz.prog 152 [.s a, .s b] (E (cmpN (num a) (num b))):=by
 by_cases h1:a.length<b.length
 ·have:=canon_len_lt (a:=a) hb h1;have e:cmpN (num a) (num b)= -1:=by simp[cmpN,this]
  rw[e];refine eW Tryz.call152 Tryz.func152 ?_;repeat' first|simp only[go_sem,seval]|refine sB ?_|(first|apply pX|apply bX)<;>intro hc|refine⟨oD,?_⟩|exact oD|fail
 by_cases h2:b.length<a.length
 ·have:=canon_len_lt (a:=b) ha h2;have e:cmpN (num a) (num b)=1:=by unfold cmpN;rw[if_neg (by omega),if_pos this]
  rw[e];refine eW Tryz.call152 Tryz.func152 ?_;repeat' first|simp only[go_sem,seval]|refine sB ?_|(first|apply pX|apply bX)<;>intro hc|refine⟨oD,?_⟩|exact oD|fail
 have hl:a.length=b.length:=by omega
 rw[←compareBytes_num hl];refine eW Tryz.call152 Tryz.func152 ?_;repeat' first|simp only[go_sem,seval]|refine sB ?_|(first|apply pX|apply bX)<;>intro hc|refine⟨oD,?_⟩|exact oD|fail
 refine loop_run (α:=Nat) (fun i=>a.length-i) (fun i=>⟨[(0, .v (.s a)),(1, .v (.s b)),(5, .v (.i .i64 i))],[],_⟩) (fun i=>i≤a.length∧Lib.compareBytes (a.drop i) (b.drop i)=Lib.compareBytes a b) 0 (fun _=>Nat.le_refl _) ⟨Nat.zero_le _,rfl⟩ ?_ ?_
 ·exact lE
 ·rintro i ⟨hi,hx⟩ R hR
  by_cases hlt:i<a.length
  ·have d1:a.drop i=a.getD i 0::a.drop (i+1):=by rw[List.drop_eq_getElem_cons hlt,List.getD_eq_getElem?_getD,List.getElem?_eq_getElem hlt];rfl
   have hltb:i<b.length:=by omega
   have d2:b.drop i=b.getD i 0::b.drop (i+1):=by rw[List.drop_eq_getElem_cons hltb,List.getD_eq_getElem?_getD,List.getElem?_eq_getElem hltb];rfl
   have hgo:=hR (i+1);rw[←hx]at hgo⊢;rw[d1,d2]at hgo⊢;simp only[Lib.compareBytes]at hgo⊢;clear d1 d2 hx hR;have e1:a.getD i 0<b.getD i 0↔(a.getD i 0).toNat<(b.getD i 0).toNat:=UInt8.lt_iff_toNat_lt;have e2:b.getD i 0<a.getD i 0↔(b.getD i 0).toNat<(a.getD i 0).toNat:=UInt8.lt_iff_toNat_lt;simp only[e1,e2]at hgo⊢;obtain⟨x,hx⟩: ∃x,x=a.getD i 0:=⟨_,rfl⟩;obtain⟨y,hy⟩: ∃y,y=b.getD i 0:=⟨_,rfl⟩;rw[←hx,←hy]at hgo⊢;clear e1 e2;repeat' first|simp only[go_sem,seval,←hx,←hy]|refine sB ?_|(first|apply pX|apply bX)<;>intro hc|refine⟨oD,?_⟩|exact oD|fail
   ·refine hgo ⟨by omega,?_⟩ (by omega) _ ?_
    ·rw[if_neg (by omega),if_neg (by omega)]
    ·exact lE
   ·rw[if_pos (by omega)]
   ·rw[if_neg (by omega),if_pos (by omega)]
  ·obtain rfl:i=a.length:=by omega
   repeat' first|simp only[go_sem,seval]|refine sB ?_|(first|apply pX|apply bX)<;>intro hc|refine⟨oD,?_⟩|exact oD|fail
   rw[←hx,List.drop_length,hl,List.drop_length];rfl
theorem rCmp_ok (a b:Bytes):EvP Tryz.prog 158 [.s a, .s b] (E (if validN a&&validN b then cmpN (num a) (num b)else 0)):=by
 by_cases h:validN a=true∧validN b=true
 case neg=>
  refine eW Tryz.call158 Tryz.func158 ?_;repeat' first|simp only[go_sem,seval]|refine cP (rValid_ok _) ?_|refine sB ?_|(first|apply pX|apply bX)<;>intro hc|refine⟨oD,?_⟩|exact oD|fail
  all_goals simp_all
 have la:=len_of h.1;have lb:=len_of h.2;have ho:=rOrder_ok (canon_of h.1) (canon_of h.2) (by omega) (by omega)
 refine eW Tryz.call158 Tryz.func158 ?_;repeat' first|simp only[go_sem,seval]|refine cP (rValid_ok _) ?_|refine cP ho ?_|refine sB ?_|(first|apply pX|apply bX)<;>intro hc|refine⟨oD,?_⟩|exact oD|fail
 all_goals simp_all
theorem rAt_ok (a:Bytes) (i:Nat) (ha:a.length<4611686018427387904):EvP Tryz.prog 277 [.s a,E i] (E ((num a/256^i%256:Nat):Int)):=by
 refine eW Tryz.call277 Tryz.func277 ?_;repeat' first|simp only[go_sem,seval]|refine sB ?_|(first|apply pX|apply bX)<;>intro hc|refine⟨oD,?_⟩|exact oD|fail
 ·rw[num_digit0 a (by omega)];rfl
 ·have h:=num_digit a (i:=i) (by omega)
  rw[←h,show((a.length:Int)-1-(i:Int)).toNat=a.length-1-i by omega]
  have:=(a.getD (a.length-1-i) 0).toNat_lt;rw[IntWalk.i64_in _ (by omega)]
theorem rPlus_ok (a b:Bytes) (la:a.length<1099511627776) (lb:b.length<1099511627776):EvP Tryz.prog 276 [.s a, .s b] (.s (bts (num a+num b))):=by
 have hmax:(if(b.length:Int)>(a.length:Int)then(b.length:Int)else(a.length:Int))=((max a.length b.length:Nat):Int):=by
  split<;>omega
 obtain⟨n,hn⟩: ∃n,n=max a.length b.length+1:=⟨_,rfl⟩;have hn2:((max a.length b.length:Nat):Int)+1=(n:Int):=by omega
 refine eW Tryz.call276 Tryz.func276 ?_;repeat' first|simp only[go_sem,seval,hmax,hn2,cellsZ]|refine sB ?_|(first|apply pX|apply bX)<;>intro hc|refine⟨oD,?_⟩|exact oD|fail
 refine loop_run (α:=Nat) (fun i=>n-i) (fun i=>⟨[(0, .v (.s a)),(1, .v (.s b)),(5, .v (.i .i64 n)),(6, .rs 1009 0 0 n 1),(7, .v (.i .i64 (carry (num a) (num b) (256^i)))),(8, .v (.i .i64 i))],[(1009,⟨0,bcells (List.replicate (n-i) 0++be i (num a+num b)),false,none⟩)],_⟩) (fun i=>i≤n) 0 (fun _=>Nat.le_refl _) (Nat.zero_le _) ?_ ?_
 ·(refine AS.Le.of (by first|decide|omega) ?_ ?_<;>simp[LeT,LeH,tget,hget,AV.bd,AV.bd.bdL,u8,bd_cellsOf,bcells_bd,icells_bd])
  ·simp[carry,Nat.mod_one]
  ·simp[be]
 ·intro i hi R hR;have hl:=fillLen n i (num a+num b) hi;have hp:=pow256_pos i;have hc1:=carry_le (num a) (num b) hp
  by_cases hlt:i<n
  ·have e0: ∀ _:True,((num a/256^i%256:Nat):Int)+((num b/256^i%256:Nat):Int)+((carry (num a) (num b) (256^i):Nat):Int)=((carry (num a) (num b) (256^i)+(num a/256^i%256+num b/256^i%256):Nat):Int):=fun _=>by omega
   repeat' first|simp only[go_sem,seval,hl,e0 trivial]|(refine CR_pure (rAt_ok a i (by omega)) rfl ?_)|(refine CR_pure (rAt_ok b i (by omega)) rfl ?_)|refine sB ?_|(first|apply pX|apply bX)<;>intro hc|refine⟨oD,?_⟩|exact oD|fail
   refine hR (i+1) (by omega) (by omega) _ ?_
   have e2:((n:Int)-1-i).toNat=n-1-i:=by omega
   rw[e2,bput (c:=UInt8.ofNat ((num a+num b)/256^i)) (by omega) (by rw[wu8_nat,←carry_byte _ _ hp,UInt8.toNat_ofNat',UInt8.toNat_ofNat',Nat.mod_mod]),fill_set hlt,carry_next _ _ hp,←Nat.pow_succ]
   (refine AS.Le.of (by first|decide|omega) ?_ ?_<;>simp[LeT,LeH,tget,hget,AV.bd,AV.bd.bdL,u8,bd_cellsOf,bcells_bd,icells_bd])
   all_goals first|omega|rfl|skip
  ·obtain rfl:i=n:=by omega
   have:=rTrim_ok (be i (num a+num b)) (by rw[be_len];omega)
   have hl:(be i (num a+num b)).length=i:=be_len _ _;repeat' first|simp only[go_sem,seval,hl,Nat.sub_self,List.replicate_zero]|(refine CR_bytes this rfl rfl hl.symm ?_)|refine sB ?_|(first|apply pX|apply bX)<;>intro hc|refine⟨oD,?_⟩|exact oD|fail
   have h1:num a+num b<256^i:=by
    have g1:=num_lt a;have g2:=num_lt b;have p1:256^a.length≤256^(i-1):=Nat.pow_le_pow_right (by decide) (by omega)
    have p2:256^b.length≤256^(i-1):=Nat.pow_le_pow_right (by decide) (by omega)
    have p3:256^i=256^(i-1)*256:=by rw[←Nat.pow_succ];congr 1;omega
    omega
   rw[trim_be h1]
theorem rMinus_ok (a b:Bytes) (la:a.length<1099511627776) (lb:b.length<1099511627776) (h:num b≤num a):EvP Tryz.prog 154 [.s a, .s b] (.s (bts (num a-num b))):=by
 obtain⟨n,hn⟩: ∃n,n=a.length:=⟨_,rfl⟩;refine eW Tryz.call154 Tryz.func154 ?_;simp only[go_sem,seval,←hn];repeat' first|simp only[go_sem,seval,←hn,cellsZ]|refine sB ?_|(first|apply pX|apply bX)<;>intro hc|refine⟨oD,?_⟩|exact oD|fail
 refine loop_run (α:=Nat) (fun i=>n-i) (fun i=>⟨[(0, .v (.s a)),(1, .v (.s b)),(5, .v (.i .i64 n)),(6, .rs 1005 0 0 n 1),(7, .v (.i .i64 (borrow (num a) (num b) (256^i)))),(8, .v (.i .i64 i))],[(1005,⟨0,bcells (List.replicate (n-i) 0++be i (num a-num b)),false,none⟩)],_⟩) (fun i=>i≤n) 0 (fun _=>Nat.le_refl _) (Nat.zero_le _) ?_ ?_
 ·(refine AS.Le.of (by first|decide|omega) ?_ ?_<;>simp[LeT,LeH,tget,hget,AV.bd,AV.bd.bdL,u8,bd_cellsOf,bcells_bd,icells_bd])
  ·simp[borrow,Nat.mod_one]
  ·simp[be]
 ·intro i hi R hR;have hl:=fillLen n i (num a-num b) hi;have hp:=pow256_pos i;have hc1:=borrow_le (num a) (num b) (256^i);have hb1:=borrow_next (num a) (num b) hp;have hb2:=borrow_byte (num a) (num b) hp h;have e2:((n:Int)-1-i).toNat=n-1-i:=by omega
  by_cases hlt:i<n
  ·repeat' first|simp only[go_sem,seval,hl]|(refine CR_pure (rAt_ok a i (by omega)) rfl ?_)|(refine CR_pure (rAt_ok b i (by omega)) rfl ?_)|refine sB ?_|(first|apply pX|apply bX)<;>intro hc|refine⟨oD,?_⟩|exact oD|fail
   ·refine hR (i+1) (by omega) (by omega) _ ?_
    rw[e2,bput (c:=UInt8.ofNat ((num a-num b)/256^i)) (by omega) (by rw[wu8,UInt8.toNat_ofNat',←hb2 _ rfl];omega),fill_set hlt]
    (refine AS.Le.of (by first|decide|omega) ?_ ?_<;>simp[LeT,LeH,tget,hget,AV.bd,AV.bd.bdL,u8,bd_cellsOf,bcells_bd,icells_bd])
    ·rw[Nat.pow_succ,hb1,if_pos hc];rfl
    ·rfl
   ·refine hR (i+1) (by omega) (by omega) _ ?_
    rw[e2,bput (c:=UInt8.ofNat ((num a-num b)/256^i)) (by omega) (by rw[wu8,UInt8.toNat_ofNat',←hb2 _ rfl]),fill_set hlt]
    (refine AS.Le.of (by first|decide|omega) ?_ ?_<;>simp[LeT,LeH,tget,hget,AV.bd,AV.bd.bdL,u8,bd_cellsOf,bcells_bd,icells_bd])
    ·rw[Nat.pow_succ,hb1,if_neg hc];rfl
    ·rfl
  ·obtain rfl:i=n:=by omega
   have:=rTrim_ok (be i (num a-num b)) (by rw[be_len];omega)
   have hl:(be i (num a-num b)).length=i:=be_len _ _;repeat' first|simp only[go_sem,seval,hl,Nat.sub_self,List.replicate_zero]|(refine CR_bytes this rfl rfl hl.symm ?_)|refine sB ?_|(first|apply pX|apply bX)<;>intro hc|refine⟨oD,?_⟩|exact oD|fail
   have h1:num a-num b<256^i:=by have:=num_lt a;rw[hn];omega
   rw[trim_be h1]
end Go.Proofs.YtmledjfbgjnknaaGreatDoor
