/-
  Part of the proof, part Y24. Own work.
-/
import Derived.Test.YtmledjfbgjnknaaGreatDoorY23
set_option linter.all false
namespace Go.Proofs.YtmledjfbgjnknaaGreatDoor
open Go Go.Dom
set_option maxRecDepth 100000
theorem Of_ok (n:Nat) (hn:n<18446744073709551616):EvP Tryz.prog 46 [.i .u64 n] (.s (bts n)):=by
 refine eW Tryz.call46 Tryz.func46 ?_;simp only[go_sem,seval];refine loop_run (α:=Nat) (fun i=>8-i) (fun i=>⟨[(0, .v (.i .u64 n)),(3, .p 1001 0 0),(5, .v (.i .i64 i))],[(1001,⟨0,bcells (List.replicate (8-i) 0++be i n),false,some 181⟩)],1003⟩) (fun i=>i≤8) 0 (fun _=>Nat.le_refl _) (Nat.zero_le _) ?_ ?_
 ·(refine AS.Le.of (by first|decide|omega) ?_ ?_<;>simp[LeT,LeH,tget,hget,AV.bd,AV.bd.bdL,u8,bd_cellsOf,bcells_bd,icells_bd]);rfl
 ·intro i hi R hR;have hl:(List.replicate (8-i) (0:UInt8)++be i n).length=8:=by simp[be_len];omega
  by_cases hlt:i<8
  ·repeat' first|simp only[go_sem,seval,hl]|refine sB ?_|(first|apply pX|apply bX)<;>intro hc|refine⟨oD,?_⟩|exact oD|fail
   refine hR (i+1) (by omega) (by omega) _ ?_
   have e1:(8*(i:Int)).toNat=8*i:=by omega
   have e2:((7:Int)-i).toNat=8-1-i:=by omega
   have e3:IntKind.u8.wrap ((n/2^(8*i):Nat):Int)=((UInt8.ofNat (n/256^i)).toNat:Int):=by
    rw[wu8_nat,Nat.pow_mul]
   rw[e1,e2,if_pos (by omega),bput (by omega) e3,fill_set hlt]
   (refine AS.Le.of (by first|decide|omega) ?_ ?_<;>simp[LeT,LeH,tget,hget,AV.bd,AV.bd.bdL,u8,bd_cellsOf,bcells_bd,icells_bd]);rfl
  ·obtain rfl:i=8:=by omega
   have:=trimmed_ok (be 8 n);have hl:(be 8 n).length=8:=be_len 8 n;repeat' first|simp only[go_sem,seval,hl]|(refine CR_bytes this rfl rfl hl.symm ?_)|refine sB ?_|(first|apply pX|apply bX)<;>intro hc|refine⟨oD,?_⟩|exact oD|fail
   rw[trim_be (by omega)]
def LIM:Nat:=256^128
theorem lim_len {n:Nat}:(bts n).length≤128↔n<LIM:=bts_len
def addB (a b:Bytes):Bytes×Int:=if validN a&&validN b then(if num a+num b<LIM then(bts (num a+num b),0)else([],5))else([],3)
theorem cellsZ (n:Nat):(List.replicate n [AV.v (PV.i IntKind.u8 0)]).flatten=bcells (List.replicate n 0):=by
 induction n with
 |zero=>rfl
 |succ n ih=>simp[List.replicate_succ,bcells,u8]at ih⊢
theorem fillLen (n i x:Nat) (h:i≤n):(List.replicate (n-i) (0:UInt8)++be i x).length=n:=by simp[be_len];omega
theorem Add_ok (a b:Bytes):EvP Tryz.prog 347 [.s a, .s b] (.tup [.s (addB a b).1,E (addB a b).2]):=by
 have hmax:(if(b.length:Int)>(a.length:Int)then(b.length:Int)else(a.length:Int))=((max a.length b.length:Nat):Int):=by
  split<;>omega
 by_cases hv:validN a=true∧validN b=true
 case neg=>
  refine eW Tryz.call347 Tryz.func347 ?_;repeat' first|simp only[go_sem,seval]|refine cP (natValid _) ?_|refine sB ?_|(first|apply pX|apply bX)<;>intro hc|refine⟨oD,?_⟩|exact oD|fail
  all_goals simp_all[addB]
 obtain⟨hva,hvb⟩:=hv;have la:=len_of hva;have lb:=len_of hvb;obtain⟨n,hn⟩: ∃n,n=max a.length b.length+1:=⟨_,rfl⟩;have hn2:((max a.length b.length:Nat):Int)+1=(n:Int):=by omega
 refine eW Tryz.call347 Tryz.func347 ?_;repeat' first|simp only[go_sem,seval,hmax,hn2,cellsZ]|refine cP (natValid _) ?_|refine sB ?_|(first|apply pX|apply bX)<;>intro hc|refine⟨oD,?_⟩|exact oD|fail
 refine loop_run (α:=Nat) (fun i=>n-i) (fun i=>⟨[(0, .v (.s a)),(1, .v (.s b)),(6, .v (.i .i64 n)),(7, .rs 1018 0 0 n 1),(8, .v (.i .i64 (carry (num a) (num b) (256^i)))),(26, .v (.i .i64 n)),(27, .v (.i .i64 i))],[(1018,⟨0,bcells (List.replicate (n-i) 0++be i (num a+num b)),false,none⟩)],1023⟩) (fun i=>i≤n) 0 (fun _=>Nat.le_refl _) (Nat.zero_le _) ?_ ?_
 ·(refine AS.Le.of (by first|decide|omega) ?_ ?_<;>simp[LeT,LeH,tget,hget,AV.bd,AV.bd.bdL,u8,bd_cellsOf,bcells_bd,icells_bd])
  ·simp[carry,Nat.mod_one]
  ·simp[be]
 ·intro i hi R hR;have hl:=fillLen n i (num a+num b) hi;have hp:=pow256_pos i;have hc1:=carry_le (num a) (num b) hp
  by_cases hlt:i<n
  ·repeat' first|simp only[go_sem,seval,hl]|(refine CR_pure (digit_ok a i (by omega)) rfl ?_)|(refine CR_pure (digit_ok b i (by omega)) rfl ?_)|refine sB ?_|(first|apply pX|apply bX)<;>intro hc|refine⟨oD,?_⟩|exact oD|fail
   refine hR (i+1) (by omega) (by omega) _ ?_
   have e2:((n:Int)-1-i).toNat=n-1-i:=by omega
   have e0:((carry (num a) (num b) (256^i):Nat):Int)+(((num a/256^i%256:Nat):Int)+((num b/256^i%256:Nat):Int))=((carry (num a) (num b) (256^i)+(num a/256^i%256+num b/256^i%256):Nat):Int):=by omega
   rw[e0,e2,bput (by omega) ((wu8_nat _).trans (by rw[carry_byte _ _ hp])),fill_set hlt,show(256:Int)=((256:Nat):Int)from rfl,fdivNat,carry_next _ _ hp,←Nat.pow_succ]
   (refine AS.Le.of (by first|decide|omega) ?_ ?_<;>simp[LeT,LeH,tget,hget,AV.bd,AV.bd.bdL,u8,bd_cellsOf,bcells_bd,icells_bd]);rfl
  ·obtain rfl:i=n:=by omega
   have:=trimmed_ok (be i (num a+num b));have hl:(be i (num a+num b)).length=i:=be_len _ _;repeat' first|simp only[go_sem,seval,hl,Nat.sub_self,List.replicate_zero]|(refine CR_bytes this rfl rfl hl.symm ?_)|refine cP (fitting_ok _) ?_|refine sB ?_|(first|apply pX|apply bX)<;>intro hc|refine⟨oD,?_⟩|exact oD|fail
   have h1:num a+num b<256^i:=by
    have g1:=num_lt a;have g2:=num_lt b;have p1:256^a.length≤256^(i-1):=Nat.pow_le_pow_right (by decide) (by omega)
    have p2:256^b.length≤256^(i-1):=Nat.pow_le_pow_right (by decide) (by omega)
    have p3:256^i=256^(i-1)*256:=by rw[←Nat.pow_succ];congr 1;omega
    omega
   rw[trim_be h1];simp only[lim_len,addB,hva,hvb,Bool.and_self,if_true]
   split<;>simp
theorem less_ok (a b:Bytes) (ha:a.length≤128) (hb:b.length≤128) (h:num b≤num a):EvP Tryz.prog 217 [.s a, .s b] (.s (bts (num a-num b))):=by
 obtain⟨n,hn⟩: ∃n,n=a.length:=⟨_,rfl⟩;refine eW Tryz.call217 Tryz.func217 ?_;simp only[go_sem,seval,←hn];repeat' first|simp only[go_sem,seval,←hn,cellsZ]|refine sB ?_|(first|apply pX|apply bX)<;>intro hc|refine⟨oD,?_⟩|exact oD|fail
 refine loop_run (α:=Nat) (fun i=>n-i) (fun i=>⟨[(0, .v (.s a)),(1, .v (.s b)),(5, .v (.i .i64 n)),(6, .rs 1005 0 0 n 1),(7, .v (.i .i64 (borrow (num a) (num b) (256^i)))),(14, .v (.i .i64 n)),(15, .v (.i .i64 i))],[(1005,⟨0,bcells (List.replicate (n-i) 0++be i (num a-num b)),false,none⟩)],1010⟩) (fun i=>i≤n) 0 (fun _=>Nat.le_refl _) (Nat.zero_le _) ?_ ?_
 ·(refine AS.Le.of (by first|decide|omega) ?_ ?_<;>simp[LeT,LeH,tget,hget,AV.bd,AV.bd.bdL,u8,bd_cellsOf,bcells_bd,icells_bd])
  ·simp[borrow,Nat.mod_one]
  ·simp[be]
 ·intro i hi R hR;have hl:=fillLen n i (num a-num b) hi;have hp:=pow256_pos i;have hc1:=borrow_le (num a) (num b) (256^i);have hb1:=borrow_next (num a) (num b) hp;have hb2:=borrow_byte (num a) (num b) hp h;have e2:((n:Int)-1-i).toNat=n-1-i:=by omega
  by_cases hlt:i<n
  ·repeat' first|simp only[go_sem,seval,hl]|(refine CR_pure (digit_ok a i (by omega)) rfl ?_)|(refine CR_pure (digit_ok b i (by omega)) rfl ?_)|refine sB ?_|(first|apply pX|apply bX)<;>intro hc|refine⟨oD,?_⟩|exact oD|fail
   ·refine hR (i+1) (by omega) (by omega) _ ?_
    rw[e2,bput (c:=UInt8.ofNat ((num a-num b)/256^i)) (by omega) (by rw[wu8,UInt8.toNat_ofNat',←hb2 _ rfl];omega),fill_set hlt]
    (refine AS.Le.of (by first|decide|omega) ?_ ?_<;>simp[LeT,LeH,tget,hget,AV.bd,AV.bd.bdL,u8,bd_cellsOf,bcells_bd,icells_bd])
    ·rw[Nat.pow_succ,hb1,if_pos hc];rfl
    ·rfl
   ·refine hR (i+1) (by omega) (by omega) _ ?_
    rw[e2,bput (c:=UInt8.ofNat ((num a-num b)/256^i)) (by omega) (by rw[wu8,UInt8.toNat_ofNat',←hb2 _ rfl]),fill_set hlt]
    (refine AS.Le.of (by first|decide|omega) ?_ ?_<;>simp[LeT,LeH,tget,hget,AV.bd,AV.bd.bdL,u8,bd_cellsOf,bcells_bd,icells_bd])
    ·rw[Nat.pow_succ,hb1,if_neg hc];rfl
    ·rfl
  ·obtain rfl:i=n:=by omega
   have:=trimmed_ok (be i (num a-num b));have hl:(be i (num a-num b)).length=i:=be_len _ _;repeat' first|simp only[go_sem,seval,hl,Nat.sub_self,List.replicate_zero]|(refine CR_bytes this rfl rfl hl.symm ?_)|refine sB ?_|(first|apply pX|apply bX)<;>intro hc|refine⟨oD,?_⟩|exact oD|fail
   have h1:num a-num b<256^i:=by have:=num_lt a;rw[hn];omega
   rw[trim_be h1]
def subB (a b:Bytes):Bytes×Int:=if validN a&&validN b then(if num b≤num a then(bts (num a-num b),0)else([],2))else([],3)
theorem cmpN_lt {a b:Nat}:cmpN a b<0↔a<b:=by unfold cmpN;split<;>(try split)<;>omega
theorem Sub_ok (a b:Bytes):EvP Tryz.prog 104 [.s a, .s b] (.tup [.s (subB a b).1,E (subB a b).2]):=by
 by_cases hv:validN a=true∧validN b=true
 case neg=>
  refine eW Tryz.call104 Tryz.func104 ?_;repeat' first|simp only[go_sem,seval]|refine cP (natValid _) ?_|refine sB ?_|(first|apply pX|apply bX)<;>intro hc|refine⟨oD,?_⟩|exact oD|fail
  all_goals simp_all[subB]
 obtain⟨hva,hvb⟩:=hv;refine eW Tryz.call104 Tryz.func104 ?_;repeat' first|simp only[go_sem,seval]|refine cP (natValid _) ?_|refine cP (compare_ok (canon_of hva) (canon_of hvb)) ?_|(refine CR_pure (less_ok _ _ (len_of hva) (len_of hvb) (by rw[cmpN_lt]at hc;omega)) rfl ?_)|refine sB ?_|(first|apply pX|apply bX)<;>intro hc|refine⟨oD,?_⟩|exact oD|fail
 ·rw[cmpN_lt]at hc;simp[subB,hva,hvb,show¬num b≤num a by omega]
 ·rw[cmpN_lt]at hc;simp[subB,hva,hvb,show num b≤num a by omega]
end Go.Proofs.YtmledjfbgjnknaaGreatDoor
namespace Go.Proofs.YtmledjfbgjnknaaGreatDoor
open Go Go.Dom
set_option maxRecDepth 100000
set_option maxHeartbeats 4000000
theorem tabGet {l:List Nat} {i:Nat} (h:i<l.length):(l.map fun n:Nat=>PV.i .u8 n).getD i .fn0= .i .u8 (l.getD i 0:Nat):=by
 simp[List.getD_eq_getElem?_getD,h]
theorem TrailingZeros64_ok (x:Nat) (h0:x≠0) (h:x<18446744073709551616):EvP Tryz.prog 398 [.i .u64 x] (E (Lib.ctz 64 x:Nat)):=by
 obtain⟨g1,g2⟩:=Lib.lowest_bit 64 x h0 h;obtain⟨g3,g4⟩:=Lib.deBruijn64_at _ g2;obtain⟨k,hk⟩: ∃k,k=Lib.ctz 64 x:=⟨_,rfl⟩;rw[←hk]at g1 g2 g3 g4⊢;obtain⟨p,hp⟩: ∃p,p=2^k:=⟨_,rfl⟩;rw[←hp]at g1 g3 g4;obtain⟨i,hi⟩: ∃i,i=p*285870213051353865%18446744073709551616/288230376151711744:=⟨_,rfl⟩;rw[←hi]at g3 g4;have e1: ∀ _:True,IntKind.u64.wrap (0-(x:Int))=((18446744073709551616-x:Nat):Int):=fun _=>by rw[wu64];omega
 have e2: ∀ _:True,iAnd .u64 (x:Int) ((18446744073709551616-x:Nat):Int)=((p:Nat):Int):=fun _=>by
  rw[iAndN .u64 rfl h (by show 18446744073709551616-x<18446744073709551616;omega)];exact congrArg _ g1
 have e3: ∀ _:True,p*285870213051353865%18446744073709551616/288230376151711744=i:=fun _=>hi.symm
 have e4:=tabGet (l:=Lib.deBruijn64tab) (i:=i) (by exact g3)
 rw[g4]at e4;have e5: ∀ _:True,([(.i .u8 0),(.i .u8 1),(.i .u8 56),(.i .u8 2),(.i .u8 57),(.i .u8 49),(.i .u8 28),(.i .u8 3),(.i .u8 61),(.i .u8 58),(.i .u8 42),(.i .u8 50),(.i .u8 38),(.i .u8 29),(.i .u8 17),(.i .u8 4),(.i .u8 62),(.i .u8 47),(.i .u8 59),(.i .u8 36),(.i .u8 45),(.i .u8 43),(.i .u8 51),(.i .u8 22),(.i .u8 53),(.i .u8 39),(.i .u8 33),(.i .u8 30),(.i .u8 24),(.i .u8 18),(.i .u8 12),(.i .u8 5),(.i .u8 63),(.i .u8 55),(.i .u8 48),(.i .u8 27),(.i .u8 60),(.i .u8 41),(.i .u8 37),(.i .u8 16),(.i .u8 46),(.i .u8 35),(.i .u8 44),(.i .u8 21),(.i .u8 52),(.i .u8 32),(.i .u8 23),(.i .u8 11),(.i .u8 54),(.i .u8 26),(.i .u8 40),(.i .u8 15),(.i .u8 34),(.i .u8 20),(.i .u8 31),(.i .u8 10),(.i .u8 25),(.i .u8 14),(.i .u8 19),(.i .u8 9),(.i .u8 13),(.i .u8 8),(.i .u8 7),(.i .u8 6)]:List PV).getD i .fn0= .i .u8 (k:Nat):=fun _=>e4
 clear g1 g4 hi hp e4;refine eW Tryz.call398 Tryz.func398 ?_;simp only[go_sem,seval,e1 trivial,e2 trivial,mulUL,e3 trivial,e5 trivial];repeat' first|simp only[go_sem,seval,e1 trivial,e2 trivial,mulUL,e3 trivial,e5 trivial]|refine sB ?_|(first|apply pX|apply bX)<;>intro hc|refine⟨oD,?_⟩|exact oD|fail
 all_goals skip
abbrev E' (n:Nat):AV:= .v (.i .i64 n)
theorem product_ok (n nm:Nat) (a b:Bytes) (la:a.length≤128) (lb:b.length≤128) (el:Option TypeId) (zs:List Nat) (hz:zs=List.replicate 256 0):EvA Tryz.prog 204 nm [(n,⟨0,icells .i64 zs,false,el⟩)] [.v (.s a), .v (.s b), .p n 0 0] (.v (.s (bts (num a*num b)))) [(n,none)]:=by
 refine EvA.w mixed Tryz.call204 Tryz.func204 rfl (tyC.1 _ _ _ (by cbv)) (tyC.2 _ _ (by cbv)) (obs:=[⟨0,icells .i64 zs,false,el⟩]) (args:=[.v (.s a), .v (.s b), .p 0 0 0]) (fs:=[some none]) (j:=none) (nw:=none) (v:= .v (.s (bts (num a*num b)))) (ns:=[n]) (obsA:=[⟨0,icells .i64 zs,false,el⟩]) rfl ?_ (by simp) (by simp) rfl (by simp[mapO,AObj.ren,renL_icells]) (by simp[mapO,AV.ren,ixOf]) (by simp[AV.ren]) (by simp[upsOf,outs])
 have r1:(icells .i64 zs).length=256:=by rw[icells_len,hz,List.length_replicate]
 have r2:List.drop 256 (icells .i64 zs)=[]:=List.drop_of_length_le (by rw[r1];exact Nat.le_refl _)
 have r3:=icells_rep .i64 256;rw[←hz]at r3;simp only[go_sem,seval,r1,r2,r3,-List.reduceReplicate];refine loop_run (α:=Nat×List Nat) (fun x=>a.length-x.1) (fun x=>⟨[(0, .v (.s a)),(1, .v (.s b)),(2, .p 0 0 0),(18, .v (.i .i64 a.length)),(19, .v (.i .i64 x.1))],[(0,⟨0,icells .i64 x.2,false,el⟩)],_⟩) (fun x=>x.1≤a.length∧Cols 256 (num a) (num b) x.1 0 x.2) (0,zs) (fun _=>Nat.le_refl _) ⟨Nat.zero_le _,hz▸ .start _ _ _⟩ ?_ ?_
 ·(refine AS.Le.of (by first|decide|omega) ?_ ?_<;>simp[LeT,LeH,tget,hget,AV.bd,AV.bd.bdL,u8,bd_cellsOf,bcells_bd,icells_bd])
  all_goals skip
 ·rintro⟨i,l⟩ ⟨hi,hl⟩ R hR;simp only at hi hl;have l1:(icells .i64 l).length=256:=by rw[icells_len,hl.len]
  by_cases hlt:i<a.length
  ·repeat' first|simp only[go_sem,seval,l1]|(refine CR_pure (digit_ok a i (by omega)) rfl ?_)|refine sB ?_|(first|apply pX|apply bX)<;>intro hc|refine⟨oD,?_⟩|exact oD|fail
   refine loop_run (α:=Nat×List Nat) (fun x=>b.length-x.1) (fun x=>⟨[(0, .v (.s a)),(1, .v (.s b)),(2, .p 0 0 0),(7,E' i),(8,E' (num a/256^i%256)),(18,E' a.length),(19,E' i),(26,E' b.length),(27,E' x.1)],[(0,⟨0,icells .i64 x.2,false,el⟩)],_⟩) (fun x=>x.1≤b.length∧Cols 256 (num a) (num b) i x.1 x.2) (0,l) (fun _=>Nat.le_refl _) ⟨Nat.zero_le _,hl⟩ ?_ ?_
   ·exact lE
   ·rintro⟨k,m⟩ ⟨hk,hm⟩ R' hR';simp only at hk hm;have m1:(icells .i64 m).length=256:=by rw[icells_len,hm.len]
    by_cases hklt:k<b.length
    ·obtain⟨x,hx⟩: ∃x,x=num a/256^i%256:=⟨_,rfl⟩;obtain⟨y,hy⟩: ∃y,y=num b/256^k%256:=⟨_,rfl⟩;have hst:=hm.step (by omega)
     rw[←hx,←hy]at hst;have hxy:x*y≤65025:=Nat.mul_le_mul (by omega:x≤255) (by omega:y≤255)
     have hc:=hm.hi (i+k) (Nat.le_refl _);have g1: ∀ _:True,(icells .i64 m).getD ((i:Int)+(k:Int)).toNat .u= .v (.i .i64 (m.getD (i+k) 0:Nat)):=fun _=>by
      rw[show((i:Int)+(k:Int)).toNat=i+k by omega,icells_get (by rw[hm.len];omega)]
     have g2: ∀ _:True,IntKind.i64.wrap ((x:Int)*(y:Int))=((x*y:Nat):Int):=fun _=>by
      rw[←Int.natCast_mul,IntWalk.i64_in _ (by omega)]
     have g3: ∀ _:True,IntKind.i64.wrap (((m.getD (i+k) 0:Nat):Int)+((x*y:Nat):Int))=((m.getD (i+k) 0+x*y:Nat):Int):=fun _=>by
      rw[←Int.natCast_add,IntWalk.i64_in _ (by omega)]
     have hd:=digit_ok b k (by omega)
     rw[←hy]at hd;rw[←hx];clear hy hxy;repeat' first|simp only[go_sem,seval,m1,g1 trivial,g2 trivial,g3 trivial]|refine cP hd ?_|refine sB ?_|(first|apply pX|apply bX)<;>intro hc|refine⟨oD,?_⟩|exact oD|fail
     refine hR' (k+1,m.set (i+k) (m.getD (i+k) 0+x*y)) ⟨by show k+1≤ _;omega,hst⟩ (by show b.length-(k+1)<b.length-k;omega) _ ?_
     rw[show((i:Int)+(k:Int)).toNat=i+k by omega,icells_put (by rw[hm.len];omega) rfl]
     (refine AS.Le.of (by first|decide|omega) ?_ ?_<;>simp[LeT,LeH,tget,hget,AV.bd,AV.bd.bdL,u8,bd_cellsOf,bcells_bd,icells_bd])
     rw[hx];simp
    ·obtain rfl:k=b.length:=by omega
     repeat' first|simp only[go_sem,seval]|refine sB ?_|(first|apply pX|apply bX)<;>intro hc|refine⟨oD,?_⟩|exact oD|fail
     refine hR (i+1,m) ⟨by show i+1≤ _;omega,hm.row (num_lt b)⟩ (by show a.length-(i+1)<a.length-i;omega) _ ?_
     exact lE
  ·obtain rfl:i=a.length:=by omega
   repeat' first|simp only[go_sem,seval,l1,cellsZ]|refine sB ?_|(first|apply pX|apply bX)<;>intro hc|refine⟨oD,?_⟩|exact oD|fail
   have hv:=hl.v;have ha:=num_lt a;rw[Nat.mod_eq_of_lt ha]at hv;simp only[Nat.pow_zero,Nat.mod_one,Nat.mul_zero,Nat.zero_mul,Nat.add_zero]at hv;obtain⟨n,hn⟩: ∃n,n=a.length+b.length:=⟨_,rfl⟩;have hn':((a.length:Int)+(b.length:Int))=(n:Int):=by omega
   obtain⟨T,hT⟩: ∃T,T=num a*num b:=⟨_,rfl⟩;rw[←hT]at hv;have hTl:T<256^n:=by rw[hT,hn,Nat.pow_add];exact Nat.mul_lt_mul'' ha (num_lt b)
   rw[←hT];simp only[hn',Int.toNat_natCast];refine loop_run (α:=Nat) (fun i=>n-i) (fun i=>⟨[(2, .p 0 0 0),(10,E' n),(11, .rs 1016 0 0 n 1),(12,E' (le (l.take i)/256^i)),(54,E' n),(55,E' i)],if i<n then[(0,⟨0,icells .i64 l,false,el⟩),(1016,⟨0,bcells (List.replicate (n-i) 0++be i T),false,none⟩)]else[(1016,⟨0,bcells (List.replicate (n-i) 0++be i T),false,none⟩)],_⟩) (fun i=>i≤n) 0 (fun _=>Nat.le_refl _) (Nat.zero_le _) ?_ ?_
   ·by_cases h0:0<n<;>simp only[h0,if_true,if_false]<;>(refine AS.Le.of (by first|decide|omega) ?_ ?_<;>simp[LeT,LeH,tget,hget,AV.bd,AV.bd.bdL,u8,bd_cellsOf,bcells_bd,icells_bd])<;>simp[le,be]
   ·intro i hi R hR;have hb:=fillLen n i T hi
    by_cases hlt:i<n
    ·obtain⟨e1,e2⟩:=col_byte (l:=l) (i:=i) (by rw[hl.len];omega) hv.symm
     have hm:=hl.lo i;have hc:=hl.lo.carry i;have g1: ∀ _:True,(icells .i64 l).getD i .u= .v (.i .i64 (l.getD i 0:Nat)):=fun _=>icells_get (by rw[hl.len];omega)
     have g2: ∀ _:True,IntKind.i64.wrap (((le (l.take i)/256^i:Nat):Int)+((l.getD i 0:Nat):Int))=((le (l.take i)/256^i+l.getD i 0:Nat):Int):=fun _=>by
      have hs:le (l.take i)/256^i+l.getD i 0≤65025*(a.length+1)+65025*(a.length+1):=Nat.add_le_add hc hm;rw[←Int.natCast_add];generalize le (l.take i)/256^i+l.getD i 0=z at hs⊢;rw[IntWalk.i64_in _ (by omega)]
     rw[if_pos hlt];clear e1 e2 hm hc;repeat' first|simp only[go_sem,seval,l1,g1 trivial,g2 trivial,hb]|refine sB ?_|(first|apply pX|apply bX)<;>intro hc|refine⟨oD,?_⟩|exact oD|fail
     obtain⟨e1,e2⟩:=col_byte (l:=l) (i:=i) (by rw[hl.len];omega) hv.symm
     refine hR (i+1) (by omega) (by omega) _ ?_
     rw[e2,show((n:Int)-1-i).toNat=n-1-i by omega,bput (c:=UInt8.ofNat (T/256^i)) (by omega) (by rw[wu8_nat,UInt8.toNat_ofNat',UInt8.toNat_ofNat'];exact congrArg _ e1),fill_set hlt]
     by_cases h0:i+1<n<;>simp only[h0,if_true,if_false]<;>(refine AS.Le.of (by first|decide|omega) ?_ ?_<;>simp[LeT,LeH,tget,hget,AV.bd,AV.bd.bdL,u8,bd_cellsOf,bcells_bd,icells_bd])<;>rfl
    ·obtain rfl:i=n:=by omega
     have:=trimmed_ok (be i T);have hl':(be i T).length=i:=be_len _ _;rw[if_neg hlt];repeat' first|simp only[go_sem,seval,hl',Nat.sub_self,List.replicate_zero,true_or,or_true,false_or,or_false,Option.some.injEq,RetA,resLA,outV,outC,outO,viewC,hfV,foV,finH,finN,mkResA,mapO_outC_bcells,AV.ren,AV.ren.renL,renL_bcells]|(refine CR_bytes this rfl rfl hl'.symm ?_)|refine sB ?_|(first|apply pX|apply bX)<;>intro hc|refine⟨oD,?_⟩|exact oD|fail
     rw[trim_be hTl]
def mulB (a b:Bytes):Bytes×Int:=if validN a&&validN b then(if num a*num b<LIM then(bts (num a*num b),0)else([],5))else([],3)
theorem num8 {a:Bytes} (h:a.length≤8):num a<18446744073709551616:=Nat.lt_of_lt_of_le (num_lt a) (Nat.pow_le_pow_right (by decide) h)
theorem Mul_ok (a b:Bytes):EvP Tryz.prog 86 [.s a, .s b] (.tup [.s (mulB a b).1,E (mulB a b).2]):=by
 by_cases hv:validN a=true∧validN b=true
 case neg=>
  refine eW Tryz.call86 Tryz.func86 ?_;repeat' first|simp only[go_sem,seval]|refine cP (natValid _) ?_|refine sB ?_|(first|apply pX|apply bX)<;>intro hc|refine⟨oD,?_⟩|exact oD|fail
  all_goals simp_all[mulB]
 obtain⟨hva,hvb⟩:=hv;have la:=len_of hva;have lb:=len_of hvb;have sa:=Small_ok a;have sb:=Small_ok b;rw[hva,Bool.true_and]at sa;rw[hvb,Bool.true_and]at sb;have hlim:18446744073709551616≤LIM:=by unfold LIM;decide+kernel
 by_cases h8:a.length≤8∧b.length≤8
 ·rw[decide_eq_true h8.1]at sa;rw[decide_eq_true h8.2]at sb;have ha:=num8 h8.1;have hb:=num8 h8.2;refine eW Tryz.call86 Tryz.func86 ?_;repeat' first|simp only[go_sem,seval,if_true]|refine cP (natValid _) ?_|refine cP sa ?_|refine cP sb ?_|refine cP (Mul64_ok _ _ ha hb) ?_|(refine CR_pure (Of_ok _ (Nat.mod_lt _ (by decide))) rfl ?_)|(refine CR_eff (product_ok _ _ a b la lb _ (List.replicate 256 0) rfl) (by intro p hp;cases List.mem_singleton.1 hp;rfl) ?_)|refine cP (fitting_ok _) ?_|refine sB ?_|(first|apply pX|apply bX)<;>intro hc|refine⟨oD,?_⟩|exact oD|fail
  ·have hp:num a*num b<18446744073709551616:=by omega
   have hq:num a*num b<LIM:=Nat.lt_of_lt_of_le hp hlim;simp[mulB,hva,hvb,hq,Nat.mod_eq_of_lt hp]
  ·simp only[lim_len,mulB,hva,hvb,Bool.and_self,if_true]
   split<;>simp
 ·have hn: ¬(a.length≤8∧b.length≤8):=h8;have hx:(if decide (a.length≤8)=true then((num a:Nat):Int)else 0)=((if a.length≤8 then num a else 0:Nat):Int):=by by_cases g:a.length≤8<;>simp[g]
  have hy:(if decide (b.length≤8)=true then((num b:Nat):Int)else 0)=((if b.length≤8 then num b else 0:Nat):Int):=by by_cases g:b.length≤8<;>simp[g]
  rw[hx]at sa;rw[hy]at sb;have ha:(if a.length≤8 then num a else 0)<18446744073709551616:=by split;exact num8 ‹_›;decide
  have hb:(if b.length≤8 then num b else 0)<18446744073709551616:=by split;exact num8 ‹_›;decide
  refine eW Tryz.call86 Tryz.func86 ?_;repeat' first|simp only[go_sem,seval]|refine cP (natValid _) ?_|refine cP sa ?_|refine cP sb ?_|refine cP (Mul64_ok _ _ ha hb) ?_|(refine CR_eff (product_ok _ _ a b la lb _ (List.replicate 256 0) rfl) (by intro p hp;cases List.mem_singleton.1 hp;rfl) ?_)|refine cP (fitting_ok _) ?_|refine sB ?_|(first|apply pX|apply bX)<;>intro hc|refine⟨oD,?_⟩|exact oD|fail
  all_goals simp only[lim_len,mulB,hva,hvb,Bool.and_self,if_true]
  all_goals (split<;>simp)
end Go.Proofs.YtmledjfbgjnknaaGreatDoor
