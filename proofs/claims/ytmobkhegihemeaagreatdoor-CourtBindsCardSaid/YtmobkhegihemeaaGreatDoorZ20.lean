/-
  Part of the proof, part Z20. Own work.
-/
import Derived.Test.YtmobkhegihemeaaGreatDoorZ19
set_option linter.all false
namespace Go.Proofs.YtmobkhegihemeaaGreatDoor
open Go Go.Dom
set_option maxRecDepth 100000
theorem gi (n:Nat) (hn:n<18446744073709551616):aA Tryz.prog 31 [.i .u64 n] (.s (aI n)):=by
 refine eW Tryz.call31 Tryz.func31 ?_;simp only[go_sem,seval];refine ai (α:=Nat) (fun i=>8-i) (fun i=>⟨[(0, .v (.i .u64 n)),(3, .p 1001 0 0),(5, .v (.i .i64 i))],[(1001,⟨0,ay (List.replicate (8-i) 0++be i n),false,some 138⟩)],1003⟩) (fun i=>i≤8) 0 (fun _=>Nat.le_refl _) (Nat.zero_le _) ?_ ?_
 ·(refine AS.Le.of (by first|decide|omega) ?_ ?_<;>simp[bz,bA,aD,ak,AV.bd,AV.bd.bdL,u8,af,ah,aj]);rfl
 ·intro i hi R hR;have hl:(List.replicate (8-i) (0:UInt8)++be i n).length=8:=by simp[a5];omega
  by_cases hlt:i<8
  ·repeat' first|simp only[go_sem,seval,hl]|refine sB ?_|(first|apply pX|apply bX)<;>intro hc|refine⟨oD,?_⟩|exact oD|fail
   refine hR (i+1) (by omega) (by omega) _ ?_
   have e1:(8*(i:Int)).toNat=8*i:=by omega
   have e2:((7:Int)-i).toNat=8-1-i:=by omega
   have e3:IntKind.u8.wrap ((n/2^(8*i):Nat):Int)=((UInt8.ofNat (n/256^i)).toNat:Int):=by
    rw[fT,Nat.pow_mul]
   rw[e1,e2,if_pos (by omega),mn (by omega) e3,dU hlt]
   (refine AS.Le.of (by first|decide|omega) ?_ ?_<;>simp[bz,bA,aD,ak,AV.bd,AV.bd.bdL,u8,af,ah,aj]);rfl
  ·obtain rfl:i=8:=by omega
   have:=fM (be 8 n);have hl:(be 8 n).length=8:=a5 8 n;repeat' first|simp only[go_sem,seval,hl]|(refine dQ this rfl rfl hl.symm ?_)|refine sB ?_|(first|apply pX|apply bX)<;>intro hc|refine⟨oD,?_⟩|exact oD|fail
   rw[fw (by omega)]
def bR:Nat:=256^128
theorem kx {n:Nat}:(aI n).length≤128↔n<bR:=ju
def rX (a b:Bytes):Bytes×Int:=if aa a&&aa b then(if num a+num b<bR then(aI (num a+num b),0)else([],5))else([],3)
theorem iO (n:Nat):(List.replicate n [AV.v (PV.i IntKind.u8 0)]).flatten=ay (List.replicate n 0):=by
 induction n with
 |zero=>rfl
 |succ n ih=>simp[List.replicate_succ,ay,u8]at ih⊢
theorem jy (n i x:Nat) (h:i≤n):(List.replicate (n-i) (0:UInt8)++be i x).length=n:=by simp[a5];omega
theorem N2 (a b:Bytes):aA Tryz.prog 95 [.s a, .s b] (.tup [.s (rX a b).1,E (rX a b).2]):=by
 have hmax:(if(b.length:Int)>(a.length:Int)then(b.length:Int)else(a.length:Int))=((max a.length b.length:Nat):Int):=by
  split<;>omega
 by_cases hv:aa a=true∧aa b=true
 case neg=>
  refine eW Tryz.call95 Tryz.func95 ?_;repeat' first|simp only[go_sem,seval]|refine cP (aG _) ?_|refine sB ?_|(first|apply pX|apply bX)<;>intro hc|refine⟨oD,?_⟩|exact oD|fail
  all_goals simp_all[rX]
 obtain⟨hva,hvb⟩:=hv;have la:=bw hva;have lb:=bw hvb;obtain⟨n,hn⟩: ∃n,n=max a.length b.length+1:=⟨_,rfl⟩;have hn2:((max a.length b.length:Nat):Int)+1=(n:Int):=by omega
 refine eW Tryz.call95 Tryz.func95 ?_;repeat' first|simp only[go_sem,seval,hmax,hn2,iO]|refine cP (aG _) ?_|refine sB ?_|(first|apply pX|apply bX)<;>intro hc|refine⟨oD,?_⟩|exact oD|fail
 refine ai (α:=Nat) (fun i=>n-i) (fun i=>⟨[(0, .v (.s a)),(1, .v (.s b)),(6, .v (.i .i64 n)),(7, .rs 1018 0 0 n 1),(8, .v (.i .i64 (carry (num a) (num b) (256^i)))),(26, .v (.i .i64 n)),(27, .v (.i .i64 i))],[(1018,⟨0,ay (List.replicate (n-i) 0++be i (num a+num b)),false,none⟩)],1023⟩) (fun i=>i≤n) 0 (fun _=>Nat.le_refl _) (Nat.zero_le _) ?_ ?_
 ·(refine AS.Le.of (by first|decide|omega) ?_ ?_<;>simp[bz,bA,aD,ak,AV.bd,AV.bd.bdL,u8,af,ah,aj])
  ·simp[carry,Nat.mod_one]
  ·simp[be]
 ·intro i hi R hR;have hl:=jy n i (num a+num b) hi;have hp:=eP i;have hc1:=xr (num a) (num b) hp
  by_cases hlt:i<n
  ·repeat' first|simp only[go_sem,seval,hl]|(refine b9 (gG a i (by omega)) rfl ?_)|(refine b9 (gG b i (by omega)) rfl ?_)|refine sB ?_|(first|apply pX|apply bX)<;>intro hc|refine⟨oD,?_⟩|exact oD|fail
   refine hR (i+1) (by omega) (by omega) _ ?_
   have e2:((n:Int)-1-i).toNat=n-1-i:=by omega
   have e0:((carry (num a) (num b) (256^i):Nat):Int)+(((num a/256^i%256:Nat):Int)+((num b/256^i%256:Nat):Int))=((carry (num a) (num b) (256^i)+(num a/256^i%256+num b/256^i%256):Nat):Int):=by omega
   rw[e0,e2,mn (by omega) ((fT _).trans (by rw[qj _ _ hp])),dU hlt,show(256:Int)=((256:Nat):Int)from rfl,vQ,qI _ _ hp,←Nat.pow_succ]
   (refine AS.Le.of (by first|decide|omega) ?_ ?_<;>simp[bz,bA,aD,ak,AV.bd,AV.bd.bdL,u8,af,ah,aj]);rfl
  ·obtain rfl:i=n:=by omega
   have:=fM (be i (num a+num b));have hl:(be i (num a+num b)).length=i:=a5 _ _;repeat' first|simp only[go_sem,seval,hl,Nat.sub_self,List.replicate_zero]|(refine dQ this rfl rfl hl.symm ?_)|refine cP (kS _) ?_|refine sB ?_|(first|apply pX|apply bX)<;>intro hc|refine⟨oD,?_⟩|exact oD|fail
   have h1:num a+num b<256^i:=by
    have g1:=aZ a;have g2:=aZ b;have p1:256^a.length≤256^(i-1):=Nat.pow_le_pow_right (by decide) (by omega)
    have p2:256^b.length≤256^(i-1):=Nat.pow_le_pow_right (by decide) (by omega)
    have p3:256^i=256^(i-1)*256:=by rw[←Nat.pow_succ];congr 1;omega
    omega
   rw[fw h1];simp only[kx,rX,hva,hvb,Bool.and_self,if_true]
   split<;>simp
theorem JU (a b:Bytes) (ha:a.length≤128) (hb:b.length≤128) (h:num b≤num a):aA Tryz.prog 146 [.s a, .s b] (.s (aI (num a-num b))):=by
 obtain⟨n,hn⟩: ∃n,n=a.length:=⟨_,rfl⟩;refine eW Tryz.call146 Tryz.func146 ?_;simp only[go_sem,seval,←hn];repeat' first|simp only[go_sem,seval,←hn,iO]|refine sB ?_|(first|apply pX|apply bX)<;>intro hc|refine⟨oD,?_⟩|exact oD|fail
 refine ai (α:=Nat) (fun i=>n-i) (fun i=>⟨[(0, .v (.s a)),(1, .v (.s b)),(5, .v (.i .i64 n)),(6, .rs 1005 0 0 n 1),(7, .v (.i .i64 (borrow (num a) (num b) (256^i)))),(14, .v (.i .i64 n)),(15, .v (.i .i64 i))],[(1005,⟨0,ay (List.replicate (n-i) 0++be i (num a-num b)),false,none⟩)],1010⟩) (fun i=>i≤n) 0 (fun _=>Nat.le_refl _) (Nat.zero_le _) ?_ ?_
 ·(refine AS.Le.of (by first|decide|omega) ?_ ?_<;>simp[bz,bA,aD,ak,AV.bd,AV.bd.bdL,u8,af,ah,aj])
  ·simp[borrow,Nat.mod_one]
  ·simp[be]
 ·intro i hi R hR;have hl:=jy n i (num a-num b) hi;have hp:=eP i;have hc1:=tj (num a) (num b) (256^i);have hb1:=oC (num a) (num b) hp;have hb2:=oE (num a) (num b) hp h;have e2:((n:Int)-1-i).toNat=n-1-i:=by omega
  by_cases hlt:i<n
  ·repeat' first|simp only[go_sem,seval,hl]|(refine b9 (gG a i (by omega)) rfl ?_)|(refine b9 (gG b i (by omega)) rfl ?_)|refine sB ?_|(first|apply pX|apply bX)<;>intro hc|refine⟨oD,?_⟩|exact oD|fail
   ·refine hR (i+1) (by omega) (by omega) _ ?_
    rw[e2,mn (c:=UInt8.ofNat ((num a-num b)/256^i)) (by omega) (by rw[NH,UInt8.toNat_ofNat',←hb2 _ rfl];omega),dU hlt]
    (refine AS.Le.of (by first|decide|omega) ?_ ?_<;>simp[bz,bA,aD,ak,AV.bd,AV.bd.bdL,u8,af,ah,aj])
    ·rw[Nat.pow_succ,hb1,if_pos hc];rfl
    ·rfl
   ·refine hR (i+1) (by omega) (by omega) _ ?_
    rw[e2,mn (c:=UInt8.ofNat ((num a-num b)/256^i)) (by omega) (by rw[NH,UInt8.toNat_ofNat',←hb2 _ rfl]),dU hlt]
    (refine AS.Le.of (by first|decide|omega) ?_ ?_<;>simp[bz,bA,aD,ak,AV.bd,AV.bd.bdL,u8,af,ah,aj])
    ·rw[Nat.pow_succ,hb1,if_neg hc];rfl
    ·rfl
  ·obtain rfl:i=n:=by omega
   have:=fM (be i (num a-num b));have hl:(be i (num a-num b)).length=i:=a5 _ _;repeat' first|simp only[go_sem,seval,hl,Nat.sub_self,List.replicate_zero]|(refine dQ this rfl rfl hl.symm ?_)|refine sB ?_|(first|apply pX|apply bX)<;>intro hc|refine⟨oD,?_⟩|exact oD|fail
   have h1:num a-num b<256^i:=by have:=aZ a;rw[hn];omega
   rw[fw h1]
def nK (a b:Bytes):Bytes×Int:=if aa a&&aa b then(if num b≤num a then(aI (num a-num b),0)else([],2))else([],3)
theorem dL {a b:Nat}:aO a b<0↔a<b:=by unfold aO;split<;>(try split)<;>omega
theorem FZ (a b:Bytes):aA Tryz.prog 94 [.s a, .s b] (.tup [.s (nK a b).1,E (nK a b).2]):=by
 by_cases hv:aa a=true∧aa b=true
 case neg=>
  refine eW Tryz.call94 Tryz.func94 ?_;repeat' first|simp only[go_sem,seval]|refine cP (aG _) ?_|refine sB ?_|(first|apply pX|apply bX)<;>intro hc|refine⟨oD,?_⟩|exact oD|fail
  all_goals simp_all[nK]
 obtain⟨hva,hvb⟩:=hv;refine eW Tryz.call94 Tryz.func94 ?_;repeat' first|simp only[go_sem,seval]|refine cP (aG _) ?_|refine cP (jB (aS hva) (aS hvb)) ?_|(refine b9 (JU _ _ (bw hva) (bw hvb) (by rw[dL]at hc;omega)) rfl ?_)|refine sB ?_|(first|apply pX|apply bX)<;>intro hc|refine⟨oD,?_⟩|exact oD|fail
 ·rw[dL]at hc;simp[nK,hva,hvb,show¬num b≤num a by omega]
 ·rw[dL]at hc;simp[nK,hva,hvb,show num b≤num a by omega]
end Go.Proofs.YtmobkhegihemeaaGreatDoor
namespace Go.Proofs.YtmobkhegihemeaaGreatDoor
open Go Go.Dom
set_option maxRecDepth 100000
set_option maxHeartbeats 4000000
theorem Mm {l:List Nat} {i:Nat} (h:i<l.length):(l.map fun n:Nat=>PV.i .u8 n).getD i .fn0= .i .u8 (l.getD i 0:Nat):=by
 simp[List.getD_eq_getElem?_getD,h]
theorem kW (x:Nat) (h0:x≠0) (h:x<18446744073709551616):aA Tryz.prog 132 [.i .u64 x] (E (Lib.ctz 64 x:Nat)):=by
 obtain⟨g1,g2⟩:=Lib.lowest_bit 64 x h0 h;obtain⟨g3,g4⟩:=Lib.deBruijn64_at _ g2;obtain⟨k,hk⟩: ∃k,k=Lib.ctz 64 x:=⟨_,rfl⟩;rw[←hk]at g1 g2 g3 g4⊢;obtain⟨p,hp⟩: ∃p,p=2^k:=⟨_,rfl⟩;rw[←hp]at g1 g3 g4;obtain⟨i,hi⟩: ∃i,i=p*285870213051353865%18446744073709551616/288230376151711744:=⟨_,rfl⟩;rw[←hi]at g3 g4;have e1: ∀ _:True,IntKind.u64.wrap (0-(x:Int))=((18446744073709551616-x:Nat):Int):=fun _=>by rw[B8];omega
 have e2: ∀ _:True,ia .u64 (x:Int) ((18446744073709551616-x:Nat):Int)=((p:Nat):Int):=fun _=>by
  rw[ET .u64 rfl h (by show 18446744073709551616-x<18446744073709551616;omega)];exact congrArg _ g1
 have e3: ∀ _:True,p*285870213051353865%18446744073709551616/288230376151711744=i:=fun _=>hi.symm
 have e4:=Mm (l:=Lib.deBruijn64tab) (i:=i) (by exact g3)
 rw[g4]at e4;have e5: ∀ _:True,([(.i .u8 0),(.i .u8 1),(.i .u8 56),(.i .u8 2),(.i .u8 57),(.i .u8 49),(.i .u8 28),(.i .u8 3),(.i .u8 61),(.i .u8 58),(.i .u8 42),(.i .u8 50),(.i .u8 38),(.i .u8 29),(.i .u8 17),(.i .u8 4),(.i .u8 62),(.i .u8 47),(.i .u8 59),(.i .u8 36),(.i .u8 45),(.i .u8 43),(.i .u8 51),(.i .u8 22),(.i .u8 53),(.i .u8 39),(.i .u8 33),(.i .u8 30),(.i .u8 24),(.i .u8 18),(.i .u8 12),(.i .u8 5),(.i .u8 63),(.i .u8 55),(.i .u8 48),(.i .u8 27),(.i .u8 60),(.i .u8 41),(.i .u8 37),(.i .u8 16),(.i .u8 46),(.i .u8 35),(.i .u8 44),(.i .u8 21),(.i .u8 52),(.i .u8 32),(.i .u8 23),(.i .u8 11),(.i .u8 54),(.i .u8 26),(.i .u8 40),(.i .u8 15),(.i .u8 34),(.i .u8 20),(.i .u8 31),(.i .u8 10),(.i .u8 25),(.i .u8 14),(.i .u8 19),(.i .u8 9),(.i .u8 13),(.i .u8 8),(.i .u8 7),(.i .u8 6)]:List PV).getD i .fn0= .i .u8 (k:Nat):=fun _=>e4
 clear g1 g4 hi hp e4;refine eW Tryz.call132 Tryz.func132 ?_;simp only[go_sem,seval,e1 trivial,e2 trivial,mE,e3 trivial,e5 trivial];repeat' first|simp only[go_sem,seval,e1 trivial,e2 trivial,mE,e3 trivial,e5 trivial]|refine sB ?_|(first|apply pX|apply bX)<;>intro hc|refine⟨oD,?_⟩|exact oD|fail
 all_goals skip
theorem aN (a:Bytes):aA Tryz.prog 34 [.s a] (.b (aa a)):=by
 rw[sM];refine eW Tryz.call34 Tryz.func34 ?_;repeat' first|simp only[go_sem,seval]|refine sB ?_|(first|apply pX|apply bX)<;>intro hc|refine⟨oD,?_⟩|exact oD|fail
 all_goals simp_all
 all_goals first|omega|(cases a<;>simp_all)
theorem zU (l:Bytes) {i:Nat} (hi:i<l.length) (h:l.getD i 0=0):dS (l.drop i)=dS (l.drop (i+1)):=by
 rw[List.drop_eq_getElem_cons hi,dS,if_pos (by rw[←h,List.getD_eq_getElem?_getD,List.getElem?_eq_getElem hi];rfl)]
theorem yP (l:Bytes) {i:Nat} (hi:i<l.length) (h:l.getD i 0≠0):dS (l.drop i)=l.drop i:=by
 rw[List.drop_eq_getElem_cons hi,dS,if_neg (by rw[List.getD_eq_getElem?_getD,List.getElem?_eq_getElem hi]at h;exact h)]
theorem j4 (l:Bytes) (hl:l.length<4611686018427387904):aA Tryz.prog 88 [.sl (l.map u8)] (.s (dS l)):=by
 refine eW Tryz.call88 Tryz.func88 ?_;simp only[go_sem,seval];refine ai (α:=Nat) (fun i=>l.length-i) (fun i=>⟨[(0, .v (.sl (l.map u8))),(3, .v (.i .i64 i))],[],_⟩) (fun i=>i≤l.length∧dS (l.drop i)=dS l) 0 (fun _=>Nat.le_refl _) ⟨Nat.zero_le _,rfl⟩ ?_ ?_
 ·exact lE
 ·rintro i ⟨hi,hx⟩ R hR
  by_cases hlt:i<l.length
  ·have e1:=Iz hlt
   by_cases h0:l.getD i 0=0
   ·have e2: ∀ _:True,(((l.getD i 0).toNat:Int)==0)=true:=fun _=>by rw[h0];rfl
    repeat' first|simp only[go_sem,seval,e1,e2 trivial]|refine sB ?_|(first|apply pX|apply bX)<;>intro hc|refine⟨oD,?_⟩|exact oD|fail
    refine hR (i+1) ⟨by omega,by rw[←hx,zU l hlt h0]⟩ (by omega) _ ?_
    exact lE
   ·have e2: ∀ _:True,(((l.getD i 0).toNat:Int)==0)=false:=fun _=>by
     rw[beq_eq_false_iff_ne];intro e;exact h0 (Sh e)
    rw[←hx,yP l hlt h0];repeat' first|simp only[go_sem,seval,e1,e2 trivial]|refine sB ?_|(first|apply pX|apply bX)<;>intro hc|refine⟨oD,?_⟩|exact oD|fail
    refine⟨⟨by omega,fun x hx=>qn hx⟩,fun y hy=>np (List.mem_of_mem_drop hy),?_⟩
    rw[←List.map_drop,rJ]
  ·obtain rfl:i=l.length:=by omega
   rw[←hx];repeat' first|simp only[go_sem,seval]|refine sB ?_|(first|apply pX|apply bX)<;>intro hc|refine⟨oD,?_⟩|exact oD|fail
   refine⟨⟨by omega,fun x hx=>qn hx⟩,fun y hy=>np (List.mem_of_mem_drop hy),?_⟩
   rw[←List.map_drop,rJ,List.drop_length];rfl
theorem iR (n:Nat) (hn:n<18446744073709551616):aA Tryz.prog 39 [.i .u64 n] (.s (aI n)):=by
 refine eW Tryz.call39 Tryz.func39 ?_;repeat' first|simp only[go_sem,seval]|refine sB ?_|(first|apply pX|apply bX)<;>intro hc|refine⟨oD,?_⟩|exact oD|fail
 refine ai (α:=Nat) (fun i=>8-i) (fun i=>⟨[(0, .v (.i .u64 (n/256^i:Nat))),(3, .rs 1001 0 0 8 1),(4, .v (.i .i64 (7-(i:Int))))],[(1001,⟨0,ay (List.replicate (8-i) 0++be i n),false,none⟩)],_⟩) (fun i=>i≤8) 0 (fun _=>Nat.le_refl _) (Nat.zero_le _) ?_ ?_
 ·(refine AS.Le.of (by first|decide|omega) ?_ ?_<;>simp[bz,bA,aD,ak,AV.bd,AV.bd.bdL,u8,af,ah,aj])
  all_goals rfl
 ·intro i hi R hR;have hl:(List.replicate (8-i) (0:UInt8)++be i n).length=8:=by simp[a5];omega
  have hle:n/256^i≤n:=Nat.div_le_self _ _
  by_cases hlt:i<8
  ·have e2: ∀ _:True,((7:Int)-i).toNat=8-1-i:=fun _=>by omega
   have e3: ∀ _:True,n/256^i/256=n/256^(i+1):=fun _=>by rw[Nat.div_div_eq_div_mul,←Nat.pow_succ]
   have hle2:n/256^(i+1)≤n:=Nat.div_le_self _ _;have e4: ∀ _:True,IntKind.u64.wrap ((n/256^(i+1):Nat):Int)=((n/256^(i+1):Nat):Int):=fun _=>by
    generalize n/256^(i+1)=z at hle2⊢;exact IntWalk.u64_in _ (by omega)
   repeat' first|simp only[go_sem,seval,hl,e3 trivial,e4 trivial]|refine sB ?_|(first|apply pX|apply bX)<;>intro hc|refine⟨oD,?_⟩|exact oD|fail
   refine hR (i+1) (by omega) (by omega) _ ?_
   rw[e2 trivial,mn (c:=UInt8.ofNat (n/256^i)) (by omega) (by rw[fT,UInt8.toNat_ofNat',UInt8.toNat_ofNat',Nat.mod_mod]),dU hlt]
   (refine AS.Le.of (by first|decide|omega) ?_ ?_<;>simp[bz,bA,aD,ak,AV.bd,AV.bd.bdL,u8,af,ah,aj])
   all_goals first|omega|rfl|skip
  ·obtain rfl:i=8:=by omega
   have:=j4 (be 8 n) (by rw[a5];decide)
   have hl:(be 8 n).length=8:=a5 8 n;repeat' first|simp only[go_sem,seval,hl]|(refine dQ this rfl rfl hl.symm ?_)|refine sB ?_|(first|apply pX|apply bX)<;>intro hc|refine⟨oD,?_⟩|exact oD|fail
   rw[fw (by omega)]
theorem my (a:Bytes) (hl:a.length≤8):aA Tryz.prog 53 [.s a] (.i .u64 (num a)):=by
 refine eW Tryz.call53 Tryz.func53 ?_;repeat' first|simp only[go_sem,seval]|refine sB ?_|(first|apply pX|apply bX)<;>intro hc|refine⟨oD,?_⟩|exact oD|fail
 refine ai (α:=Nat) (fun i=>a.length-i) (fun i=>⟨[(0, .v (.s a)),(3, .v (.i .u64 (num (a.take i)))),(4, .v (.i .i64 i))],[],_⟩) (fun i=>i≤a.length) 0 (fun _=>Nat.le_refl _) (Nat.zero_le _) ?_ ?_
 ·(refine AS.Le.of (by first|decide|omega) ?_ ?_<;>simp[bz,bA,aD,ak,AV.bd,AV.bd.bdL,u8,af,ah,aj])
  all_goals rfl
 ·intro i hi R hR
  by_cases hlt:i<a.length
  ·have h1:=iW hlt;have h2:=aZ (a.take (i+1));have h3:(256:Nat)^(a.take (i+1)).length≤256^8:=Nat.pow_le_pow_right (by decide) (by simp;omega)
   repeat' first|simp only[go_sem,seval]|refine sB ?_|(first|apply pX|apply bX)<;>intro hc|refine⟨oD,?_⟩|exact oD|fail
   refine hR (i+1) (by omega) (by omega) _ ?_
   rw[h1]
   (refine AS.Le.of (by first|decide|omega) ?_ ?_<;>simp[bz,bA,aD,ak,AV.bd,AV.bd.bdL,u8,af,ah,aj])
   all_goals first|omega|rfl|skip
  ·obtain rfl:i=a.length:=by omega
   rw[List.take_length];repeat' first|simp only[go_sem,seval]|refine sB ?_|(first|apply pX|apply bX)<;>intro hc|refine⟨oD,?_⟩|exact oD|fail
theorem gP {a b:Bytes} (ha:Canon a) (hb:Canon b) (la:a.length<4611686018427387904) (lb:b.length<4611686018427387904):aA Tryz.prog 87 [.s a, .s b] (E (aO (num a) (num b))):=by
 by_cases h1:a.length<b.length
 ·have:=ec (a:=a) hb h1;have e:aO (num a) (num b)= -1:=by simp[aO,this]
  rw[e];refine eW Tryz.call87 Tryz.func87 ?_;repeat' first|simp only[go_sem,seval]|refine sB ?_|(first|apply pX|apply bX)<;>intro hc|refine⟨oD,?_⟩|exact oD|fail
 by_cases h2:b.length<a.length
 ·have:=ec (a:=b) ha h2;have e:aO (num a) (num b)=1:=by unfold aO;rw[if_neg (by omega),if_pos this]
  rw[e];refine eW Tryz.call87 Tryz.func87 ?_;repeat' first|simp only[go_sem,seval]|refine sB ?_|(first|apply pX|apply bX)<;>intro hc|refine⟨oD,?_⟩|exact oD|fail
 have hl:a.length=b.length:=by omega
 rw[←fC hl];refine eW Tryz.call87 Tryz.func87 ?_;repeat' first|simp only[go_sem,seval]|refine sB ?_|(first|apply pX|apply bX)<;>intro hc|refine⟨oD,?_⟩|exact oD|fail
 refine ai (α:=Nat) (fun i=>a.length-i) (fun i=>⟨[(0, .v (.s a)),(1, .v (.s b)),(5, .v (.i .i64 i))],[],_⟩) (fun i=>i≤a.length∧Lib.compareBytes (a.drop i) (b.drop i)=Lib.compareBytes a b) 0 (fun _=>Nat.le_refl _) ⟨Nat.zero_le _,rfl⟩ ?_ ?_
 ·exact lE
 ·rintro i ⟨hi,hx⟩ R hR
  by_cases hlt:i<a.length
  ·have d1:a.drop i=a.getD i 0::a.drop (i+1):=by rw[List.drop_eq_getElem_cons hlt,List.getD_eq_getElem?_getD,List.getElem?_eq_getElem hlt];rfl
   have hltb:i<b.length:=by omega
   have d2:b.drop i=b.getD i 0::b.drop (i+1):=by rw[List.drop_eq_getElem_cons hltb,List.getD_eq_getElem?_getD,List.getElem?_eq_getElem hltb];rfl
   have hgo:=hR (i+1);rw[←hx]at hgo⊢;rw[d1,d2]at hgo⊢;simp only[Lib.compareBytes]at hgo⊢;clear d1 d2 hx hR;have e1:a.getD i 0<b.getD i 0↔(a.getD i 0).toNat<(b.getD i 0).toNat:=UInt8.lt_iff_toNat_lt;have e2:b.getD i 0<a.getD i 0↔(b.getD i 0).toNat<(a.getD i 0).toNat:=UInt8.lt_iff_toNat_lt;simp only[e1,e2]at hgo⊢;obtain⟨x,hx⟩: ∃x,x=a.getD i 0:=⟨_,rfl⟩;obtain⟨y,hy⟩: ∃y,y=b.getD i 0:=⟨_,rfl⟩;rw[←hx,←hy]at hgo⊢;clear e1 e2;repeat' first|simp only[go_sem,seval,←hx,←hy]|refine sB ?_|(first|apply pX|apply bX)<;>intro hc|refine⟨oD,?_⟩|exact oD|fail
   ·refine hgo ⟨by omega,?_⟩ (by omega) _ ?_
    ·rw[if_neg (by omega),if_neg (by omega)]
    ·exact lE
   ·rw[if_pos (by omega)]
   ·rw[if_neg (by omega),if_pos (by omega)]
  ·obtain rfl:i=a.length:=by omega
   repeat' first|simp only[go_sem,seval]|refine sB ?_|(first|apply pX|apply bX)<;>intro hc|refine⟨oD,?_⟩|exact oD|fail
   rw[←hx,List.drop_length,hl,List.drop_length];rfl
theorem I6 (a b:Bytes):aA Tryz.prog 38 [.s a, .s b] (E (if aa a&&aa b then aO (num a) (num b)else 0)):=by
 by_cases h:aa a=true∧aa b=true
 case neg=>
  refine eW Tryz.call38 Tryz.func38 ?_;repeat' first|simp only[go_sem,seval]|refine cP (aN _) ?_|refine sB ?_|(first|apply pX|apply bX)<;>intro hc|refine⟨oD,?_⟩|exact oD|fail
  all_goals simp_all
 have la:=bw h.1;have lb:=bw h.2;have ho:=gP (aS h.1) (aS h.2) (by omega) (by omega)
 refine eW Tryz.call38 Tryz.func38 ?_;repeat' first|simp only[go_sem,seval]|refine cP (aN _) ?_|refine cP ho ?_|refine sB ?_|(first|apply pX|apply bX)<;>intro hc|refine⟨oD,?_⟩|exact oD|fail
 all_goals simp_all
theorem lk (a:Bytes) (i:Nat) (ha:a.length<4611686018427387904):aA Tryz.prog 153 [.s a,E i] (E ((num a/256^i%256:Nat):Int)):=by
 refine eW Tryz.call153 Tryz.func153 ?_;repeat' first|simp only[go_sem,seval]|refine sB ?_|(first|apply pX|apply bX)<;>intro hc|refine⟨oD,?_⟩|exact oD|fail
 ·rw[kU a (by omega)];rfl
 ·have h:=nu a (i:=i) (by omega)
  rw[←h,show((a.length:Int)-1-(i:Int)).toNat=a.length-1-i by omega]
  have:=(a.getD (a.length-1-i) 0).toNat_lt;rw[IntWalk.i64_in _ (by omega)]
theorem wj (a b:Bytes) (la:a.length<1099511627776) (lb:b.length<1099511627776):aA Tryz.prog 151 [.s a, .s b] (.s (aI (num a+num b))):=by
 have hmax:(if(b.length:Int)>(a.length:Int)then(b.length:Int)else(a.length:Int))=((max a.length b.length:Nat):Int):=by
  split<;>omega
 obtain⟨n,hn⟩: ∃n,n=max a.length b.length+1:=⟨_,rfl⟩;have hn2:((max a.length b.length:Nat):Int)+1=(n:Int):=by omega
 refine eW Tryz.call151 Tryz.func151 ?_;repeat' first|simp only[go_sem,seval,hmax,hn2,iO]|refine sB ?_|(first|apply pX|apply bX)<;>intro hc|refine⟨oD,?_⟩|exact oD|fail
 refine ai (α:=Nat) (fun i=>n-i) (fun i=>⟨[(0, .v (.s a)),(1, .v (.s b)),(5, .v (.i .i64 n)),(6, .rs 1009 0 0 n 1),(7, .v (.i .i64 (carry (num a) (num b) (256^i)))),(8, .v (.i .i64 i))],[(1009,⟨0,ay (List.replicate (n-i) 0++be i (num a+num b)),false,none⟩)],_⟩) (fun i=>i≤n) 0 (fun _=>Nat.le_refl _) (Nat.zero_le _) ?_ ?_
 ·(refine AS.Le.of (by first|decide|omega) ?_ ?_<;>simp[bz,bA,aD,ak,AV.bd,AV.bd.bdL,u8,af,ah,aj])
  ·simp[carry,Nat.mod_one]
  ·simp[be]
 ·intro i hi R hR;have hl:=jy n i (num a+num b) hi;have hp:=eP i;have hc1:=xr (num a) (num b) hp
  by_cases hlt:i<n
  ·have e0: ∀ _:True,((num a/256^i%256:Nat):Int)+((num b/256^i%256:Nat):Int)+((carry (num a) (num b) (256^i):Nat):Int)=((carry (num a) (num b) (256^i)+(num a/256^i%256+num b/256^i%256):Nat):Int):=fun _=>by omega
   repeat' first|simp only[go_sem,seval,hl,e0 trivial]|(refine b9 (lk a i (by omega)) rfl ?_)|(refine b9 (lk b i (by omega)) rfl ?_)|refine sB ?_|(first|apply pX|apply bX)<;>intro hc|refine⟨oD,?_⟩|exact oD|fail
   refine hR (i+1) (by omega) (by omega) _ ?_
   have e2:((n:Int)-1-i).toNat=n-1-i:=by omega
   rw[e2,mn (c:=UInt8.ofNat ((num a+num b)/256^i)) (by omega) (by rw[fT,←qj _ _ hp,UInt8.toNat_ofNat',UInt8.toNat_ofNat',Nat.mod_mod]),dU hlt,qI _ _ hp,←Nat.pow_succ]
   (refine AS.Le.of (by first|decide|omega) ?_ ?_<;>simp[bz,bA,aD,ak,AV.bd,AV.bd.bdL,u8,af,ah,aj])
   all_goals first|omega|rfl|skip
  ·obtain rfl:i=n:=by omega
   have:=j4 (be i (num a+num b)) (by rw[a5];omega)
   have hl:(be i (num a+num b)).length=i:=a5 _ _;repeat' first|simp only[go_sem,seval,hl,Nat.sub_self,List.replicate_zero]|(refine dQ this rfl rfl hl.symm ?_)|refine sB ?_|(first|apply pX|apply bX)<;>intro hc|refine⟨oD,?_⟩|exact oD|fail
   have h1:num a+num b<256^i:=by
    have g1:=aZ a;have g2:=aZ b;have p1:256^a.length≤256^(i-1):=Nat.pow_le_pow_right (by decide) (by omega)
    have p2:256^b.length≤256^(i-1):=Nat.pow_le_pow_right (by decide) (by omega)
    have p3:256^i=256^(i-1)*256:=by rw[←Nat.pow_succ];congr 1;omega
    omega
   rw[fw h1]
theorem nC (a b:Bytes) (la:a.length<1099511627776) (lb:b.length<1099511627776) (h:num b≤num a):aA Tryz.prog 101 [.s a, .s b] (.s (aI (num a-num b))):=by
 obtain⟨n,hn⟩: ∃n,n=a.length:=⟨_,rfl⟩;refine eW Tryz.call101 Tryz.func101 ?_;simp only[go_sem,seval,←hn];repeat' first|simp only[go_sem,seval,←hn,iO]|refine sB ?_|(first|apply pX|apply bX)<;>intro hc|refine⟨oD,?_⟩|exact oD|fail
 refine ai (α:=Nat) (fun i=>n-i) (fun i=>⟨[(0, .v (.s a)),(1, .v (.s b)),(5, .v (.i .i64 n)),(6, .rs 1005 0 0 n 1),(7, .v (.i .i64 (borrow (num a) (num b) (256^i)))),(8, .v (.i .i64 i))],[(1005,⟨0,ay (List.replicate (n-i) 0++be i (num a-num b)),false,none⟩)],_⟩) (fun i=>i≤n) 0 (fun _=>Nat.le_refl _) (Nat.zero_le _) ?_ ?_
 ·(refine AS.Le.of (by first|decide|omega) ?_ ?_<;>simp[bz,bA,aD,ak,AV.bd,AV.bd.bdL,u8,af,ah,aj])
  ·simp[borrow,Nat.mod_one]
  ·simp[be]
 ·intro i hi R hR;have hl:=jy n i (num a-num b) hi;have hp:=eP i;have hc1:=tj (num a) (num b) (256^i);have hb1:=oC (num a) (num b) hp;have hb2:=oE (num a) (num b) hp h;have e2:((n:Int)-1-i).toNat=n-1-i:=by omega
  by_cases hlt:i<n
  ·repeat' first|simp only[go_sem,seval,hl]|(refine b9 (lk a i (by omega)) rfl ?_)|(refine b9 (lk b i (by omega)) rfl ?_)|refine sB ?_|(first|apply pX|apply bX)<;>intro hc|refine⟨oD,?_⟩|exact oD|fail
   ·refine hR (i+1) (by omega) (by omega) _ ?_
    rw[e2,mn (c:=UInt8.ofNat ((num a-num b)/256^i)) (by omega) (by rw[NH,UInt8.toNat_ofNat',←hb2 _ rfl];omega),dU hlt]
    (refine AS.Le.of (by first|decide|omega) ?_ ?_<;>simp[bz,bA,aD,ak,AV.bd,AV.bd.bdL,u8,af,ah,aj])
    ·rw[Nat.pow_succ,hb1,if_pos hc];rfl
    ·rfl
   ·refine hR (i+1) (by omega) (by omega) _ ?_
    rw[e2,mn (c:=UInt8.ofNat ((num a-num b)/256^i)) (by omega) (by rw[NH,UInt8.toNat_ofNat',←hb2 _ rfl]),dU hlt]
    (refine AS.Le.of (by first|decide|omega) ?_ ?_<;>simp[bz,bA,aD,ak,AV.bd,AV.bd.bdL,u8,af,ah,aj])
    ·rw[Nat.pow_succ,hb1,if_neg hc];rfl
    ·rfl
  ·obtain rfl:i=n:=by omega
   have:=j4 (be i (num a-num b)) (by rw[a5];omega)
   have hl:(be i (num a-num b)).length=i:=a5 _ _;repeat' first|simp only[go_sem,seval,hl,Nat.sub_self,List.replicate_zero]|(refine dQ this rfl rfl hl.symm ?_)|refine sB ?_|(first|apply pX|apply bX)<;>intro hc|refine⟨oD,?_⟩|exact oD|fail
   have h1:num a-num b<256^i:=by have:=aZ a;rw[hn];omega
   rw[fw h1]
end Go.Proofs.YtmobkhegihemeaaGreatDoor
