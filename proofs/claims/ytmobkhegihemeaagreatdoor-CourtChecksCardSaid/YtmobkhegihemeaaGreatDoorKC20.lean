/-
  Part of the proof, part KC20. Own work.
-/
import Derived.Test.YtmobkhegihemeaaGreatDoorKC19
set_option linter.all false
namespace Go.Proofs.YtmobkhegihemeaaGreatDoor
open Go Go.Dom
set_option maxRecDepth 100000
theorem jT (n:Nat) (hn:n<18446744073709551616):aD Tryz.prog 31 [.i .u64 n] (.s (aP n)):=by
 refine eW Tryz.call31 Tryz.func31 ?_;simp only[go_sem,seval];refine aj (α:=Nat) (fun i=>8-i) (fun i=>⟨[(0, .v (.i .u64 n)),(3, .p 1001 0 0),(5, .v (.i .i64 i))],[(1001,⟨0,aC (List.replicate (8-i) 0++be i n),false,some 138⟩)],1003⟩) (fun i=>i≤8) 0 (fun _=>au _) (aL _) ?_ ?_
 ·(refine AS.Le.of (by first|decide|omega) ?_ ?_<;>simp[cl,cj,aF,ar,AV.bd,AV.bd.bdL,u8,ah,ai,aq]);rfl
 ·intro i hi R hR;have hl:(List.replicate (8-i) (0:UInt8)++be i n).length=8:=by simp[b9];omega
  by_cases hlt:i<8
  ·repeat' first|simp only[go_sem,seval,hl]|refine sB ?_|(first|apply pX|apply bX)<;>intro hc|refine⟨oD,?_⟩|exact oD|fail
   refine hR (i+1) (by omega) (by omega) _ ?_
   have e1:(8*(i:Int)).toNat=8*i:=by omega
   have e2:((7:Int)-i).toNat=8-1-i:=by omega
   have e3:IntKind.u8.wrap ((n/2^(8*i):Nat):Int)=((UInt8.ofNat (n/256^i)).toNat:Int):=by
    rw[jO,jb]
   rw[e1,e2,if_pos (by omega),qc (by omega) e3,fX hlt]
   (refine AS.Le.of (by first|decide|omega) ?_ ?_<;>simp[cl,cj,aF,ar,AV.bd,AV.bd.bdL,u8,ah,ai,aq]);rfl
  ·obtain rfl:i=8:=by omega
   have:=ju (be 8 n);have hl:(be 8 n).length=8:=b9 8 n;repeat' first|simp only[go_sem,seval,hl]|(refine fT this rfl rfl hl.symm ?_)|refine sB ?_|(first|apply pX|apply bX)<;>intro hc|refine⟨oD,?_⟩|exact oD|fail
   rw[iR (by omega)]
def du:Nat:=256^128
theorem oz {n:Nat}:(aP n).length≤128↔n<du:=mT
def xM (a b:Bytes):Bytes×Int:=if aa a&&aa b then(if num a+num b<du then(aP (num a+num b),0)else([],5))else([],3)
theorem mn (n:Nat):(List.replicate n [AV.v (PV.i IntKind.u8 0)]).flatten=aC (List.replicate n 0):=by
 induction n with
 |zero=>rfl
 |succ n ih=>simp[List.replicate_succ,aC,u8]at ih⊢
theorem mX (n i x:Nat) (h:i≤n):(List.replicate (n-i) (0:UInt8)++be i x).length=n:=by simp[b9];omega
theorem PN (a b:Bytes):aD Tryz.prog 95 [.s a, .s b] (.tup [.s (xM a b).1,E (xM a b).2]):=by
 have hmax:(if(b.length:Int)>(a.length:Int)then(b.length:Int)else(a.length:Int))=((max a.length b.length:Nat):Int):=by
  split<;>omega
 by_cases hv:aa a=true∧aa b=true
 case neg=>
  refine eW Tryz.call95 Tryz.func95 ?_;repeat' first|simp only[go_sem,seval]|refine cP (aM _) ?_|refine sB ?_|(first|apply pX|apply bX)<;>intro hc|refine⟨oD,?_⟩|exact oD|fail
  all_goals simp_all[xM]
 obtain⟨hva,hvb⟩:=hv;have la:=cI hva;have lb:=cI hvb;obtain⟨n,hn⟩: ∃n,n=max a.length b.length+1:=⟨_,rfl⟩;have hn2:((max a.length b.length:Nat):Int)+1=(n:Int):=by omega
 refine eW Tryz.call95 Tryz.func95 ?_;repeat' first|simp only[go_sem,seval,hmax,hn2,mn]|refine cP (aM _) ?_|refine sB ?_|(first|apply pX|apply bX)<;>intro hc|refine⟨oD,?_⟩|exact oD|fail
 refine aj (α:=Nat) (fun i=>n-i) (fun i=>⟨[(0, .v (.s a)),(1, .v (.s b)),(6, .v (.i .i64 n)),(7, .rs 1018 0 0 n 1),(8, .v (.i .i64 (carry (num a) (num b) (256^i)))),(26, .v (.i .i64 n)),(27, .v (.i .i64 i))],[(1018,⟨0,aC (List.replicate (n-i) 0++be i (num a+num b)),false,none⟩)],1023⟩) (fun i=>i≤n) 0 (fun _=>au _) (aL _) ?_ ?_
 ·(refine AS.Le.of (by first|decide|omega) ?_ ?_<;>simp[cl,cj,aF,ar,AV.bd,AV.bd.bdL,u8,ah,ai,aq])
  ·simp[carry,kE]
  ·simp[be]
 ·intro i hi R hR;have hl:=mX n i (num a+num b) hi;have hp:=iq i;have hc1:=Bm (num a) (num b) hp
  by_cases hlt:i<n
  ·repeat' first|simp only[go_sem,seval,hl]|(refine dF (jX a i (by omega)) rfl ?_)|(refine dF (jX b i (by omega)) rfl ?_)|refine sB ?_|(first|apply pX|apply bX)<;>intro hc|refine⟨oD,?_⟩|exact oD|fail
   refine hR (i+1) (by omega) (by omega) _ ?_
   have e2:((n:Int)-1-i).toNat=n-1-i:=by omega
   have e0:((carry (num a) (num b) (256^i):Nat):Int)+(((num a/256^i%256:Nat):Int)+((num b/256^i%256:Nat):Int))=((carry (num a) (num b) (256^i)+(num a/256^i%256+num b/256^i%256):Nat):Int):=by omega
   rw[e0,e2,qc (by omega) ((jO _).trans (by rw[u7 _ _ hp])),fX hlt,show(256:Int)=((256:Nat):Int)from rfl,zt,u9 _ _ hp,←Nat.pow_succ]
   (refine AS.Le.of (by first|decide|omega) ?_ ?_<;>simp[cl,cj,aF,ar,AV.bd,AV.bd.bdL,u8,ah,ai,aq]);rfl
  ·obtain rfl:i=n:=by omega
   have:=ju (be i (num a+num b));have hl:(be i (num a+num b)).length=i:=b9 _ _;repeat' first|simp only[go_sem,seval,hl,fh,List.replicate_zero]|(refine fT this rfl rfl hl.symm ?_)|refine cP (pw _) ?_|refine sB ?_|(first|apply pX|apply bX)<;>intro hc|refine⟨oD,?_⟩|exact oD|fail
   have h1:num a+num b<256^i:=by
    have g1:=bV a;have g2:=bV b;have p1:256^a.length≤256^(i-1):=cQ (by decide) (by omega)
    have p2:256^b.length≤256^(i-1):=cQ (by decide) (by omega)
    have p3:256^i=256^(i-1)*256:=by rw[←Nat.pow_succ];congr 1;omega
    omega
   rw[iR h1];simp only[oz,xM,hva,hvb,dh,if_true]
   split<;>simp
theorem Nx (a b:Bytes) (ha:a.length≤128) (hb:b.length≤128) (h:num b≤num a):aD Tryz.prog 146 [.s a, .s b] (.s (aP (num a-num b))):=by
 obtain⟨n,hn⟩: ∃n,n=a.length:=⟨_,rfl⟩;refine eW Tryz.call146 Tryz.func146 ?_;simp only[go_sem,seval,←hn];repeat' first|simp only[go_sem,seval,←hn,mn]|refine sB ?_|(first|apply pX|apply bX)<;>intro hc|refine⟨oD,?_⟩|exact oD|fail
 refine aj (α:=Nat) (fun i=>n-i) (fun i=>⟨[(0, .v (.s a)),(1, .v (.s b)),(5, .v (.i .i64 n)),(6, .rs 1005 0 0 n 1),(7, .v (.i .i64 (borrow (num a) (num b) (256^i)))),(14, .v (.i .i64 n)),(15, .v (.i .i64 i))],[(1005,⟨0,aC (List.replicate (n-i) 0++be i (num a-num b)),false,none⟩)],1010⟩) (fun i=>i≤n) 0 (fun _=>au _) (aL _) ?_ ?_
 ·(refine AS.Le.of (by first|decide|omega) ?_ ?_<;>simp[cl,cj,aF,ar,AV.bd,AV.bd.bdL,u8,ah,ai,aq])
  ·simp[borrow,kE]
  ·simp[be]
 ·intro i hi R hR;have hl:=mX n i (num a-num b) hi;have hp:=iq i;have hc1:=yg (num a) (num b) (256^i);have hb1:=sR (num a) (num b) hp;have hb2:=sQ (num a) (num b) hp h;have e2:((n:Int)-1-i).toNat=n-1-i:=by omega
  by_cases hlt:i<n
  ·repeat' first|simp only[go_sem,seval,hl]|(refine dF (jX a i (by omega)) rfl ?_)|(refine dF (jX b i (by omega)) rfl ?_)|refine sB ?_|(first|apply pX|apply bX)<;>intro hc|refine⟨oD,?_⟩|exact oD|fail
   ·refine hR (i+1) (by omega) (by omega) _ ?_
    rw[e2,qc (c:=UInt8.ofNat ((num a-num b)/256^i)) (by omega) (by rw[SF,ga,←hb2 _ rfl];omega),fX hlt]
    (refine AS.Le.of (by first|decide|omega) ?_ ?_<;>simp[cl,cj,aF,ar,AV.bd,AV.bd.bdL,u8,ah,ai,aq])
    ·rw[Nat.pow_succ,hb1,if_pos hc];rfl
    ·rfl
   ·refine hR (i+1) (by omega) (by omega) _ ?_
    rw[e2,qc (c:=UInt8.ofNat ((num a-num b)/256^i)) (by omega) (by rw[SF,ga,←hb2 _ rfl]),fX hlt]
    (refine AS.Le.of (by first|decide|omega) ?_ ?_<;>simp[cl,cj,aF,ar,AV.bd,AV.bd.bdL,u8,ah,ai,aq])
    ·rw[Nat.pow_succ,hb1,if_neg hc];rfl
    ·rfl
  ·obtain rfl:i=n:=by omega
   have:=ju (be i (num a-num b));have hl:(be i (num a-num b)).length=i:=b9 _ _;repeat' first|simp only[go_sem,seval,hl,fh,List.replicate_zero]|(refine fT this rfl rfl hl.symm ?_)|refine sB ?_|(first|apply pX|apply bX)<;>intro hc|refine⟨oD,?_⟩|exact oD|fail
   have h1:num a-num b<256^i:=by have:=bV a;rw[hn];omega
   rw[iR h1]
def sK (a b:Bytes):Bytes×Int:=if aa a&&aa b then(if num b≤num a then(aP (num a-num b),0)else([],2))else([],3)
theorem fS {a b:Nat}:a6 a b<0↔a<b:=by unfold a6;split<;>(try split)<;>omega
theorem Ip (a b:Bytes):aD Tryz.prog 94 [.s a, .s b] (.tup [.s (sK a b).1,E (sK a b).2]):=by
 by_cases hv:aa a=true∧aa b=true
 case neg=>
  refine eW Tryz.call94 Tryz.func94 ?_;repeat' first|simp only[go_sem,seval]|refine cP (aM _) ?_|refine sB ?_|(first|apply pX|apply bX)<;>intro hc|refine⟨oD,?_⟩|exact oD|fail
  all_goals simp_all[sK]
 obtain⟨hva,hvb⟩:=hv;refine eW Tryz.call94 Tryz.func94 ?_;repeat' first|simp only[go_sem,seval]|refine cP (aM _) ?_|refine cP (mV (bE hva) (bE hvb)) ?_|(refine dF (Nx _ _ (cI hva) (cI hvb) (by rw[fS]at hc;omega)) rfl ?_)|refine sB ?_|(first|apply pX|apply bX)<;>intro hc|refine⟨oD,?_⟩|exact oD|fail
 ·rw[fS]at hc;simp[sK,hva,hvb,show¬num b≤num a by omega]
 ·rw[fS]at hc;simp[sK,hva,hvb,show num b≤num a by omega]
end Go.Proofs.YtmobkhegihemeaaGreatDoor
namespace Go.Proofs.YtmobkhegihemeaaGreatDoor
open Go Go.Dom
set_option maxRecDepth 100000
set_option maxHeartbeats 4000000
theorem Sz {l:List Nat} {i:Nat} (h:i<l.length):(l.map fun n:Nat=>PV.i .u8 n).getD i .fn0= .i .u8 (l.getD i 0:Nat):=by
 simp[aX,h]
theorem pd (x:Nat) (h0:x≠0) (h:x<18446744073709551616):aD Tryz.prog 132 [.i .u64 x] (E (Lib.ctz 64 x:Nat)):=by
 obtain⟨g1,g2⟩:=Lib.lowest_bit 64 x h0 h;obtain⟨g3,g4⟩:=Lib.deBruijn64_at _ g2;obtain⟨k,hk⟩: ∃k,k=Lib.ctz 64 x:=⟨_,rfl⟩;rw[←hk]at g1 g2 g3 g4⊢;obtain⟨p,hp⟩: ∃p,p=2^k:=⟨_,rfl⟩;rw[←hp]at g1 g3 g4;obtain⟨i,hi⟩: ∃i,i=p*285870213051353865%18446744073709551616/288230376151711744:=⟨_,rfl⟩;rw[←hi]at g3 g4;have e1: ∀ _:True,IntKind.u64.wrap (0-(x:Int))=((18446744073709551616-x:Nat):Int):=fun _=>by rw[C5];omega
 have e2: ∀ _:True,kR .u64 (x:Int) ((18446744073709551616-x:Nat):Int)=((p:Nat):Int):=fun _=>by
  rw[JM .u64 rfl h (by show 18446744073709551616-x<18446744073709551616;omega)];exact congrArg _ g1
 have e3: ∀ _:True,p*285870213051353865%18446744073709551616/288230376151711744=i:=fun _=>hi.symm
 have e4:=Sz (l:=Lib.deBruijn64tab) (i:=i) (by exact g3)
 rw[g4]at e4;have e5: ∀ _:True,([(.i .u8 0),(.i .u8 1),(.i .u8 56),(.i .u8 2),(.i .u8 57),(.i .u8 49),(.i .u8 28),(.i .u8 3),(.i .u8 61),(.i .u8 58),(.i .u8 42),(.i .u8 50),(.i .u8 38),(.i .u8 29),(.i .u8 17),(.i .u8 4),(.i .u8 62),(.i .u8 47),(.i .u8 59),(.i .u8 36),(.i .u8 45),(.i .u8 43),(.i .u8 51),(.i .u8 22),(.i .u8 53),(.i .u8 39),(.i .u8 33),(.i .u8 30),(.i .u8 24),(.i .u8 18),(.i .u8 12),(.i .u8 5),(.i .u8 63),(.i .u8 55),(.i .u8 48),(.i .u8 27),(.i .u8 60),(.i .u8 41),(.i .u8 37),(.i .u8 16),(.i .u8 46),(.i .u8 35),(.i .u8 44),(.i .u8 21),(.i .u8 52),(.i .u8 32),(.i .u8 23),(.i .u8 11),(.i .u8 54),(.i .u8 26),(.i .u8 40),(.i .u8 15),(.i .u8 34),(.i .u8 20),(.i .u8 31),(.i .u8 10),(.i .u8 25),(.i .u8 14),(.i .u8 19),(.i .u8 9),(.i .u8 13),(.i .u8 8),(.i .u8 7),(.i .u8 6)]:List PV).getD i .fn0= .i .u8 (k:Nat):=fun _=>e4
 clear g1 g4 hi hp e4;refine eW Tryz.call132 Tryz.func132 ?_;simp only[go_sem,seval,e1 trivial,e2 trivial,qx,e3 trivial,e5 trivial];repeat' first|simp only[go_sem,seval,e1 trivial,e2 trivial,qx,e3 trivial,e5 trivial]|refine sB ?_|(first|apply pX|apply bX)<;>intro hc|refine⟨oD,?_⟩|exact oD|fail
 all_goals skip
theorem aO (a:Bytes):aD Tryz.prog 34 [.s a] (.b (aa a)):=by
 rw[sN];refine eW Tryz.call34 Tryz.func34 ?_;repeat' first|simp only[go_sem,seval]|refine sB ?_|(first|apply pX|apply bX)<;>intro hc|refine⟨oD,?_⟩|exact oD|fail
 all_goals simp_all
 all_goals first|omega|(cases a<;>simp_all)
theorem Eu (l:Bytes) {i:Nat} (hi:i<l.length) (h:l.getD i 0=0):fZ (l.drop i)=fZ (l.drop (i+1)):=by
 rw[ig hi,fZ,if_pos (by rw[←h,aX,aU hi];rfl)]
theorem Ev (l:Bytes) {i:Nat} (hi:i<l.length) (h:l.getD i 0≠0):fZ (l.drop i)=l.drop i:=by
 rw[ig hi,fZ,if_neg (by rw[aX,aU hi]at h;exact h)]
theorem oe (l:Bytes) (hl:l.length<4611686018427387904):aD Tryz.prog 88 [.sl (l.map u8)] (.s (fZ l)):=by
 refine eW Tryz.call88 Tryz.func88 ?_;simp only[go_sem,seval];refine aj (α:=Nat) (fun i=>l.length-i) (fun i=>⟨[(0, .v (.sl (l.map u8))),(3, .v (.i .i64 i))],[],_⟩) (fun i=>i≤l.length∧fZ (l.drop i)=fZ l) 0 (fun _=>au _) ⟨aL _,rfl⟩ ?_ ?_
 ·exact lE
 ·rintro i ⟨hi,hx⟩ R hR
  by_cases hlt:i<l.length
  ·have e1:=Nm hlt
   by_cases h0:l.getD i 0=0
   ·have e2: ∀ _:True,(((l.getD i 0).toNat:Int)==0)=true:=fun _=>by rw[h0];rfl
    repeat' first|simp only[go_sem,seval,e1,e2 trivial]|refine sB ?_|(first|apply pX|apply bX)<;>intro hc|refine⟨oD,?_⟩|exact oD|fail
    refine hR (i+1) ⟨by omega,by rw[←hx,Eu l hlt h0]⟩ (by omega) _ ?_
    exact lE
   ·have e2: ∀ _:True,(((l.getD i 0).toNat:Int)==0)=false:=fun _=>by
     rw[beq_eq_false_iff_ne];intro e;exact h0 (WD e)
    rw[←hx,Ev l hlt h0];repeat' first|simp only[go_sem,seval,e1,e2 trivial]|refine sB ?_|(first|apply pX|apply bX)<;>intro hc|refine⟨oD,?_⟩|exact oD|fail
    refine⟨⟨by omega,fun x hx=>ve hx⟩,fun y hy=>rZ (nD hy),?_⟩
    rw[←qZ,u6]
  ·obtain rfl:i=l.length:=by omega
   rw[←hx];repeat' first|simp only[go_sem,seval]|refine sB ?_|(first|apply pX|apply bX)<;>intro hc|refine⟨oD,?_⟩|exact oD|fail
   refine⟨⟨by omega,fun x hx=>ve hx⟩,fun y hy=>rZ (nD hy),?_⟩
   rw[←qZ,u6,cY];rfl
theorem gP (n:Nat) (hn:n<18446744073709551616):aD Tryz.prog 39 [.i .u64 n] (.s (aP n)):=by
 refine eW Tryz.call39 Tryz.func39 ?_;repeat' first|simp only[go_sem,seval]|refine sB ?_|(first|apply pX|apply bX)<;>intro hc|refine⟨oD,?_⟩|exact oD|fail
 refine aj (α:=Nat) (fun i=>8-i) (fun i=>⟨[(0, .v (.i .u64 (n/256^i:Nat))),(3, .rs 1001 0 0 8 1),(4, .v (.i .i64 (7-(i:Int))))],[(1001,⟨0,aC (List.replicate (8-i) 0++be i n),false,none⟩)],_⟩) (fun i=>i≤8) 0 (fun _=>au _) (aL _) ?_ ?_
 ·(refine AS.Le.of (by first|decide|omega) ?_ ?_<;>simp[cl,cj,aF,ar,AV.bd,AV.bd.bdL,u8,ah,ai,aq])
  all_goals rfl
 ·intro i hi R hR;have hl:(List.replicate (8-i) (0:UInt8)++be i n).length=8:=by simp[b9];omega
  have hle:n/256^i≤n:=dR _ _
  by_cases hlt:i<8
  ·have e2: ∀ _:True,((7:Int)-i).toNat=8-1-i:=fun _=>by omega
   have e3: ∀ _:True,n/256^i/256=n/256^(i+1):=fun _=>by rw[dZ,←Nat.pow_succ]
   have hle2:n/256^(i+1)≤n:=dR _ _;have e4: ∀ _:True,IntKind.u64.wrap ((n/256^(i+1):Nat):Int)=((n/256^(i+1):Nat):Int):=fun _=>by
    generalize n/256^(i+1)=z at hle2⊢;exact IntWalk.u64_in _ (by omega)
   repeat' first|simp only[go_sem,seval,hl,e3 trivial,e4 trivial]|refine sB ?_|(first|apply pX|apply bX)<;>intro hc|refine⟨oD,?_⟩|exact oD|fail
   refine hR (i+1) (by omega) (by omega) _ ?_
   rw[e2 trivial,qc (c:=UInt8.ofNat (n/256^i)) (by omega) (by rw[jO,ga,ga,dt]),fX hlt]
   (refine AS.Le.of (by first|decide|omega) ?_ ?_<;>simp[cl,cj,aF,ar,AV.bd,AV.bd.bdL,u8,ah,ai,aq])
   all_goals first|omega|rfl|skip
  ·obtain rfl:i=8:=by omega
   have:=oe (be 8 n) (by rw[b9];decide)
   have hl:(be 8 n).length=8:=b9 8 n;repeat' first|simp only[go_sem,seval,hl]|(refine fT this rfl rfl hl.symm ?_)|refine sB ?_|(first|apply pX|apply bX)<;>intro hc|refine⟨oD,?_⟩|exact oD|fail
   rw[iR (by omega)]
theorem qH (a:Bytes) (hl:a.length≤8):aD Tryz.prog 53 [.s a] (.i .u64 (num a)):=by
 refine eW Tryz.call53 Tryz.func53 ?_;repeat' first|simp only[go_sem,seval]|refine sB ?_|(first|apply pX|apply bX)<;>intro hc|refine⟨oD,?_⟩|exact oD|fail
 refine aj (α:=Nat) (fun i=>a.length-i) (fun i=>⟨[(0, .v (.s a)),(3, .v (.i .u64 (num (a.take i)))),(4, .v (.i .i64 i))],[],_⟩) (fun i=>i≤a.length) 0 (fun _=>au _) (aL _) ?_ ?_
 ·(refine AS.Le.of (by first|decide|omega) ?_ ?_<;>simp[cl,cj,aF,ar,AV.bd,AV.bd.bdL,u8,ah,ai,aq])
  all_goals rfl
 ·intro i hi R hR
  by_cases hlt:i<a.length
  ·have h1:=jM hlt;have h2:=bV (a.take (i+1));have h3:(256:Nat)^(a.take (i+1)).length≤256^8:=cQ (by decide) (by simp;omega)
   repeat' first|simp only[go_sem,seval]|refine sB ?_|(first|apply pX|apply bX)<;>intro hc|refine⟨oD,?_⟩|exact oD|fail
   refine hR (i+1) (by omega) (by omega) _ ?_
   rw[h1]
   (refine AS.Le.of (by first|decide|omega) ?_ ?_<;>simp[cl,cj,aF,ar,AV.bd,AV.bd.bdL,u8,ah,ai,aq])
   all_goals first|omega|rfl|skip
  ·obtain rfl:i=a.length:=by omega
   rw[cM];repeat' first|simp only[go_sem,seval]|refine sB ?_|(first|apply pX|apply bX)<;>intro hc|refine⟨oD,?_⟩|exact oD|fail
theorem kI {a b:Bytes} (ha:Canon a) (hb:Canon b) (la:a.length<4611686018427387904) (lb:b.length<4611686018427387904):aD Tryz.prog 87 [.s a, .s b] (E (a6 (num a) (num b))):=by
 by_cases h1:a.length<b.length
 ·have:=gJ (a:=a) hb h1;have e:a6 (num a) (num b)= -1:=by simp[a6,this]
  rw[e];refine eW Tryz.call87 Tryz.func87 ?_;repeat' first|simp only[go_sem,seval]|refine sB ?_|(first|apply pX|apply bX)<;>intro hc|refine⟨oD,?_⟩|exact oD|fail
 by_cases h2:b.length<a.length
 ·have:=gJ (a:=b) ha h2;have e:a6 (num a) (num b)=1:=by unfold a6;rw[if_neg (by omega),if_pos this]
  rw[e];refine eW Tryz.call87 Tryz.func87 ?_;repeat' first|simp only[go_sem,seval]|refine sB ?_|(first|apply pX|apply bX)<;>intro hc|refine⟨oD,?_⟩|exact oD|fail
 have hl:a.length=b.length:=by omega
 rw[←jl hl];refine eW Tryz.call87 Tryz.func87 ?_;repeat' first|simp only[go_sem,seval]|refine sB ?_|(first|apply pX|apply bX)<;>intro hc|refine⟨oD,?_⟩|exact oD|fail
 refine aj (α:=Nat) (fun i=>a.length-i) (fun i=>⟨[(0, .v (.s a)),(1, .v (.s b)),(5, .v (.i .i64 i))],[],_⟩) (fun i=>i≤a.length∧Lib.compareBytes (a.drop i) (b.drop i)=Lib.compareBytes a b) 0 (fun _=>au _) ⟨aL _,rfl⟩ ?_ ?_
 ·exact lE
 ·rintro i ⟨hi,hx⟩ R hR
  by_cases hlt:i<a.length
  ·have d1:a.drop i=a.getD i 0::a.drop (i+1):=by rw[ig hlt,aX,aU hlt];rfl
   have hltb:i<b.length:=by omega
   have d2:b.drop i=b.getD i 0::b.drop (i+1):=by rw[ig hltb,aX,aU hltb];rfl
   have hgo:=hR (i+1);rw[←hx]at hgo⊢;rw[d1,d2]at hgo⊢;simp only[Lib.compareBytes]at hgo⊢;clear d1 d2 hx hR;have e1:a.getD i 0<b.getD i 0↔(a.getD i 0).toNat<(b.getD i 0).toNat:=uk;have e2:b.getD i 0<a.getD i 0↔(b.getD i 0).toNat<(a.getD i 0).toNat:=uk;simp only[e1,e2]at hgo⊢;obtain⟨x,hx⟩: ∃x,x=a.getD i 0:=⟨_,rfl⟩;obtain⟨y,hy⟩: ∃y,y=b.getD i 0:=⟨_,rfl⟩;rw[←hx,←hy]at hgo⊢;clear e1 e2;repeat' first|simp only[go_sem,seval,←hx,←hy]|refine sB ?_|(first|apply pX|apply bX)<;>intro hc|refine⟨oD,?_⟩|exact oD|fail
   ·refine hgo ⟨by omega,?_⟩ (by omega) _ ?_
    ·rw[if_neg (by omega),if_neg (by omega)]
    ·exact lE
   ·rw[if_pos (by omega)]
   ·rw[if_neg (by omega),if_pos (by omega)]
  ·obtain rfl:i=a.length:=by omega
   repeat' first|simp only[go_sem,seval]|refine sB ?_|(first|apply pX|apply bX)<;>intro hc|refine⟨oD,?_⟩|exact oD|fail
   rw[←hx,cY,hl,cY];rfl
theorem tU (a b:Bytes):aD Tryz.prog 38 [.s a, .s b] (E (if aa a&&aa b then a6 (num a) (num b)else 0)):=by
 by_cases h:aa a=true∧aa b=true
 case neg=>
  refine eW Tryz.call38 Tryz.func38 ?_;repeat' first|simp only[go_sem,seval]|refine cP (aO _) ?_|refine sB ?_|(first|apply pX|apply bX)<;>intro hc|refine⟨oD,?_⟩|exact oD|fail
  all_goals simp_all
 have la:=cI h.1;have lb:=cI h.2;have ho:=kI (bE h.1) (bE h.2) (by omega) (by omega)
 refine eW Tryz.call38 Tryz.func38 ?_;repeat' first|simp only[go_sem,seval]|refine cP (aO _) ?_|refine cP ho ?_|refine sB ?_|(first|apply pX|apply bX)<;>intro hc|refine⟨oD,?_⟩|exact oD|fail
 all_goals simp_all
theorem pF (a:Bytes) (i:Nat) (ha:a.length<4611686018427387904):aD Tryz.prog 153 [.s a,E i] (E ((num a/256^i%256:Nat):Int)):=by
 refine eW Tryz.call153 Tryz.func153 ?_;repeat' first|simp only[go_sem,seval]|refine sB ?_|(first|apply pX|apply bX)<;>intro hc|refine⟨oD,?_⟩|exact oD|fail
 ·rw[pC a (by omega)];rfl
 ·have h:=sj a (i:=i) (by omega)
  rw[←h,show((a.length:Int)-1-(i:Int)).toNat=a.length-1-i by omega]
  have:=(a.getD (a.length-1-i) 0).toNat_lt;rw[IntWalk.i64_in _ (by omega)]
theorem Cm (a b:Bytes) (la:a.length<1099511627776) (lb:b.length<1099511627776):aD Tryz.prog 151 [.s a, .s b] (.s (aP (num a+num b))):=by
 have hmax:(if(b.length:Int)>(a.length:Int)then(b.length:Int)else(a.length:Int))=((max a.length b.length:Nat):Int):=by
  split<;>omega
 obtain⟨n,hn⟩: ∃n,n=max a.length b.length+1:=⟨_,rfl⟩;have hn2:((max a.length b.length:Nat):Int)+1=(n:Int):=by omega
 refine eW Tryz.call151 Tryz.func151 ?_;repeat' first|simp only[go_sem,seval,hmax,hn2,mn]|refine sB ?_|(first|apply pX|apply bX)<;>intro hc|refine⟨oD,?_⟩|exact oD|fail
 refine aj (α:=Nat) (fun i=>n-i) (fun i=>⟨[(0, .v (.s a)),(1, .v (.s b)),(5, .v (.i .i64 n)),(6, .rs 1009 0 0 n 1),(7, .v (.i .i64 (carry (num a) (num b) (256^i)))),(8, .v (.i .i64 i))],[(1009,⟨0,aC (List.replicate (n-i) 0++be i (num a+num b)),false,none⟩)],_⟩) (fun i=>i≤n) 0 (fun _=>au _) (aL _) ?_ ?_
 ·(refine AS.Le.of (by first|decide|omega) ?_ ?_<;>simp[cl,cj,aF,ar,AV.bd,AV.bd.bdL,u8,ah,ai,aq])
  ·simp[carry,kE]
  ·simp[be]
 ·intro i hi R hR;have hl:=mX n i (num a+num b) hi;have hp:=iq i;have hc1:=Bm (num a) (num b) hp
  by_cases hlt:i<n
  ·have e0: ∀ _:True,((num a/256^i%256:Nat):Int)+((num b/256^i%256:Nat):Int)+((carry (num a) (num b) (256^i):Nat):Int)=((carry (num a) (num b) (256^i)+(num a/256^i%256+num b/256^i%256):Nat):Int):=fun _=>by omega
   repeat' first|simp only[go_sem,seval,hl,e0 trivial]|(refine dF (pF a i (by omega)) rfl ?_)|(refine dF (pF b i (by omega)) rfl ?_)|refine sB ?_|(first|apply pX|apply bX)<;>intro hc|refine⟨oD,?_⟩|exact oD|fail
   refine hR (i+1) (by omega) (by omega) _ ?_
   have e2:((n:Int)-1-i).toNat=n-1-i:=by omega
   rw[e2,qc (c:=UInt8.ofNat ((num a+num b)/256^i)) (by omega) (by rw[jO,←u7 _ _ hp,ga,ga,dt]),fX hlt,u9 _ _ hp,←Nat.pow_succ]
   (refine AS.Le.of (by first|decide|omega) ?_ ?_<;>simp[cl,cj,aF,ar,AV.bd,AV.bd.bdL,u8,ah,ai,aq])
   all_goals first|omega|rfl|skip
  ·obtain rfl:i=n:=by omega
   have:=oe (be i (num a+num b)) (by rw[b9];omega)
   have hl:(be i (num a+num b)).length=i:=b9 _ _;repeat' first|simp only[go_sem,seval,hl,fh,List.replicate_zero]|(refine fT this rfl rfl hl.symm ?_)|refine sB ?_|(first|apply pX|apply bX)<;>intro hc|refine⟨oD,?_⟩|exact oD|fail
   have h1:num a+num b<256^i:=by
    have g1:=bV a;have g2:=bV b;have p1:256^a.length≤256^(i-1):=cQ (by decide) (by omega)
    have p2:256^b.length≤256^(i-1):=cQ (by decide) (by omega)
    have p3:256^i=256^(i-1)*256:=by rw[←Nat.pow_succ];congr 1;omega
    omega
   rw[iR h1]
theorem sC (a b:Bytes) (la:a.length<1099511627776) (lb:b.length<1099511627776) (h:num b≤num a):aD Tryz.prog 101 [.s a, .s b] (.s (aP (num a-num b))):=by
 obtain⟨n,hn⟩: ∃n,n=a.length:=⟨_,rfl⟩;refine eW Tryz.call101 Tryz.func101 ?_;simp only[go_sem,seval,←hn];repeat' first|simp only[go_sem,seval,←hn,mn]|refine sB ?_|(first|apply pX|apply bX)<;>intro hc|refine⟨oD,?_⟩|exact oD|fail
 refine aj (α:=Nat) (fun i=>n-i) (fun i=>⟨[(0, .v (.s a)),(1, .v (.s b)),(5, .v (.i .i64 n)),(6, .rs 1005 0 0 n 1),(7, .v (.i .i64 (borrow (num a) (num b) (256^i)))),(8, .v (.i .i64 i))],[(1005,⟨0,aC (List.replicate (n-i) 0++be i (num a-num b)),false,none⟩)],_⟩) (fun i=>i≤n) 0 (fun _=>au _) (aL _) ?_ ?_
 ·(refine AS.Le.of (by first|decide|omega) ?_ ?_<;>simp[cl,cj,aF,ar,AV.bd,AV.bd.bdL,u8,ah,ai,aq])
  ·simp[borrow,kE]
  ·simp[be]
 ·intro i hi R hR;have hl:=mX n i (num a-num b) hi;have hp:=iq i;have hc1:=yg (num a) (num b) (256^i);have hb1:=sR (num a) (num b) hp;have hb2:=sQ (num a) (num b) hp h;have e2:((n:Int)-1-i).toNat=n-1-i:=by omega
  by_cases hlt:i<n
  ·repeat' first|simp only[go_sem,seval,hl]|(refine dF (pF a i (by omega)) rfl ?_)|(refine dF (pF b i (by omega)) rfl ?_)|refine sB ?_|(first|apply pX|apply bX)<;>intro hc|refine⟨oD,?_⟩|exact oD|fail
   ·refine hR (i+1) (by omega) (by omega) _ ?_
    rw[e2,qc (c:=UInt8.ofNat ((num a-num b)/256^i)) (by omega) (by rw[SF,ga,←hb2 _ rfl];omega),fX hlt]
    (refine AS.Le.of (by first|decide|omega) ?_ ?_<;>simp[cl,cj,aF,ar,AV.bd,AV.bd.bdL,u8,ah,ai,aq])
    ·rw[Nat.pow_succ,hb1,if_pos hc];rfl
    ·rfl
   ·refine hR (i+1) (by omega) (by omega) _ ?_
    rw[e2,qc (c:=UInt8.ofNat ((num a-num b)/256^i)) (by omega) (by rw[SF,ga,←hb2 _ rfl]),fX hlt]
    (refine AS.Le.of (by first|decide|omega) ?_ ?_<;>simp[cl,cj,aF,ar,AV.bd,AV.bd.bdL,u8,ah,ai,aq])
    ·rw[Nat.pow_succ,hb1,if_neg hc];rfl
    ·rfl
  ·obtain rfl:i=n:=by omega
   have:=oe (be i (num a-num b)) (by rw[b9];omega)
   have hl:(be i (num a-num b)).length=i:=b9 _ _;repeat' first|simp only[go_sem,seval,hl,fh,List.replicate_zero]|(refine fT this rfl rfl hl.symm ?_)|refine sB ?_|(first|apply pX|apply bX)<;>intro hc|refine⟨oD,?_⟩|exact oD|fail
   have h1:num a-num b<256^i:=by have:=bV a;rw[hn];omega
   rw[iR h1]
end Go.Proofs.YtmobkhegihemeaaGreatDoor
