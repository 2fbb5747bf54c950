/-
  Part of the proof, part FA24. Own work.
-/
import Derived.Test.YtfdjchnefpefbaaGreatDoorFA21
set_option linter.all false
namespace Go.Proofs.YtfdjchnefpefbaaGreatDoor
open Go Go.Dom
set_option maxRecDepth 100000
set_option maxHeartbeats 4000000
theorem aM (a:Bytes):aA Tryz.prog 36 [.s a] (.b (aa a)):=by
 rw[uo];refine eW Tryz.call36 Tryz.func36 ?_;repeat' first|simp only[go_sem,seval]|refine sB ?_|apply xX<;>intro hc|refine⟨oD,?_⟩|exact oD|fail
 all_goals simp_all
 all_goals first|omega|(cases a<;>simp_all)
theorem FZ (l:Bytes) {i:Nat} (hi:i<l.length) (h:l.getD i 0=0):gD (l.drop i)=gD (l.drop (i+1)):=by
 rw[iq hi,gD,if_pos (by rw[<-h,aR,bJ hi];rfl)]
theorem F1 (l:Bytes) {i:Nat} (hi:i<l.length) (h:l.getD i 0≠0):gD (l.drop i)=l.drop i:=by
 rw[iq hi,gD,if_neg (by rw[aR,bJ hi]at h;exact h)]
theorem oU (l:Bytes) (hl:l.length<4611686018427387904):aA Tryz.prog 141 [.sl (l.map u8)] (.s (gD l)):=by
 refine eW Tryz.call141 Tryz.func141 ?_;simp only[go_sem,seval];refine af (α:=Nat) (fun i=>l.length-i) (fun i=>⟨[(0, .v (.sl (l.map u8))),(3, .v (.i .i64 i))],[],_⟩) (fun i=>i<=l.length/\gD (l.drop i)=gD l) 0 (fun _=>an _) ⟨aH _,rfl⟩ ?_ ?_
 ·exact lE
 ·rintro i ⟨hi,hx⟩ R hR
  by_cases hlt:i<l.length
  ·have e1:=Pp hlt
   by_cases h0:l.getD i 0=0
   ·have e2: ∀ _:True,(((l.getD i 0).toNat:Int)==0)=true:=fun _=>by rw[h0];rfl
    refine fx (aN @e1 (e2 trivial)) ?_;refine hR (i+1) ⟨by omega,by rw[<-hx,FZ l hlt h0]⟩ oO _ ?_
    exact lE
   ·have e2: ∀ _:True,(((l.getD i 0).toNat:Int)==0)=false:=fun _=>by
     rw[beq_eq_false_iff_ne];intro e;exact h0 (ZJ e)
    rw[<-hx,F1 l hlt h0];refine fx (aN @e1 (e2 trivial)) ?_;refine⟨⟨by omega,fun x hx=>wV hx⟩,fun y hy=>tE (nU hy),?_⟩
    rw[<-sR,wS]
  ·obtain rfl:i=l.length:=by omega
   rw[<-hx];refine wC ?_;refine⟨⟨by omega,fun x hx=>wV hx⟩,fun y hy=>tE (nU hy),?_⟩
   rw[<-sR,wS,cX];rfl
theorem jE (n:Nat) (hn:n<18446744073709551616):aA Tryz.prog 66 [.i .u64 n] (.s (aO n)):=by
 refine eW Tryz.call66 Tryz.func66 ?_;refine uZ ?_;refine af (α:=Nat) (fun i=>8-i) (fun i=>⟨[(0, .v (.i .u64 (n/256^i:Nat))),(3, .rs 1001 0 0 8 1),(4, .v (.i .i64 (7-(i:Int))))],[(1001,⟨0,ay (List.replicate (8-i) 0++be i n),false,none⟩)],_⟩) (fun i=>i<=8) 0 (fun _=>an _) (aH _) ?_ ?_
 ·(refine AS.Le.of (by first|decide|omega) ?_ ?_<;>simp[dM,dL,aK,aj,AV.bd,AV.bd.bdL,u8,ai,ak,ar])
  all_goals rfl
 ·intro i hi R hR;have hl:(List.replicate (8-i) (0:UInt8)++be i n).length=8:=by simp[cj];omega
  have hle:n/256^i<=n:=dZ _ _
  by_cases hlt:i<8
  ·have e2: ∀ _:True,((7:Int)-i).toNat=8-1-i:=fun _=>by omega
   have e3: ∀ _:True,n/256^i/256=n/256^(i+1):=fun _=>by rw[eg,<-Nat.pow_succ]
   have hle2:n/256^(i+1)<=n:=dZ _ _;have e4: ∀ _:True,IntKind.u64.wrap ((n/256^(i+1):Nat):Int)=((n/256^(i+1):Nat):Int):=fun _=>by
    generalize n/256^(i+1)=z at hle2⊢;exact IntWalk.u64_in _ oO
   refine fx (aN @hl (aN (e3 trivial) (e4 trivial))) ?_;refine hR (i+1) oO oO _ ?_;rw[e2 trivial,qZ (c:=UInt8.ofNat (n/256^i)) oO (by rw[j4,gG,gG,dq]),gi hlt]
   (refine AS.Le.of (by first|decide|omega) ?_ ?_<;>simp[dM,dL,aK,aj,AV.bd,AV.bd.bdL,u8,ai,ak,ar])
   all_goals first|omega|rfl|skip
  ·obtain rfl:i=8:=by omega
   have:=oU (be 8 n) (by rw[cj];decide)
   have hl:(be 8 n).length=8:=cj 8 n;repeat' first|simp only[go_sem,seval,hl]|(refine fZ this rfl rfl hl.symm ?_)|refine sB ?_|apply xX<;>intro hc|refine⟨oD,?_⟩|exact oD|fail
   rw[ji oO]
theorem rT (a:Bytes) (hl:a.length<=8):aA Tryz.prog 255 [.s a] (.i .u64 (num a)):=by
 refine eW Tryz.call255 Tryz.func255 ?_;refine uZ ?_;refine af (α:=Nat) (fun i=>a.length-i) (fun i=>⟨[(0, .v (.s a)),(3, .v (.i .u64 (num (a.take i)))),(4, .v (.i .i64 i))],[],_⟩) (fun i=>i<=a.length) 0 (fun _=>an _) (aH _) ?_ ?_
 ·(refine AS.Le.of (by first|decide|omega) ?_ ?_<;>simp[dM,dL,aK,aj,AV.bd,AV.bd.bdL,u8,ai,ak,ar])
  all_goals rfl
 ·intro i hi R hR
  by_cases hlt:i<a.length
  ·have h1:=jZ hlt;have h2:=cb (a.take (i+1));have h3:(256:Nat)^(a.take (i+1)).length<=256^8:=cI oC (by simp;omega)
   refine wC ?_;refine hR (i+1) oO oO _ ?_;rw[h1]
   (refine AS.Le.of (by first|decide|omega) ?_ ?_<;>simp[dM,dL,aK,aj,AV.bd,AV.bd.bdL,u8,ai,ak,ar])
   all_goals first|omega|rfl|skip
  ·obtain rfl:i=a.length:=by omega
   rw[cK];exact z0
theorem kT {a b:Bytes} (ha:Canon a) (hb:Canon b) (la:a.length<4611686018427387904) (lb:b.length<4611686018427387904):aA Tryz.prog 109 [.s a, .s b] (E (aU (num a) (num b))):=by
 by_cases h1:a.length<b.length
 ·have:=gQ (a:=a) hb h1;have e:aU (num a) (num b)= -1:=by simp[aU,this]
  rw[e];refine eW Tryz.call109 Tryz.func109 ?_;exact z0
 by_cases h2:b.length<a.length
 ·have:=gQ (a:=b) ha h2;have e:aU (num a) (num b)=1:=by unfold aU;rw[if_neg oO,if_pos this]
  rw[e];refine eW Tryz.call109 Tryz.func109 ?_;exact z0
 have hl:a.length=b.length:=by omega
 rw[<-jx hl];refine eW Tryz.call109 Tryz.func109 ?_;refine uZ ?_;refine af (α:=Nat) (fun i=>a.length-i) (fun i=>⟨[(0, .v (.s a)),(1, .v (.s b)),(5, .v (.i .i64 i))],[],_⟩) (fun i=>i<=a.length/\Lib.compareBytes (a.drop i) (b.drop i)=Lib.compareBytes a b) 0 (fun _=>an _) ⟨aH _,rfl⟩ ?_ ?_
 ·exact lE
 ·rintro i ⟨hi,hx⟩ R hR
  by_cases hlt:i<a.length
  ·have d1:a.drop i=a.getD i 0::a.drop (i+1):=by rw[iq hlt,aR,bJ hlt];rfl
   have hltb:i<b.length:=by omega
   have d2:b.drop i=b.getD i 0::b.drop (i+1):=by rw[iq hltb,aR,bJ hltb];rfl
   have hgo:=hR (i+1);rw[<-hx]at hgo⊢;rw[d1,d2]at hgo⊢;simp only[Lib.compareBytes]at hgo⊢;clear d1 d2 hx hR;have e1:a.getD i 0<b.getD i 0↔(a.getD i 0).toNat<(b.getD i 0).toNat:=vO;have e2:b.getD i 0<a.getD i 0↔(b.getD i 0).toNat<(a.getD i 0).toNat:=vO;simp only[e1,e2]at hgo⊢;obtain⟨x,hx⟩: ∃x,x=a.getD i 0:=⟨_,rfl⟩;obtain⟨y,hy⟩: ∃y,y=b.getD i 0:=⟨_,rfl⟩;rw[<-hx,<-hy]at hgo⊢;clear e1 e2;repeat' first|simp only[go_sem,seval,<-hx,<-hy]|refine sB ?_|apply xX<;>intro hc|refine⟨oD,?_⟩|exact oD|fail
   ·refine hgo ⟨by omega,?_⟩ oO _ ?_
    ·rw[if_neg oO,if_neg oO]
    ·exact lE
   ·rw[if_pos oO]
   ·rw[if_neg oO,if_pos oO]
  ·obtain rfl:i=a.length:=by omega
   refine wC ?_;rw[<-hx,cX,hl,cX];rfl
theorem vE (a b:Bytes):aA Tryz.prog 51 [.s a, .s b] (E (if aa a&&aa b then aU (num a) (num b)else 0)):=by
 by_cases h:aa a=true/\aa b=true
 case neg=>
  refine eW Tryz.call51 Tryz.func51 ?_;repeat' first|simp only[go_sem,seval]|refine cP (aM _) ?_|refine sB ?_|apply xX<;>intro hc|refine⟨oD,?_⟩|exact oD|fail
  all_goals simp_all
 have la:=cE h.1;have lb:=cE h.2;have ho:=kT (bK h.1) (bK h.2) oO oO;refine eW Tryz.call51 Tryz.func51 ?_;repeat' first|simp only[go_sem,seval]|refine cP (aM _) ?_|refine cP ho ?_|refine sB ?_|apply xX<;>intro hc|refine⟨oD,?_⟩|exact oD|fail
 all_goals simp_all
theorem qC (a:Bytes) (i:Nat) (ha:a.length<4611686018427387904):aA Tryz.prog 152 [.s a,E i] (E ((num a/256^i%256:Nat):Int)):=by
 refine eW Tryz.call152 Tryz.func152 ?_;repeat' first|simp only[go_sem,seval]|refine sB ?_|apply xX<;>intro hc|refine⟨oD,?_⟩|exact oD|fail
 ·rw[qy a oO];rfl
 ·have h:=tP a (i:=i) oO;rw[<-h,show((a.length:Int)-1-(i:Int)).toNat=a.length-1-i by omega]
  have:=(a.getD (a.length-1-i) 0).toNat_lt;rw[IntWalk.i64_in _ oO]
theorem DP (a b:Bytes) (la:a.length<1099511627776) (lb:b.length<1099511627776):aA Tryz.prog 86 [.s a, .s b] (.s (aO (num a+num b))):=by
 have hmax:(if(b.length:Int)>(a.length:Int)then(b.length:Int)else(a.length:Int))=((max a.length b.length:Nat):Int):=by
  split<;>omega
 obtain⟨n,hn⟩: ∃n,n=max a.length b.length+1:=⟨_,rfl⟩;have hn2:((max a.length b.length:Nat):Int)+1=(n:Int):=by omega
 refine eW Tryz.call86 Tryz.func86 ?_;repeat' first|simp only[go_sem,seval,hmax,hn2,mG]|refine sB ?_|apply xX<;>intro hc|refine⟨oD,?_⟩|exact oD|fail
 refine af (α:=Nat) (fun i=>n-i) (fun i=>⟨[(0, .v (.s a)),(1, .v (.s b)),(5, .v (.i .i64 n)),(6, .rs 1009 0 0 n 1),(7, .v (.i .i64 (carry (num a) (num b) (256^i)))),(8, .v (.i .i64 i))],[(1009,⟨0,ay (List.replicate (n-i) 0++be i (num a+num b)),false,none⟩)],_⟩) (fun i=>i<=n) 0 (fun _=>an _) (aH _) ?_ ?_
 ·(refine AS.Le.of (by first|decide|omega) ?_ ?_<;>simp[dM,dL,aK,aj,AV.bd,AV.bd.bdL,u8,ai,ak,ar])
  ·simp[carry,kQ]
  ·simp[be]
 ·intro i hi R hR;have hl:=nE n i (num a+num b) hi;have hp:=iG i;have hc1:=CQ (num a) (num b) hp
  by_cases hlt:i<n
  ·have e0: ∀ _:True,((num a/256^i%256:Nat):Int)+((num b/256^i%256:Nat):Int)+((carry (num a) (num b) (256^i):Nat):Int)=((carry (num a) (num b) (256^i)+(num a/256^i%256+num b/256^i%256):Nat):Int):=fun _=>by omega
   repeat' first|simp only[go_sem,seval,hl,e0 trivial]|refine cP (qC a i oO) ?_|refine cP (qC b i oO) ?_|refine sB ?_|apply xX<;>intro hc|refine⟨oD,?_⟩|exact oD|fail
   refine hR (i+1) oO oO _ ?_;have e2:((n:Int)-1-i).toNat=n-1-i:=by omega
   rw[e2,qZ (c:=UInt8.ofNat ((num a+num b)/256^i)) oO (by rw[j4,<-wT _ _ hp,gG,gG,dq]),gi hlt,wU _ _ hp,<-Nat.pow_succ]
   (refine AS.Le.of (by first|decide|omega) ?_ ?_<;>simp[dM,dL,aK,aj,AV.bd,AV.bd.bdL,u8,ai,ak,ar])
   all_goals first|omega|rfl|skip
  ·obtain rfl:i=n:=by omega
   have:=oU (be i (num a+num b)) (by rw[cj];omega)
   have hl:(be i (num a+num b)).length=i:=cj _ _;repeat' first|simp only[go_sem,seval,hl,eE,List.replicate_zero]|(refine fZ this rfl rfl hl.symm ?_)|refine sB ?_|apply xX<;>intro hc|refine⟨oD,?_⟩|exact oD|fail
   have h1:num a+num b<256^i:=by
    have g1:=cb a;have g2:=cb b;have p1:256^a.length<=256^(i-1):=cI oC oO;have p2:256^b.length<=256^(i-1):=cI oC oO;have p3:256^i=256^(i-1)*256:=by rw[<-Nat.pow_succ];congr 1;omega
    omega
   rw[ji h1]
theorem tX (a b:Bytes) (la:a.length<1099511627776) (lb:b.length<1099511627776) (h:num b<=num a):aA Tryz.prog 85 [.s a, .s b] (.s (aO (num a-num b))):=by
 obtain⟨n,hn⟩: ∃n,n=a.length:=⟨_,rfl⟩;refine eW Tryz.call85 Tryz.func85 ?_;simp only[go_sem,seval,<-hn];repeat' first|simp only[go_sem,seval,<-hn,mG]|refine sB ?_|apply xX<;>intro hc|refine⟨oD,?_⟩|exact oD|fail
 refine af (α:=Nat) (fun i=>n-i) (fun i=>⟨[(0, .v (.s a)),(1, .v (.s b)),(5, .v (.i .i64 n)),(6, .rs 1005 0 0 n 1),(7, .v (.i .i64 (borrow (num a) (num b) (256^i)))),(8, .v (.i .i64 i))],[(1005,⟨0,ay (List.replicate (n-i) 0++be i (num a-num b)),false,none⟩)],_⟩) (fun i=>i<=n) 0 (fun _=>an _) (aH _) ?_ ?_
 ·(refine AS.Le.of (by first|decide|omega) ?_ ?_<;>simp[dM,dL,aK,aj,AV.bd,AV.bd.bdL,u8,ai,ak,ar])
  ·simp[borrow,kQ]
  ·simp[be]
 ·intro i hi R hR;have hl:=nE n i (num a-num b) hi;have hp:=iG i;have hc1:=zE (num a) (num b) (256^i);have hb1:=uy (num a) (num b) hp;have hb2:=ux (num a) (num b) hp h;have e2:((n:Int)-1-i).toNat=n-1-i:=by omega
  by_cases hlt:i<n
  ·repeat' first|simp only[go_sem,seval,hl]|refine cP (qC a i oO) ?_|refine cP (qC b i oO) ?_|refine sB ?_|apply xX<;>intro hc|refine⟨oD,?_⟩|exact oD|fail
   ·refine hR (i+1) oO oO _ ?_;rw[e2,qZ (c:=UInt8.ofNat ((num a-num b)/256^i)) oO (by rw[UU,gG,<-hb2 _ rfl];omega),gi hlt]
    (refine AS.Le.of (by first|decide|omega) ?_ ?_<;>simp[dM,dL,aK,aj,AV.bd,AV.bd.bdL,u8,ai,ak,ar])
    ·rw[Nat.pow_succ,hb1,if_pos hc];rfl
    ·rfl
   ·refine hR (i+1) oO oO _ ?_;rw[e2,qZ (c:=UInt8.ofNat ((num a-num b)/256^i)) oO (by rw[UU,gG,<-hb2 _ rfl]),gi hlt]
    (refine AS.Le.of (by first|decide|omega) ?_ ?_<;>simp[dM,dL,aK,aj,AV.bd,AV.bd.bdL,u8,ai,ak,ar])
    ·rw[Nat.pow_succ,hb1,if_neg hc];rfl
    ·rfl
  ·obtain rfl:i=n:=by omega
   have:=oU (be i (num a-num b)) (by rw[cj];omega)
   have hl:(be i (num a-num b)).length=i:=cj _ _;repeat' first|simp only[go_sem,seval,hl,eE,List.replicate_zero]|(refine fZ this rfl rfl hl.symm ?_)|refine sB ?_|apply xX<;>intro hc|refine⟨oD,?_⟩|exact oD|fail
   have h1:num a-num b<256^i:=by have:=cb a;rw[hn];omega
   rw[ji h1]
end Go.Proofs.YtfdjchnefpefbaaGreatDoor
namespace Go.Proofs.YtfdjchnefpefbaaGreatDoor
open Go Go.Dom
set_option maxRecDepth 100000
set_option maxHeartbeats 8000000
theorem Ji (a b:Bytes) (la:a.length<1048576) (lb:b.length<1048576):aA Tryz.prog 319 [.s a, .s b] (.s (aO (num a*num b))):=by
 obtain⟨n,hn⟩: ∃n,n=a.length+b.length:=⟨_,rfl⟩;have hn':((a.length:Int)+(b.length:Int))=(n:Int):=by omega
 have hmul:num a*num b<256^n:=by rw[hn,ct];exact fR (cb a) (cb b)
 by_cases h8:n<=8
 ·have hu1:=rT a oO;have hu2:=rT b oO;have hp:num a*num b<18446744073709551616:=bj hmul (cI oC h8);have ho:=jE (num a*num b) hp;have hw: ∀ _:True,IntKind.u64.wrap ((num a:Int)*(num b:Int))=((num a*num b:Nat):Int):=fun _=>by
   rw[<-Int.natCast_mul,IntWalk.u64_in _ oO]
  clear hmul;refine eW Tryz.call319 Tryz.func319 ?_;exact JJ (aN @hn' (hw trivial)) @hu1 @hu2 @ho
 have hcz: ∀m:Nat,(List.replicate m [AV.v (PV.i IntKind.i64 0)]).flatten=aq .i64 (List.replicate m 0):=by
  intro m
  induction m with
  |zero=>rfl
  |succ m ih=>rw[List.replicate_succ,List.flatten_cons,ih,List.replicate_succ];rfl
 have hw1: ∀ _:True,((n:Int)+1)=((n+1:Nat):Int):=fun _=>rfl
 refine eW Tryz.call319 Tryz.func319 ?_;repeat' first|simp only[go_sem,seval,hn',mG,hw1 trivial,hcz]|refine sB ?_|apply xX<;>intro hc|refine⟨oD,?_⟩|exact oD|fail
 refine af (α:=Nat×List Nat) (fun x=>a.length-x.1) (fun x=>⟨[(0, .v (.s a)),(1, .v (.s b)),(5,E' n),(6, .rs 1015 0 0 (n+1) 1),(7, .v (.i .i64 x.1))],[(1015,⟨0,aq .i64 x.2,false,none⟩)],_⟩) (fun x=>x.1<=a.length/\uJ (n+1) (num a) (num b) x.1 0 x.2) (0,List.replicate (n+1) 0) (fun _=>an _) ⟨aH _, .start _ _ _⟩ ?_ ?_
 ·(refine AS.Le.of (by first|decide|omega) ?_ ?_<;>simp[dM,dL,aK,aj,AV.bd,AV.bd.bdL,u8,ai,ak,ar])
  all_goals skip
 ·rintro⟨i,l⟩ ⟨hi,hl⟩ R hR;simp only at hi hl;have l1:(aq .i64 l).length=n+1:=by rw[aP,hl.len]
  by_cases hlt:i<a.length
  ·refine eF @l1 ?_;refine af (α:=Nat×List Nat) (fun x=>b.length-x.1) (fun x=>⟨[(0, .v (.s a)),(1, .v (.s b)),(5,E' n),(6, .rs 1015 0 0 (n+1) 1),(7,E' i),(8,E' x.1)],[(1015,⟨0,aq .i64 x.2,false,none⟩)],_⟩) (fun x=>x.1<=b.length/\uJ (n+1) (num a) (num b) i x.1 x.2) (0,l) (fun _=>an _) ⟨aH _,hl⟩ ?_ ?_
   ·exact lE
   ·rintro⟨k,m⟩ ⟨hk,hm⟩ R' hR';simp only at hk hm;have m1:(aq .i64 m).length=n+1:=by rw[aP,hm.len]
    by_cases hklt:k<b.length
    ·obtain⟨x,hx⟩: ∃x,x=num a/256^i%256:=⟨_,rfl⟩;obtain⟨y,hy⟩: ∃y,y=num b/256^k%256:=⟨_,rfl⟩;have hst:=hm.step oO;rw[<-hx,<-hy]at hst;have hxy:x*y<=65025:=jP (by omega:x<=255) (by omega:y<=255)
     have hc:=hm.hi (i+k) (an _);have g1: ∀ _:True,(aq .i64 m).getD ((i:Int)+(k:Int)).toNat .u= .v (.i .i64 (m.getD (i+k) 0:Nat)):=fun _=>by
      rw[show((i:Int)+(k:Int)).toNat=i+k by omega,cH (by rw[hm.len];omega)]
     have g2: ∀ _:True,IntKind.i64.wrap ((x:Int)*(y:Int))=((x*y:Nat):Int):=fun _=>by
      rw[<-Int.natCast_mul,IntWalk.i64_in _ oO]
     have g3: ∀ _:True,IntKind.i64.wrap (((m.getD (i+k) 0:Nat):Int)+((x*y:Nat):Int))=((m.getD (i+k) 0+x*y:Nat):Int):=fun _=>by
      rw[<-Int.natCast_add,IntWalk.i64_in _ oO]
     have hd1:=qC a i oO;have hd:=qC b k oO;rw[<-hy]at hd;rw[<-hx]at hd1;clear hy hxy hx;refine sT (aN @m1 (aN (g1 trivial) (aN (g2 trivial) (g3 trivial)))) @hd1 @hd ?_;refine hR' (k+1,m.set (i+k) (m.getD (i+k) 0+x*y)) ⟨by show k+1<= _;omega,hst⟩ (by show b.length-(k+1)<b.length-k;omega) _ ?_
     rw[show((i:Int)+(k:Int)).toNat=i+k by omega,dx (by rw[hm.len];omega) rfl]
     exact lE
    ·obtain rfl:k=b.length:=by omega
     refine wC ?_;refine hR (i+1,m) ⟨by show i+1<= _;omega,hm.row (cb b)⟩ (by show a.length-(i+1)<a.length-i;omega) _ ?_
     exact lE
  ·obtain rfl:i=a.length:=by omega
   repeat' first|simp only[go_sem,seval,l1,mG]|refine sB ?_|apply xX<;>intro hc|refine⟨oD,?_⟩|exact oD|fail
   have hv:=hl.v;have ha:=cb a;rw[aV ha]at hv;simp only[Nat.pow_zero,kQ,Nat.mul_zero,mA,Nat.add_zero]at hv;obtain⟨T,hT⟩: ∃T,T=num a*num b:=⟨_,rfl⟩;rw[<-hT]at hv;have hTl:T<256^n:=by rw[hT];exact hmul
   rw[<-hT];refine af (α:=Nat) (fun i=>n-i) (fun i=>⟨[(5,E' n),(6, .rs 1015 0 0 (n+1) 1),(9, .rs 1023 0 0 n 1),(10,E' (le (l.take i)/256^i)),(11,E' i)],[(1015,⟨0,aq .i64 l,false,none⟩),(1023,⟨0,ay (List.replicate (n-i) 0++be i T),false,none⟩)],_⟩) (fun i=>i<=n) 0 (fun _=>an _) (aH _) ?_ ?_
   ·(refine AS.Le.of (by first|decide|omega) ?_ ?_<;>simp[dM,dL,aK,aj,AV.bd,AV.bd.bdL,u8,ai,ak,ar])
    all_goals first|rfl|simp[le,be]
   ·intro i hi R hR;have hb:=nE n i T hi
    by_cases hlt:i<n
    ·obtain⟨e1,e2⟩:=rj (l:=l) (i:=i) (by rw[hl.len];omega) hv.symm
     have hm:=hl.lo i;have hc:=hl.lo.carry i;have g1: ∀ _:True,(aq .i64 l).getD i .u= .v (.i .i64 (l.getD i 0:Nat)):=fun _=>cH (by rw[hl.len];omega)
     have g2: ∀ _:True,IntKind.i64.wrap (((l.getD i 0:Nat):Int)+((le (l.take i)/256^i:Nat):Int))=((le (l.take i)/256^i+l.getD i 0:Nat):Int):=fun _=>by
      have hs:le (l.take i)/256^i+l.getD i 0<=65025*(a.length+1)+65025*(a.length+1):=Nat.add_le_add hc hm;rw[<-Int.natCast_add,fT];generalize le (l.take i)/256^i+l.getD i 0=z at hs⊢;rw[IntWalk.i64_in _ oO]
     clear e1 e2 hm hc;refine fx (aN @l1 (aN (g1 trivial) (aN (g2 trivial) @hb))) ?_;obtain⟨e1,e2⟩:=rj (l:=l) (i:=i) (by rw[hl.len];omega) hv.symm
     have hs:le (l.take (i+1))/256^(i+1)<=65025*(a.length+1):=hl.lo.carry (i+1);have hw:IntKind.i64.wrap ((le (l.take (i+1))/256^(i+1):Nat):Int)=((le (l.take (i+1))/256^(i+1):Nat):Int):=by
      generalize le (l.take (i+1))/256^(i+1)=z at hs⊢;rw[IntWalk.i64_in _ oO]
     refine hR (i+1) oO oO _ ?_;rw[e2,hw,show((n:Int)-1-i).toNat=n-1-i by omega,qZ (c:=UInt8.ofNat (T/256^i)) oO (by rw[j4,gG,gG];exact congrArg _ oO),gi hlt]
     (refine AS.Le.of (by first|decide|omega) ?_ ?_<;>simp[dM,dL,aK,aj,AV.bd,AV.bd.bdL,u8,ai,ak,ar])
     all_goals rfl
    ·obtain rfl:i=n:=by omega
     have:=oU (be i T) (by rw[cj];omega)
     have hl':(be i T).length=i:=cj _ _;repeat' first|simp only[go_sem,seval,hl',eE,List.replicate_zero]|(refine fZ this rfl rfl hl'.symm ?_)|refine sB ?_|apply xX<;>intro hc|refine⟨oD,?_⟩|exact oD|fail
     rw[ji hTl]
end Go.Proofs.YtfdjchnefpefbaaGreatDoor
