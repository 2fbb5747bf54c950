/- Part of the proof. -/
import Derived.Test.YtipbhapfacgabaaGreatDoorUH20
set_option linter.all false
set_option maxHeartbeats 8000000
set_option maxRecDepth 100000
namespace Go.Proofs.Tryz
open Go Go.Dom
theorem aQ (a:Bytes):aF 23 [.s a] (.b (aa a)):=by
 rw[uY];refine eW call23 func23 ?_;repeat' first|simp only[go_sem,seval]|refine oE ?_|apply xX<;>intro hc
 all_goals simp_all
 all_goals first|omega|(cases a<;>simp_all)
theorem Hn (l:Bytes) {i:Nat} (hi:i<l.length) (h:l.getD i 0=0):iJ (l.drop i)=iJ (l.drop (i+1)):=by
 rw[jL hi,iJ,ah (by rw[<-h,bR,bG hi];rfl)]
theorem Ho (l:Bytes) {i:Nat} (hi:i<l.length) (h:l.getD i 0≠0):iJ (l.drop i)=l.drop i:=by
 rw[jL hi,iJ,af (by rw[bR,bG hi]at h;exact h)]
theorem pY (l:Bytes) (hl:l.length<4611686018427387904):aF 79 [.sl (l.map u8)] (.s (iJ l)):=by
 refine eW call79 func79 ?_;simp only[go_sem,seval];refine aq (α:=Nat) (fun i=>l.length-i) (fun i=>⟨[(0, .v (.sl (l.map u8))),(3, .v (.i .i64 i))],[],_⟩) (fun i=>i<=l.length/\iJ (l.drop i)=iJ l) 0 (fun _=>aB _) ⟨aT _,rfl⟩ ?_ ?_
 ·exact lE
 ·rintro i ⟨hi,hx⟩ R hR
  by_cases hlt:i<l.length
  ·have e1:=QI hlt
   by_cases h0:l.getD i 0=0
   ·have e2: ∀ _:True,(((l.getD i 0).toNat:Int)==0)=true:=fun _=>by rw[h0];rfl
    refine eJ (aN @e1 (e2 oT)) ?_;refine hR (i+1) ⟨oO,by rw[<-hx,Hn l hlt h0]⟩ oO _ ?_
    exact lE
   ·have e2: ∀ _:True,(((l.getD i 0).toNat:Int)==0)=false:=fun _=>by
     rw[dY];intro e;exact h0 (u8z e)
    rw[<-hx,Ho l hlt h0];refine eJ (aN @e1 (e2 oT)) ?_;refine⟨⟨oO,fun x hx=>xV hx⟩,fun y hy=>uE (pd hy),?_⟩
    rw[<-tW,xS]
  ·obtain rfl:i=l.length:=oO;rw[<-hx];refine xy ?_;refine⟨⟨oO,fun x hx=>xV hx⟩,fun y hy=>uE (pd hy),?_⟩
   rw[<-tW,xS,dO];rfl
theorem oN (n:Nat) (hn:n<18446744073709551616):aF 28 [.i .u64 n] (.s (aZ n)):=by
 refine eW call28 func28 ?_;refine Hw ?_;refine aq (α:=Nat) (fun i=>8-i) (fun i=>⟨[(0, .v (.i .u64 (n/256^i:Nat))),(3, .rs 1001 0 0 8 1),(4, .v (.i .i64 (7-(i:Int))))],[(1001,⟨0,aH (List.replicate (8-i) 0++be i n),false,none⟩)],_⟩) (fun i=>i<=8) 0 (fun _=>aB _) (aT _) ?_ ?_
 ·(refine AS.Le.of (by first|decide|omega) ?_ ?_<;>simp[dG,dF,aO,hget,AV.bd,AV.bd.bdL,u8,ar,au,az])
  all_goals rfl
 ·intro i hi R hR;have hl:(List.replicate (8-i) (0:UInt8)++be i n).length=8:=by simp[cA];omega
  have hle:n/256^i<=n:=fF _ _
  by_cases hlt:i<8
  ·have e2: ∀ _:True,((7:Int)-i).toNat=8-1-i:=fun _=>oO
   have e3: ∀ _:True,n/256^i/256=n/256^(i+1):=fun _=>by rw[fj,<-Nat.pow_succ]
   have hle2:n/256^(i+1)<=n:=fF _ _;have e4: ∀ _:True,IntKind.u64.wrap ((n/256^(i+1):Nat):Int)=((n/256^(i+1):Nat):Int):=fun _=>by
    generalize n/256^(i+1)=z at hle2⊢;exact IntWalk.u64_in _ oO
   refine eJ (aN @hl (aN (e3 oT) (e4 oT))) ?_;refine hR (i+1) oO oO _ ?_;rw[e2 oT,sj (c:=UInt8.ofNat (n/256^i)) oO (by rw[kK,iK,iK,dN]),iE hlt]
   (refine AS.Le.of (by first|decide|omega) ?_ ?_<;>simp[dG,dF,aO,hget,AV.bd,AV.bd.bdL,u8,ar,au,az])
   all_goals first|omega|rfl|skip
  ·obtain rfl:i=8:=oO;have:=pY (be 8 n) (by rw[cA];decide)
   have hl:(be 8 n).length=8:=cA 8 n;repeat' first|simp only[go_sem,seval,hl]|(refine iD this rfl rfl hl.symm ?_)|refine oE ?_|apply xX<;>intro hc
   rw[jK oO]
theorem sO (a:Bytes) (hl:a.length<=8):aF 27 [.s a] (.i .u64 (num a)):=by
 refine eW call27 func27 ?_;refine Hw ?_;refine aq (α:=Nat) (fun i=>a.length-i) (fun i=>⟨[(0, .v (.s a)),(3, .v (.i .u64 (num (a.take i)))),(4, .v (.i .i64 i))],[],_⟩) (fun i=>i<=a.length) 0 (fun _=>aB _) (aT _) ?_ ?_
 ·(refine AS.Le.of (by first|decide|omega) ?_ ?_<;>simp[dG,dF,aO,hget,AV.bd,AV.bd.bdL,u8,ar,au,az])
  all_goals rfl
 ·intro i hi R hR
  by_cases hlt:i<a.length
  ·have h1:=kH hlt;have h2:=cu (a.take (i+1));have h3:(256:Nat)^(a.take (i+1)).length<=256^8:=cW oC (by simp;omega)
   refine xy ?_;refine hR (i+1) oO oO _ ?_;rw[h1]
   (refine AS.Le.of (by first|decide|omega) ?_ ?_<;>simp[dG,dF,aO,hget,AV.bd,AV.bd.bdL,u8,ar,au,az])
   all_goals first|omega|rfl|skip
  ·obtain rfl:i=a.length:=oO;rw[cq];exact z0
theorem nX {a b:Bytes} (ha:Canon a) (hb:Canon b) (la:a.length<4611686018427387904) (lb:b.length<4611686018427387904):aF 113 [.s a, .s b] (E (bK (num a) (num b))):=by
 by_cases h1:a.length<b.length
 ·have:=iP (a:=a) hb h1;have e:bK (num a) (num b)= -1:=by simp[bK,this]
  rw[e];refine eW call113 func113 ?_;exact z0
 by_cases h2:b.length<a.length
 ·have:=iP (a:=b) ha h2;have e:bK (num a) (num b)=1:=by unfold bK;rw[af oO,ah this]
  rw[e];refine eW call113 func113 ?_;exact z0
 have hl:a.length=b.length:=oO;rw[<-j7 hl];refine eW call113 func113 ?_;refine Hw ?_;refine aq (α:=Nat) (fun i=>a.length-i) (fun i=>⟨[(0, .v (.s a)),(1, .v (.s b)),(5, .v (.i .i64 i))],[],_⟩) (fun i=>i<=a.length/\Lib.compareBytes (a.drop i) (b.drop i)=Lib.compareBytes a b) 0 (fun _=>aB _) ⟨aT _,rfl⟩ ?_ ?_
 ·exact lE
 ·rintro i ⟨hi,hx⟩ R hR
  by_cases hlt:i<a.length
  ·have d1:a.drop i=a.getD i 0::a.drop (i+1):=by rw[jL hlt,bR,bG hlt];rfl
   have hltb:i<b.length:=oO;have d2:b.drop i=b.getD i 0::b.drop (i+1):=by rw[jL hltb,bR,bG hltb];rfl
   have hgo:=hR (i+1);rw[<-hx]at hgo⊢;rw[d1,d2]at hgo⊢;simp only[Lib.compareBytes]at hgo⊢;clear d1 d2 hx hR;have e1:a.getD i 0<b.getD i 0↔(a.getD i 0).toNat<(b.getD i 0).toNat:=xc;have e2:b.getD i 0<a.getD i 0↔(b.getD i 0).toNat<(a.getD i 0).toNat:=xc;simp only[e1,e2]at hgo⊢;obtain⟨x,hx⟩: ∃x,x=a.getD i 0:=⟨_,rfl⟩;obtain⟨y,hy⟩: ∃y,y=b.getD i 0:=⟨_,rfl⟩;rw[<-hx,<-hy]at hgo⊢;clear e1 e2;repeat' first|simp only[go_sem,seval,<-hx,<-hy]|refine oE ?_|apply xX<;>intro hc
   ·refine hgo ⟨oO,?_⟩ oO _ ?_
    ·rw[af oO,af oO]
    ·exact lE
   ·rw[ah oO]
   ·rw[af oO,ah oO]
  ·obtain rfl:i=a.length:=oO;refine xy ?_;rw[<-hx,dO,hl,dO];rfl
theorem wJ (a b:Bytes):aF 117 [.s a, .s b] (E (if aa a&&aa b then bK (num a) (num b)else 0)):=by
 by_cases h:aa a=true/\aa b=true
 case neg=>
  refine eW call117 func117 ?_;repeat' first|simp only[go_sem,seval]|refine cP (aQ _) ?_|refine oE ?_|apply xX<;>intro hc
  all_goals simp_all
 have la:=eu h.1;have lb:=eu h.2;have ho:=nX (bY h.1) (bY h.2) oO oO;refine eW call117 func117 ?_;repeat' first|simp only[go_sem,seval]|refine cP (aQ _) ?_|refine cP ho ?_|refine oE ?_|apply xX<;>intro hc
 all_goals simp_all
theorem rI (a:Bytes) (i:Nat) (ha:a.length<4611686018427387904):aF 148 [.s a,E i] (E ((num a/256^i%256:Nat):Int)):=by
 refine eW call148 func148 ?_;repeat' first|simp only[go_sem,seval]|refine oE ?_|apply xX<;>intro hc
 ·rw[rD a oO];rfl
 ·have h:=uJ a (i:=i) oO;rw[<-h,show((a.length:Int)-1-(i:Int)).toNat=a.length-1-i by omega]
  have:=(a.getD (a.length-1-i) 0).toNat_lt;rw[IntWalk.i64_in _ oO]
theorem Oc (a b:Bytes) (la:a.length<1099511627776) (lb:b.length<1099511627776):aF 211 [.s a, .s b] (.s (aZ (num a+num b))):=by
 have hmax:(if(b.length:Int)>(a.length:Int)then(b.length:Int)else(a.length:Int))=((max a.length b.length:Nat):Int):=by
  split<;>omega
 obtain⟨n,hn⟩: ∃n,n=max a.length b.length+1:=⟨_,rfl⟩;have hn2:((max a.length b.length:Nat):Int)+1=(n:Int):=oO;refine eW call211 func211 ?_;refine fq (aN @hmax (aN @hn2 @nA)) ?_;refine aq (α:=Nat) (fun i=>n-i) (fun i=>⟨[(0, .v (.s a)),(1, .v (.s b)),(5, .v (.i .i64 n)),(6, .rs 1009 0 0 n 1),(7, .v (.i .i64 (carry (num a) (num b) (256^i)))),(8, .v (.i .i64 i))],[(1009,⟨0,aH (List.replicate (n-i) 0++be i (num a+num b)),false,none⟩)],_⟩) (fun i=>i<=n) 0 (fun _=>aB _) (aT _) ?_ ?_
 ·(refine AS.Le.of (by first|decide|omega) ?_ ?_<;>simp[dG,dF,aO,hget,AV.bd,AV.bd.bdL,u8,ar,au,az])
  ·simp[carry,lK]
  ·simp[be]
 ·intro i hi R hR;have hl:=oF n i (num a+num b) hi;have hp:=jn i;have hc1:=Ed (num a) (num b) hp
  by_cases hlt:i<n
  ·have e0: ∀ _:True,((num a/256^i%256:Nat):Int)+((num b/256^i%256:Nat):Int)+((carry (num a) (num b) (256^i):Nat):Int)=((carry (num a) (num b) (256^i)+(num a/256^i%256+num b/256^i%256):Nat):Int):=fun _=>oO
   repeat' first|simp only[go_sem,seval,hl,e0 oT]|refine cP (rI a i oO) ?_|refine cP (rI b i oO) ?_|refine oE ?_|apply xX<;>intro hc
   refine hR (i+1) oO oO _ ?_;have e2:((n:Int)-1-i).toNat=n-1-i:=oO;rw[e2,sj (c:=UInt8.ofNat ((num a+num b)/256^i)) oO (by rw[kK,<-xT _ _ hp,iK,iK,dN]),iE hlt,xU _ _ hp,<-Nat.pow_succ]
   (refine AS.Le.of (by first|decide|omega) ?_ ?_<;>simp[dG,dF,aO,hget,AV.bd,AV.bd.bdL,u8,ar,au,az])
   all_goals first|omega|rfl|skip
  ·obtain rfl:i=n:=oO;have:=pY (be i (num a+num b)) (by rw[cA];omega)
   have hl:(be i (num a+num b)).length=i:=cA _ _;repeat' first|simp only[go_sem,seval,hl,iX,List.replicate_zero]|(refine iD this rfl rfl hl.symm ?_)|refine oE ?_|apply xX<;>intro hc
   have h1:num a+num b<256^i:=by
    have g1:=cu a;have g2:=cu b;have p1:256^a.length<=256^(i-1):=cW oC oO;have p2:256^b.length<=256^(i-1):=cW oC oO;have p3:256^i=256^(i-1)*256:=by rw[<-Nat.pow_succ];congr 1;omega
    omega
   rw[jK h1]
theorem uP (a b:Bytes) (la:a.length<1099511627776) (lb:b.length<1099511627776) (h:num b<=num a):aF 115 [.s a, .s b] (.s (aZ (num a-num b))):=by
 obtain⟨n,hn⟩: ∃n,n=a.length:=⟨_,rfl⟩;refine eW call115 func115 ?_;simp only[go_sem,seval,<-hn];repeat' first|simp only[go_sem,seval,<-hn,nA]|refine oE ?_|apply xX<;>intro hc
 refine aq (α:=Nat) (fun i=>n-i) (fun i=>⟨[(0, .v (.s a)),(1, .v (.s b)),(5, .v (.i .i64 n)),(6, .rs 1005 0 0 n 1),(7, .v (.i .i64 (borrow (num a) (num b) (256^i)))),(8, .v (.i .i64 i))],[(1005,⟨0,aH (List.replicate (n-i) 0++be i (num a-num b)),false,none⟩)],_⟩) (fun i=>i<=n) 0 (fun _=>aB _) (aT _) ?_ ?_
 ·(refine AS.Le.of (by first|decide|omega) ?_ ?_<;>simp[dG,dF,aO,hget,AV.bd,AV.bd.bdL,u8,ar,au,az])
  ·simp[borrow,lK]
  ·simp[be]
 ·intro i hi R hR;have hl:=oF n i (num a-num b) hi;have hp:=jn i;have hc1:=AE (num a) (num b) (256^i);have hb1:=vf (num a) (num b) hp;have hb2:=u9 (num a) (num b) hp h;have e2:((n:Int)-1-i).toNat=n-1-i:=oO
  by_cases hlt:i<n
  ·repeat' first|simp only[go_sem,seval,hl]|refine cP (rI a i oO) ?_|refine cP (rI b i oO) ?_|refine oE ?_|apply xX<;>intro hc
   ·refine hR (i+1) oO oO _ ?_;rw[e2,sj (c:=UInt8.ofNat ((num a-num b)/256^i)) oO (by rw[Wi,iK,<-hb2 _ rfl];omega),iE hlt]
    (refine AS.Le.of (by first|decide|omega) ?_ ?_<;>simp[dG,dF,aO,hget,AV.bd,AV.bd.bdL,u8,ar,au,az])
    ·rw[Nat.pow_succ,hb1,ah hc];rfl
    ·rfl
   ·refine hR (i+1) oO oO _ ?_;rw[e2,sj (c:=UInt8.ofNat ((num a-num b)/256^i)) oO (by rw[Wi,iK,<-hb2 _ rfl]),iE hlt]
    (refine AS.Le.of (by first|decide|omega) ?_ ?_<;>simp[dG,dF,aO,hget,AV.bd,AV.bd.bdL,u8,ar,au,az])
    ·rw[Nat.pow_succ,hb1,af hc];rfl
    ·rfl
  ·obtain rfl:i=n:=oO;have:=pY (be i (num a-num b)) (by rw[cA];omega)
   have hl:(be i (num a-num b)).length=i:=cA _ _;repeat' first|simp only[go_sem,seval,hl,iX,List.replicate_zero]|(refine iD this rfl rfl hl.symm ?_)|refine oE ?_|apply xX<;>intro hc
   have h1:num a-num b<256^i:=by have:=cu a;rw[hn];omega
   rw[jK h1]
end Go.Proofs.Tryz
namespace Go.Proofs.Tryz
open Go Go.Dom
theorem KQ (a b:Bytes) (la:a.length<1048576) (lb:b.length<1048576):aF 77 [.s a, .s b] (.s (aZ (num a*num b))):=by
 obtain⟨n,hn⟩: ∃n,n=a.length+b.length:=⟨_,rfl⟩;have hn':((a.length:Int)+(b.length:Int))=(n:Int):=oO;have hmul:num a*num b<256^n:=by rw[hn,cF];exact gK (cu a) (cu b)
 by_cases h8:n<=8
 ·have hu1:=sO a oO;have hu2:=sO b oO;have hp:num a*num b<(2^64):=ba hmul (cW oC h8);have ho:=oN (num a*num b) hp;have hw: ∀ _:True,IntKind.u64.wrap ((num a:Int)*(num b:Int))=((num a*num b:Nat):Int):=fun _=>by
   rw[<-Int.natCast_mul,IntWalk.u64_in _ oO]
  clear hmul;refine eW call77 func77 ?_;exact zW (aN @hn' (hw oT)) @hu1 @hu2 @ho oT
 have hcz: ∀m:Nat,(List.replicate m [AV.v (PV.i IntKind.i64 0)]).flatten=aE .i64 (List.replicate m 0):=by
  intro m
  induction m with
  |zero=>rfl
  |succ m ih=>rw[List.replicate_succ,List.flatten_cons,ih,List.replicate_succ];rfl
 have hw1: ∀ _:True,((n:Int)+1)=((n+1:Nat):Int):=fun _=>rfl
 refine eW call77 func77 ?_;refine fq (aN @hn' (aN @nA (aN (hw1 oT) @hcz))) ?_;refine aq (α:=Nat×List Nat) (fun x=>a.length-x.1) (fun x=>⟨[(0, .v (.s a)),(1, .v (.s b)),(5,E' n),(6, .rs 1015 0 0 (n+1) 1),(7, .v (.i .i64 x.1))],[(1015,⟨0,aE .i64 x.2,false,none⟩)],_⟩) (fun x=>x.1<=a.length/\vT (n+1) (num a) (num b) x.1 0 x.2) (0,List.replicate (n+1) 0) (fun _=>aB _) ⟨aT _, .start _ _ _⟩ ?_ ?_
 ·(refine AS.Le.of (by first|decide|omega) ?_ ?_<;>simp[dG,dF,aO,hget,AV.bd,AV.bd.bdL,u8,ar,au,az])
  all_goals skip
 ·rintro⟨i,l⟩ ⟨hi,hl⟩ R hR;simp only at hi hl;have l1:(aE .i64 l).length=n+1:=by rw[bE,hl.len]
  by_cases hlt:i<a.length
  ·refine fq @l1 ?_;refine aq (α:=Nat×List Nat) (fun x=>b.length-x.1) (fun x=>⟨[(0, .v (.s a)),(1, .v (.s b)),(5,E' n),(6, .rs 1015 0 0 (n+1) 1),(7,E' i),(8,E' x.1)],[(1015,⟨0,aE .i64 x.2,false,none⟩)],_⟩) (fun x=>x.1<=b.length/\vT (n+1) (num a) (num b) i x.1 x.2) (0,l) (fun _=>aB _) ⟨aT _,hl⟩ ?_ ?_
   ·exact lE
   ·rintro⟨k,m⟩ ⟨hk,hm⟩ R' hR';simp only at hk hm;have m1:(aE .i64 m).length=n+1:=by rw[bE,hm.len]
    by_cases hklt:k<b.length
    ·obtain⟨x,hx⟩: ∃x,x=num a/256^i%256:=⟨_,rfl⟩;obtain⟨y,hy⟩: ∃y,y=num b/256^k%256:=⟨_,rfl⟩;have hst:=hm.step oO;rw[<-hx,<-hy]at hst;have hxy:x*y<=65025:=jq (by omega:x<=255) (by omega:y<=255)
     have hc:=hm.hi (i+k) (aB _);have g1: ∀ _:True,(aE .i64 m).getD ((i:Int)+(k:Int)).toNat .u= .v (.i .i64 (m.getD (i+k) 0:Nat)):=fun _=>by
      rw[show((i:Int)+(k:Int)).toNat=i+k by omega,dy (by rw[hm.len];omega)]
     have g2: ∀ _:True,IntKind.i64.wrap ((x:Int)*(y:Int))=((x*y:Nat):Int):=fun _=>by
      rw[<-Int.natCast_mul,IntWalk.i64_in _ oO]
     have g3: ∀ _:True,IntKind.i64.wrap (((m.getD (i+k) 0:Nat):Int)+((x*y:Nat):Int))=((m.getD (i+k) 0+x*y:Nat):Int):=fun _=>by
      rw[<-Int.natCast_add,IntWalk.i64_in _ oO]
     have hd1:=rI a i oO;have hd:=rI b k oO;rw[<-hy]at hd;rw[<-hx]at hd1;clear hy hxy hx;refine zS (aN @m1 (aN (g1 oT) (aN (g2 oT) (g3 oT)))) @hd1 @hd ?_;refine hR' (k+1,m.set (i+k) (m.getD (i+k) 0+x*y)) ⟨by show k+1<= _;omega,hst⟩ (by show b.length-(k+1)<b.length-k;omega) _ ?_
     rw[show((i:Int)+(k:Int)).toNat=i+k by omega,fg (by rw[hm.len];omega) rfl]
     exact lE
    ·obtain rfl:k=b.length:=oO;refine xy ?_;refine hR (i+1,m) ⟨by show i+1<= _;omega,hm.row (cu b)⟩ (by show a.length-(i+1)<a.length-i;omega) _ ?_
     exact lE
  ·obtain rfl:i=a.length:=oO;refine eJ (aN @l1 @nA) ?_;have hv:=hl.v;have ha:=cu a;rw[bM ha]at hv;simp only[Nat.pow_zero,lK,Nat.mul_zero,tO,Nat.add_zero]at hv;obtain⟨T,hT⟩: ∃T,T=num a*num b:=⟨_,rfl⟩;rw[<-hT]at hv;have hTl:T<256^n:=by rw[hT];exact hmul
   rw[<-hT];refine aq (α:=Nat) (fun i=>n-i) (fun i=>⟨[(5,E' n),(6, .rs 1015 0 0 (n+1) 1),(9, .rs 1023 0 0 n 1),(10,E' (le (l.take i)/256^i)),(11,E' i)],[(1015,⟨0,aE .i64 l,false,none⟩),(1023,⟨0,aH (List.replicate (n-i) 0++be i T),false,none⟩)],_⟩) (fun i=>i<=n) 0 (fun _=>aB _) (aT _) ?_ ?_
   ·(refine AS.Le.of (by first|decide|omega) ?_ ?_<;>simp[dG,dF,aO,hget,AV.bd,AV.bd.bdL,u8,ar,au,az])
    all_goals first|rfl|simp[le,be]
   ·intro i hi R hR;have hb:=oF n i T hi
    by_cases hlt:i<n
    ·obtain⟨e1,e2⟩:=sy (l:=l) (i:=i) (by rw[hl.len];omega) hv.symm
     have hm:=hl.lo i;have hc:=hl.lo.carry i;have g1: ∀ _:True,(aE .i64 l).getD i .u= .v (.i .i64 (l.getD i 0:Nat)):=fun _=>dy (by rw[hl.len];omega)
     have g2: ∀ _:True,IntKind.i64.wrap (((l.getD i 0:Nat):Int)+((le (l.take i)/256^i:Nat):Int))=((le (l.take i)/256^i+l.getD i 0:Nat):Int):=fun _=>by
      have hs:le (l.take i)/256^i+l.getD i 0<=65025*(a.length+1)+65025*(a.length+1):=Nat.add_le_add hc hm;rw[<-Int.natCast_add,gJ];generalize le (l.take i)/256^i+l.getD i 0=z at hs⊢;rw[IntWalk.i64_in _ oO]
     clear e1 e2 hm hc;refine eJ (aN @l1 (aN (g1 oT) (aN (g2 oT) @hb))) ?_;obtain⟨e1,e2⟩:=sy (l:=l) (i:=i) (by rw[hl.len];omega) hv.symm
     have hs:le (l.take (i+1))/256^(i+1)<=65025*(a.length+1):=hl.lo.carry (i+1);have hw:IntKind.i64.wrap ((le (l.take (i+1))/256^(i+1):Nat):Int)=((le (l.take (i+1))/256^(i+1):Nat):Int):=by
      generalize le (l.take (i+1))/256^(i+1)=z at hs⊢;rw[IntWalk.i64_in _ oO]
     refine hR (i+1) oO oO _ ?_;rw[e2,hw,show((n:Int)-1-i).toNat=n-1-i by omega,sj (c:=UInt8.ofNat (T/256^i)) oO (by rw[kK,iK,iK];exact congrArg _ oO),iE hlt]
     (refine AS.Le.of (by first|decide|omega) ?_ ?_<;>simp[dG,dF,aO,hget,AV.bd,AV.bd.bdL,u8,ar,au,az])
     all_goals rfl
    ·obtain rfl:i=n:=oO;have:=pY (be i T) (by rw[cA];omega)
     have hl':(be i T).length=i:=cA _ _;repeat' first|simp only[go_sem,seval,hl',iX,List.replicate_zero]|(refine iD this rfl rfl hl'.symm ?_)|refine oE ?_|apply xX<;>intro hc
     rw[jK hTl]
