/-
  Part of the proof, part KR20. Own work.
-/
import Derived.Test.YtmobkhegihemeaaGreatDoorKR18
import Derived.Test.YtmobkhegihemeaaGreatDoorKR19
import Derived.Lib.TrailingZeros
set_option linter.all false
namespace Go.Proofs.YtmobkhegihemeaaGreatDoor
open Go Go.Dom
set_option maxRecDepth 100000
theorem fI (n:Nat) (hn:n<18446744073709551616):aB Tryz.prog 31 [.i .u64 n] (.s (aK n)):=by
 refine eW Tryz.call31 Tryz.func31 ?_;simp only[go_sem,seval];refine aj (α:=Nat) (fun i=>8-i) (fun i=>⟨[(0, .v (.i .u64 n)),(3, .p 1001 0 0),(5, .v (.i .i64 i))],[(1001,⟨0,ay (List.replicate (8-i) 0++be i n),false,some 138⟩)],1003⟩) (fun i=>i≤8) 0 (fun _=>Nat.le_refl _) (Nat.zero_le _) ?_ ?_
 ·(refine AS.Le.of (by first|decide|omega) ?_ ?_<;>simp[bL,bK,aD,ai,AV.bd,AV.bd.bdL,u8,af,ah,ak]);rfl
 ·intro i hi R hR;have hl:(List.replicate (8-i) (0:UInt8)++be i n).length=8:=by simp[cd];omega
  by_cases hlt:i<8
  ·repeat' first|simp only[go_sem,seval,hl]|refine sB ?_|(first|apply pX|apply bX)<;>intro hc|refine⟨oD,?_⟩|exact oD|fail
   refine hR (i+1) (by omega) (by omega) _ ?_
   have e1:(8*(i:Int)).toNat=8*i:=by omega
   have e2:((7:Int)-i).toNat=8-1-i:=by omega
   have e3:IntKind.u8.wrap ((n/2^(8*i):Nat):Int)=((UInt8.ofNat (n/256^i)).toNat:Int):=by
    rw[kD,Nat.pow_mul]
   rw[e1,e2,if_pos (by omega),vR (by omega) e3,gT hlt]
   (refine AS.Le.of (by first|decide|omega) ?_ ?_<;>simp[bL,bK,aD,ai,AV.bd,AV.bd.bdL,u8,af,ah,ak]);rfl
  ·obtain rfl:i=8:=by omega
   have:=fB (be 8 n);have hl:(be 8 n).length=8:=cd 8 n;repeat' first|simp only[go_sem,seval,hl]|(refine gN this rfl rfl hl.symm ?_)|refine sB ?_|(first|apply pX|apply bX)<;>intro hc|refine⟨oD,?_⟩|exact oD|fail
   rw[jD (by omega)]
def dt:Nat:=256^128
theorem ux {n:Nat}:(aK n).length≤128↔n<dt:=kf
def DG (a b:Bytes):Bytes×Int:=if aa a&&aa b then(if num a+num b<dt then(aK (num a+num b),0)else([],5))else([],3)
theorem pF (n:Nat):(List.replicate n [AV.v (PV.i IntKind.u8 0)]).flatten=ay (List.replicate n 0):=by
 induction n with
 |zero=>rfl
 |succ n ih=>simp[List.replicate_succ,ay,u8]at ih⊢
theorem oT (n i x:Nat) (h:i≤n):(List.replicate (n-i) (0:UInt8)++be i x).length=n:=by simp[cd];omega
theorem KR (a b:Bytes):aB Tryz.prog 95 [.s a, .s b] (.tup [.s (DG a b).1,E (DG a b).2]):=by
 have hmax:(if(b.length:Int)>(a.length:Int)then(b.length:Int)else(a.length:Int))=((max a.length b.length:Nat):Int):=by
  split<;>omega
 by_cases hv:aa a=true∧aa b=true
 case neg=>
  refine eW Tryz.call95 Tryz.func95 ?_;repeat' first|simp only[go_sem,seval]|refine cP (aF _) ?_|refine sB ?_|(first|apply pX|apply bX)<;>intro hc|refine⟨oD,?_⟩|exact oD|fail
  all_goals simp_all[DG]
 obtain⟨hva,hvb⟩:=hv;have la:=dE hva;have lb:=dE hvb;obtain⟨n,hn⟩: ∃n,n=max a.length b.length+1:=⟨_,rfl⟩;have hn2:((max a.length b.length:Nat):Int)+1=(n:Int):=by omega
 refine eW Tryz.call95 Tryz.func95 ?_;repeat' first|simp only[go_sem,seval,hmax,hn2,pF]|refine cP (aF _) ?_|refine sB ?_|(first|apply pX|apply bX)<;>intro hc|refine⟨oD,?_⟩|exact oD|fail
 refine aj (α:=Nat) (fun i=>n-i) (fun i=>⟨[(0, .v (.s a)),(1, .v (.s b)),(6, .v (.i .i64 n)),(7, .rs 1018 0 0 n 1),(8, .v (.i .i64 (carry (num a) (num b) (256^i)))),(26, .v (.i .i64 n)),(27, .v (.i .i64 i))],[(1018,⟨0,ay (List.replicate (n-i) 0++be i (num a+num b)),false,none⟩)],1023⟩) (fun i=>i≤n) 0 (fun _=>Nat.le_refl _) (Nat.zero_le _) ?_ ?_
 ·(refine AS.Le.of (by first|decide|omega) ?_ ?_<;>simp[bL,bK,aD,ai,AV.bd,AV.bd.bdL,u8,af,ah,ak])
  ·simp[carry,Nat.mod_one]
  ·simp[be]
 ·intro i hi R hR;have hl:=oT n i (num a+num b) hi;have hp:=jw i;have hc1:=Ed (num a) (num b) hp
  by_cases hlt:i<n
  ·repeat' first|simp only[go_sem,seval,hl]|(refine cW (fM a i (by omega)) rfl ?_)|(refine cW (fM b i (by omega)) rfl ?_)|refine sB ?_|(first|apply pX|apply bX)<;>intro hc|refine⟨oD,?_⟩|exact oD|fail
   refine hR (i+1) (by omega) (by omega) _ ?_
   have e2:((n:Int)-1-i).toNat=n-1-i:=by omega
   have e0:((carry (num a) (num b) (256^i):Nat):Int)+(((num a/256^i%256:Nat):Int)+((num b/256^i%256:Nat):Int))=((carry (num a) (num b) (256^i)+(num a/256^i%256+num b/256^i%256):Nat):Int):=by omega
   rw[e0,e2,vR (by omega) ((kD _).trans (by rw[yE _ _ hp])),gT hlt,show(256:Int)=((256:Nat):Int)from rfl,tY,yF _ _ hp,←Nat.pow_succ]
   (refine AS.Le.of (by first|decide|omega) ?_ ?_<;>simp[bL,bK,aD,ai,AV.bd,AV.bd.bdL,u8,af,ah,ak]);rfl
  ·obtain rfl:i=n:=by omega
   have:=fB (be i (num a+num b));have hl:(be i (num a+num b)).length=i:=cd _ _;repeat' first|simp only[go_sem,seval,hl,Nat.sub_self,List.replicate_zero]|(refine gN this rfl rfl hl.symm ?_)|refine cP (kU _) ?_|refine sB ?_|(first|apply pX|apply bX)<;>intro hc|refine⟨oD,?_⟩|exact oD|fail
   have h1:num a+num b<256^i:=by
    have g1:=bR a;have g2:=bR b;have p1:256^a.length≤256^(i-1):=Nat.pow_le_pow_right (by decide) (by omega)
    have p2:256^b.length≤256^(i-1):=Nat.pow_le_pow_right (by decide) (by omega)
    have p3:256^i=256^(i-1)*256:=by rw[←Nat.pow_succ];congr 1;omega
    omega
   rw[jD h1];simp only[ux,DG,hva,hvb,Bool.and_self,if_true]
   split<;>simp
theorem IQ (a b:Bytes) (ha:a.length≤128) (hb:b.length≤128) (h:num b≤num a):aB Tryz.prog 146 [.s a, .s b] (.s (aK (num a-num b))):=by
 obtain⟨n,hn⟩: ∃n,n=a.length:=⟨_,rfl⟩;refine eW Tryz.call146 Tryz.func146 ?_;simp only[go_sem,seval,←hn];repeat' first|simp only[go_sem,seval,←hn,pF]|refine sB ?_|(first|apply pX|apply bX)<;>intro hc|refine⟨oD,?_⟩|exact oD|fail
 refine aj (α:=Nat) (fun i=>n-i) (fun i=>⟨[(0, .v (.s a)),(1, .v (.s b)),(5, .v (.i .i64 n)),(6, .rs 1005 0 0 n 1),(7, .v (.i .i64 (borrow (num a) (num b) (256^i)))),(14, .v (.i .i64 n)),(15, .v (.i .i64 i))],[(1005,⟨0,ay (List.replicate (n-i) 0++be i (num a-num b)),false,none⟩)],1010⟩) (fun i=>i≤n) 0 (fun _=>Nat.le_refl _) (Nat.zero_le _) ?_ ?_
 ·(refine AS.Le.of (by first|decide|omega) ?_ ?_<;>simp[bL,bK,aD,ai,AV.bd,AV.bd.bdL,u8,af,ah,ak])
  ·simp[borrow,Nat.mod_one]
  ·simp[be]
 ·intro i hi R hR;have hl:=oT n i (num a-num b) hi;have hp:=jw i;have hc1:=BL (num a) (num b) (256^i);have hb1:=vQ (num a) (num b) hp;have hb2:=vP (num a) (num b) hp h;have e2:((n:Int)-1-i).toNat=n-1-i:=by omega
  by_cases hlt:i<n
  ·repeat' first|simp only[go_sem,seval,hl]|(refine cW (fM a i (by omega)) rfl ?_)|(refine cW (fM b i (by omega)) rfl ?_)|refine sB ?_|(first|apply pX|apply bX)<;>intro hc|refine⟨oD,?_⟩|exact oD|fail
   ·refine hR (i+1) (by omega) (by omega) _ ?_
    rw[e2,vR (c:=UInt8.ofNat ((num a-num b)/256^i)) (by omega) (by rw[Rl,UInt8.toNat_ofNat',←hb2 _ rfl];omega),gT hlt]
    (refine AS.Le.of (by first|decide|omega) ?_ ?_<;>simp[bL,bK,aD,ai,AV.bd,AV.bd.bdL,u8,af,ah,ak])
    ·rw[Nat.pow_succ,hb1,if_pos hc];rfl
    ·rfl
   ·refine hR (i+1) (by omega) (by omega) _ ?_
    rw[e2,vR (c:=UInt8.ofNat ((num a-num b)/256^i)) (by omega) (by rw[Rl,UInt8.toNat_ofNat',←hb2 _ rfl]),gT hlt]
    (refine AS.Le.of (by first|decide|omega) ?_ ?_<;>simp[bL,bK,aD,ai,AV.bd,AV.bd.bdL,u8,af,ah,ak])
    ·rw[Nat.pow_succ,hb1,if_neg hc];rfl
    ·rfl
  ·obtain rfl:i=n:=by omega
   have:=fB (be i (num a-num b));have hl:(be i (num a-num b)).length=i:=cd _ _;repeat' first|simp only[go_sem,seval,hl,Nat.sub_self,List.replicate_zero]|(refine gN this rfl rfl hl.symm ?_)|refine sB ?_|(first|apply pX|apply bX)<;>intro hc|refine⟨oD,?_⟩|exact oD|fail
   have h1:num a-num b<256^i:=by have:=bR a;rw[hn];omega
   rw[jD h1]
def zF (a b:Bytes):Bytes×Int:=if aa a&&aa b then(if num b≤num a then(aK (num a-num b),0)else([],2))else([],3)
theorem fE {a b:Nat}:aT a b<0↔a<b:=by unfold aT;split<;>(try split)<;>omega
theorem Dz (a b:Bytes):aB Tryz.prog 94 [.s a, .s b] (.tup [.s (zF a b).1,E (zF a b).2]):=by
 by_cases hv:aa a=true∧aa b=true
 case neg=>
  refine eW Tryz.call94 Tryz.func94 ?_;repeat' first|simp only[go_sem,seval]|refine cP (aF _) ?_|refine sB ?_|(first|apply pX|apply bX)<;>intro hc|refine⟨oD,?_⟩|exact oD|fail
  all_goals simp_all[zF]
 obtain⟨hva,hvb⟩:=hv;refine eW Tryz.call94 Tryz.func94 ?_;repeat' first|simp only[go_sem,seval]|refine cP (aF _) ?_|refine cP (jn (cl hva) (cl hvb)) ?_|(refine cW (IQ _ _ (dE hva) (dE hvb) (by rw[fE]at hc;omega)) rfl ?_)|refine sB ?_|(first|apply pX|apply bX)<;>intro hc|refine⟨oD,?_⟩|exact oD|fail
 ·rw[fE]at hc;simp[zF,hva,hvb,show¬num b≤num a by omega]
 ·rw[fE]at hc;simp[zF,hva,hvb,show num b≤num a by omega]
end Go.Proofs.YtmobkhegihemeaaGreatDoor
namespace Go.Proofs.YtmobkhegihemeaaGreatDoor
open Go Go.Dom
set_option maxRecDepth 100000
set_option maxHeartbeats 4000000
abbrev U (n:Nat):AV:= .v (.i .u64 n)
structure G2 (hi lo y s Y V u:Nat):Prop where
 hy:0<y
 s64:s<64
 yl:9223372036854775808≤Y
 yh:Y<18446744073709551616
 hY:Y=y*2^s
 hV:V=lo*2^s%18446744073709551616
 hVl:V<18446744073709551616
 hil:u<Y
 eqn:(hi*18446744073709551616+lo)*2^s=u*18446744073709551616+V
 hyy:Y=Y/4294967296*4294967296+Y%4294967296
theorem G2.sub {hi lo y s Y V u:Nat} (D:G2 hi lo y s Y V u) {z:Nat} (hz:z<18446744073709551616):(z+(18446744073709551616-z/(Y/4294967296)*(Y/4294967296)%18446744073709551616))%18446744073709551616=z%(Y/4294967296):=by
 have g1:=Nat.div_add_mod z (Y/4294967296);have g2:=Nat.div_mul_le_self z (Y/4294967296);rw[Nat.mul_comm]at g1;generalize z/(Y/4294967296)*(Y/4294967296)=k at g1 g2⊢;generalize z%(Y/4294967296)=l at g1⊢;omega
theorem G2.quo {hi lo y s Y V u:Nat} (D:G2 hi lo y s Y V u) {z:Nat} (hz:z<18446744073709551616):z/(Y/4294967296)%18446744073709551616=z/(Y/4294967296):=Nat.mod_eq_of_lt (Nat.lt_of_le_of_lt (Nat.div_le_self _ _) hz)
structure pk (Y u t:Nat) (x:Nat×Nat):Prop where
 d:zW 4294967296 Y (Y/4294967296) (Y%4294967296) u t x.1 x.2
 r:x.2<4294967296
 q:x.1<18446744073709551616
theorem pk.start {hi lo y s Y V u:Nat} (D:G2 hi lo y s Y V u) {z t:Nat} (hz:z<Y) (ht:t<4294967296):pk Y z t (z/(Y/4294967296),z%(Y/4294967296)):=by
 have:=D.yl;have:=D.yh;refine⟨zW.start D.hyy (by omega) hz ht,?_,?_⟩
 ·have:=Nat.mod_lt z (y:=Y/4294967296) (by omega)
  show z%(Y/4294967296)< _;omega
 ·show z/(Y/4294967296)< _;exact Nat.lt_of_le_of_lt (Nat.div_le_self _ _) (by omega)
theorem pk.fin {hi lo y s Y V u:Nat} (D:G2 hi lo y s Y V u) {z t q r:Nat} (hz:z<Y) (ht:t<4294967296) (h:pk Y z t (q,r)) (hq:q*(Y%4294967296)≤4294967296*r+t):q=(z*4294967296+t)/Y:=h.d.done D.hyy (by have:=D.yl;omega) hq
theorem pk.go {hi lo y s Y V u:Nat} (D:G2 hi lo y s Y V u) {z t q r:Nat} (hz:z<Y) (ht:t<4294967296) (h:pk Y z t (q,r)) (hq:4294967296≤q∨4294967296*r+t<q*(Y%4294967296)):
  (q+18446744073709551615)%18446744073709551616=q-1∧(r+Y/4294967296)%18446744073709551616=r+Y/4294967296∧q-1<q∧(4294967296≤r+Y/4294967296→q-1=(z*4294967296+t)/Y)∧(r+Y/4294967296<4294967296→pk Y z t (q-1,r+Y/4294967296)):=by
 have h1:=D.yl;have h2:=D.yh;have h3:=h.r;have h4:=h.q;simp only at h3 h4;obtain⟨p1,p2⟩:=h.d.step D.hyy (by omega) hz ht hq
 simp only at p1 p2;exact⟨by omega,by omega,by omega,fun g=>p2.R8 D.hyy (by omega) (by omega) hz g,fun g=>⟨p2,g,by show q-1< _;omega⟩⟩
theorem G2.out {hi lo y s Y V u q1 z q0:Nat} (D:G2 hi lo y s Y V u) (hlo:lo<18446744073709551616) (h:hi<y) (h1:q1=(u*4294967296+V/4294967296)/Y) (hz:z=(u*4294967296+V/4294967296)%Y) (h0:q0=(z*4294967296+V%4294967296)/Y):
  (q1*4294967296%18446744073709551616+q0)%18446744073709551616=(hi*18446744073709551616+lo)/y∧((z*4294967296%18446744073709551616+V%4294967296)%18446744073709551616+(18446744073709551616-q0*Y%18446744073709551616))%18446744073709551616/2^s=(hi*18446744073709551616+lo)%y:=by
 have hy:=D.hy;have yl:=D.yl;have yh:=D.yh;obtain⟨a,b⟩:=whole (N:=hi*18446744073709551616+lo) hy D.hY D.eqn h1 hz h0;have hzl:z<Y:=by rw[hz];exact Nat.mod_lt _ (by omega)
 have hq0:q0<4294967296:=zW.lt (B:=4294967296) (y1:=Y/4294967296) (y0:=Y%4294967296) (by omega) hzl (Nat.mod_lt _ (by decide)) h0
 have hq1:q1<4294967296:=zW.lt (B:=4294967296) (y1:=Y/4294967296) (y0:=Y%4294967296) (by omega) D.hil (by have:=D.hVl;omega) h1
 have hw:=kC (tS h0) (by rw[eN h0];exact Nat.lt_of_lt_of_le (Nat.mod_lt _ (by omega)) (by omega))
 rw[eN h0,Nat.mod_mod]at hw;rw[hw,b,←a];exact⟨by omega,rfl⟩
theorem vC (hi lo y:Nat) (h:hi<y) (hlo:lo<18446744073709551616) (hy:y<18446744073709551616):aB Tryz.prog 211 [.i .u64 hi, .i .u64 lo, .i .u64 y] (.tup [.i .u64 ((hi*18446744073709551616+lo)/y:Nat), .i .u64 ((hi*18446744073709551616+lo)%y:Nat)]):=by
 by_cases h0:hi=0
 ·subst h0;have hq:=Nat.mod_eq_of_lt (Nat.lt_of_le_of_lt (Nat.div_le_self lo y) hlo);refine eW Tryz.call211 Tryz.func211 ?_;repeat' first|simp only[go_sem,seval,uw,hq,Nat.zero_mul]|refine sB ?_|(first|apply pX|apply bX)<;>intro hc|refine⟨oD,?_⟩|exact oD|fail
 have sc:=scaled h hlo hy;obtain⟨s,hs⟩: ∃s,s=64-Lib.bitLen y:=⟨_,rfl⟩;rw[←hs]at sc;have hlz:=lF y hy;rw[←hs]at hlz;obtain⟨s64,yl,yh,hil,eqn,hs1,ol⟩:=sc;obtain⟨Y,hY⟩: ∃Y,Y=y*2^s:=⟨_,rfl⟩;obtain⟨V,hV⟩: ∃V,V=lo*2^s%18446744073709551616:=⟨_,rfl⟩;obtain⟨u,hu⟩: ∃u,u=hi*2^s+lo/2^(64-s):=⟨_,rfl⟩;rw[←hY]at yl yh hil;rw[←hu]at hil eqn;rw[←hV]at eqn;have hVl:V<18446744073709551616:=by rw[hV];exact Nat.mod_lt _ (by decide)
 have D:G2 hi lo y s Y V u:=⟨by omega,s64,yl,yh,hY,hV,hVl,hil,eqn,by omega⟩
 have e1: ∀ _:True,s%18446744073709551616=s:=fun _=>by omega
 have e2: ∀ _:True,Y%18446744073709551616=Y:=fun _=>by omega
 have e3: ∀ _:True,hi*2^s%18446744073709551616=hi*2^s:=fun _=>Nat.mod_eq_of_lt hs1
 have e4: ∀ _:True,(64+(18446744073709551616-s))%18446744073709551616=64-s:=fun _=>by omega
 have e5: ∀ _:True,yU .u64 ((hi*2^s:Nat):Int) ((lo/2^(64-s):Nat):Int)=(u:Int):=fun _=>by
  rw[Mb .u64 rfl hs1 (Nat.lt_of_le_of_lt (Nat.div_le_self _ _) hlo),xd ol,hu]
 have hm1: ∀ _:True,(if s≤64 then s else 64)=s:=fun _=>by split<;>omega
 have hm2: ∀ _:True,(if 64-s≤64 then 64-s else 64)=64-s:=fun _=>by split<;>omega
 have hY': ∀ _:True,y*2^s=Y:=fun _=>hY.symm
 have hV': ∀ _:True,lo*2^s%18446744073709551616=V:=fun _=>hV.symm
 have hr0: ∀ _:True,(u+(18446744073709551616-u/(Y/4294967296)*(Y/4294967296)%18446744073709551616))%18446744073709551616=u%(Y/4294967296):=fun _=>D.sub (by omega)
 have hq0: ∀ _:True,u/(Y/4294967296)%18446744073709551616=u/(Y/4294967296):=fun _=>D.quo (by omega)
 have hy1:Y/4294967296≠0:=by omega
 have h':=h;clear hs hY hV hu eqn hs1 ol hil yl yh hVl s64;refine eW Tryz.call211 Tryz.func211 ?_;simp only[go_sem,seval,uw,rR,mn,qy,zA,vJ,py,uX,q9,qZ,kQ];repeat' first|simp only[go_sem,seval,uw,rR,mn,qy,zA,vJ,py,uX,q9,qZ,kQ,e1 trivial,hm1 trivial,hm2 trivial,hY' trivial,e2 trivial,e3 trivial,e4 trivial,e5 trivial,hV' trivial,hq0 trivial,Nat.mod_mod,hr0 trivial]|refine cP hlz ?_|refine sB ?_|(first|apply pX|apply bX)<;>intro hc|refine⟨oD,?_⟩|exact oD|fail
 clear e1 e2 e3 e4 e5 hm2 hr0 hq0 hlz hY' hV' h0;refine aj (α:=Nat×Nat) (fun x=>x.1) (fun x=>⟨[(2,U Y),(8,U s),(9,U (Y/4294967296)),(10,U (Y%4294967296)),(11,U u),(13,U (V/4294967296)),(14,U (V%4294967296)),(15,U x.1),(16,U x.2)],[],_⟩) (pk Y u (V/4294967296)) (u/(Y/4294967296),u%(Y/4294967296)) (fun _=>Nat.le_refl _) (.start D D.hil (by have:=D.hVl;omega)) ?_ ?_
 ·exact lE
 ·rintro⟨q,r⟩ hd R hR;have f0:=hd.r;simp only at f0;have f1: ∀ _:True,4294967296*r%18446744073709551616=4294967296*r:=fun _=>by omega
  have f2: ∀ _:True,(4294967296*r+V/4294967296)%18446744073709551616=4294967296*r+V/4294967296:=fun _=>by have:=D.hVl;omega
  have f3:q*(Y%4294967296)<4294967296*4294967296∨4294967296≤q:=by
   by_cases g:4294967296≤q
   ·exact .inr g
   ·exact .inl (Nat.mul_lt_mul'' (by omega) (Nat.mod_lt _ (by decide)))
  repeat' first|simp only[go_sem,seval,uw,rR,mn,qy,zA,vJ,py,uX,q9,qZ,kQ,f1 trivial,f2 trivial]|refine sB ?_|(first|apply pX|apply bX)<;>intro hc|refine⟨oD,?_⟩|exact oD|fail
  ·obtain⟨g1,g2,g3,g4,g5⟩:=hd.go D D.hil (by have:=D.hVl;omega) (by omega)
   have hq1:(q-1)=(u*4294967296+V/4294967296)/Y:=g4 (by omega)
   obtain⟨q1,e1⟩: ∃q1,q1=(q-1):=⟨_,rfl⟩;rw[←e1]at hq1;obtain⟨z,hz⟩: ∃z,z=(u*4294967296+V/4294967296)%Y:=⟨_,rfl⟩;have hyl:=D.yl;have hyh:=D.yh;have hzl:z<Y:=by rw[hz];exact Nat.mod_lt _ (by omega)
   have hw1:=kC (tS hq1) (by rw[eN hq1,←hz];omega)
   rw[eN hq1,←hz,Nat.mod_mod]at hw1;have hq0:=D.quo (z:=z) (by omega)
   have hr0:=D.sub (z:=z) (by omega)
   simp only[g1,←e1,Nat.mod_mod,hw1,hq0,hr0];clear hw1 hq0 hr0 hyl hyh e1 f0 f3;refine aj (α:=Nat×Nat) (fun x=>x.1) (fun x=>⟨[(2,U Y),(8,U s),(9,U (Y/4294967296)),(10,U (Y%4294967296)),(14,U (V%4294967296)),(15,U q1),(17,U z),(18,U x.1),(16,U x.2)],[],_⟩) (pk Y z (V%4294967296)) (z/(Y/4294967296),z%(Y/4294967296)) (fun _=>Nat.le_refl _) (.start D hzl (Nat.mod_lt _ (by decide))) ?_ ?_
   ·exact lE
   ·rintro⟨q,r⟩ hd R hR;have f0:=hd.r;simp only at f0;have f1: ∀ _:True,4294967296*r%18446744073709551616=4294967296*r:=fun _=>by omega
    have f2: ∀ _:True,(4294967296*r+V%4294967296)%18446744073709551616=4294967296*r+V%4294967296:=fun _=>by have:=D.hVl;omega
    have f3:q*(Y%4294967296)<4294967296*4294967296∨4294967296≤q:=by
     by_cases g:4294967296≤q
     ·exact .inr g
     ·exact .inl (Nat.mul_lt_mul'' (by omega) (Nat.mod_lt _ (by decide)))
    repeat' first|simp only[go_sem,seval,uw,rR,mn,qy,zA,vJ,py,uX,q9,qZ,kQ,f1 trivial,f2 trivial]|refine sB ?_|(first|apply pX|apply bX)<;>intro hc|refine⟨oD,?_⟩|exact oD|fail
    ·obtain⟨g1,g2,g3,g4,g5⟩:=hd.go D hzl (Nat.mod_lt _ (by decide)) (by omega)
     have:=D.out hlo h' hq1 hz (g4 (by omega))
     simp only[g1,hm1 trivial,Nat.mod_mod,this.1,this.2]
    ·obtain⟨g1,g2,g3,g4,g5⟩:=hd.go D hzl (Nat.mod_lt _ (by decide)) (by omega)
     refine hR (q-1,r+Y/4294967296) (g5 (by omega)) g3 _ ?_
     rw[g1,g2];exact lE
    ·obtain⟨g1,g2,g3,g4,g5⟩:=hd.go D hzl (Nat.mod_lt _ (by decide)) (by omega)
     have:=D.out hlo h' hq1 hz (g4 (by omega))
     simp only[g1,hm1 trivial,Nat.mod_mod,this.1,this.2]
    ·obtain⟨g1,g2,g3,g4,g5⟩:=hd.go D hzl (Nat.mod_lt _ (by decide)) (by omega)
     refine hR (q-1,r+Y/4294967296) (g5 (by omega)) g3 _ ?_
     rw[g1,g2];exact lE
    ·have:=D.out hlo h' hq1 hz (hd.fin D hzl (Nat.mod_lt _ (by decide)) (by omega))
     simp only[hm1 trivial,Nat.mod_mod,this.1,this.2]
  ·obtain⟨g1,g2,g3,g4,g5⟩:=hd.go D D.hil (by have:=D.hVl;omega) (by omega)
   refine hR (q-1,r+Y/4294967296) (g5 (by omega)) g3 _ ?_
   rw[g1,g2];exact lE
  ·obtain⟨g1,g2,g3,g4,g5⟩:=hd.go D D.hil (by have:=D.hVl;omega) (by omega)
   have hq1:(q-1)=(u*4294967296+V/4294967296)/Y:=g4 (by omega)
   obtain⟨q1,e1⟩: ∃q1,q1=(q-1):=⟨_,rfl⟩;rw[←e1]at hq1;obtain⟨z,hz⟩: ∃z,z=(u*4294967296+V/4294967296)%Y:=⟨_,rfl⟩;have hyl:=D.yl;have hyh:=D.yh;have hzl:z<Y:=by rw[hz];exact Nat.mod_lt _ (by omega)
   have hw1:=kC (tS hq1) (by rw[eN hq1,←hz];omega)
   rw[eN hq1,←hz,Nat.mod_mod]at hw1;have hq0:=D.quo (z:=z) (by omega)
   have hr0:=D.sub (z:=z) (by omega)
   simp only[g1,←e1,Nat.mod_mod,hw1,hq0,hr0];clear hw1 hq0 hr0 hyl hyh e1 f0 f3;refine aj (α:=Nat×Nat) (fun x=>x.1) (fun x=>⟨[(2,U Y),(8,U s),(9,U (Y/4294967296)),(10,U (Y%4294967296)),(14,U (V%4294967296)),(15,U q1),(17,U z),(18,U x.1),(16,U x.2)],[],_⟩) (pk Y z (V%4294967296)) (z/(Y/4294967296),z%(Y/4294967296)) (fun _=>Nat.le_refl _) (.start D hzl (Nat.mod_lt _ (by decide))) ?_ ?_
   ·exact lE
   ·rintro⟨q,r⟩ hd R hR;have f0:=hd.r;simp only at f0;have f1: ∀ _:True,4294967296*r%18446744073709551616=4294967296*r:=fun _=>by omega
    have f2: ∀ _:True,(4294967296*r+V%4294967296)%18446744073709551616=4294967296*r+V%4294967296:=fun _=>by have:=D.hVl;omega
    have f3:q*(Y%4294967296)<4294967296*4294967296∨4294967296≤q:=by
     by_cases g:4294967296≤q
     ·exact .inr g
     ·exact .inl (Nat.mul_lt_mul'' (by omega) (Nat.mod_lt _ (by decide)))
    repeat' first|simp only[go_sem,seval,uw,rR,mn,qy,zA,vJ,py,uX,q9,qZ,kQ,f1 trivial,f2 trivial]|refine sB ?_|(first|apply pX|apply bX)<;>intro hc|refine⟨oD,?_⟩|exact oD|fail
    ·obtain⟨g1,g2,g3,g4,g5⟩:=hd.go D hzl (Nat.mod_lt _ (by decide)) (by omega)
     have:=D.out hlo h' hq1 hz (g4 (by omega))
     simp only[g1,hm1 trivial,Nat.mod_mod,this.1,this.2]
    ·obtain⟨g1,g2,g3,g4,g5⟩:=hd.go D hzl (Nat.mod_lt _ (by decide)) (by omega)
     refine hR (q-1,r+Y/4294967296) (g5 (by omega)) g3 _ ?_
     rw[g1,g2];exact lE
    ·obtain⟨g1,g2,g3,g4,g5⟩:=hd.go D hzl (Nat.mod_lt _ (by decide)) (by omega)
     have:=D.out hlo h' hq1 hz (g4 (by omega))
     simp only[g1,hm1 trivial,Nat.mod_mod,this.1,this.2]
    ·obtain⟨g1,g2,g3,g4,g5⟩:=hd.go D hzl (Nat.mod_lt _ (by decide)) (by omega)
     refine hR (q-1,r+Y/4294967296) (g5 (by omega)) g3 _ ?_
     rw[g1,g2];exact lE
    ·have:=D.out hlo h' hq1 hz (hd.fin D hzl (Nat.mod_lt _ (by decide)) (by omega))
     simp only[hm1 trivial,Nat.mod_mod,this.1,this.2]
  ·obtain⟨g1,g2,g3,g4,g5⟩:=hd.go D D.hil (by have:=D.hVl;omega) (by omega)
   refine hR (q-1,r+Y/4294967296) (g5 (by omega)) g3 _ ?_
   rw[g1,g2];exact lE
  ·have hq1:q=(u*4294967296+V/4294967296)/Y:=hd.fin D D.hil (by have:=D.hVl;omega) (by omega)
   obtain⟨q1,e1⟩: ∃q1,q1=q:=⟨_,rfl⟩;rw[←e1]at hq1;obtain⟨z,hz⟩: ∃z,z=(u*4294967296+V/4294967296)%Y:=⟨_,rfl⟩;have hyl:=D.yl;have hyh:=D.yh;have hzl:z<Y:=by rw[hz];exact Nat.mod_lt _ (by omega)
   have hw1:=kC (tS hq1) (by rw[eN hq1,←hz];omega)
   rw[eN hq1,←hz,Nat.mod_mod]at hw1;have hq0:=D.quo (z:=z) (by omega)
   have hr0:=D.sub (z:=z) (by omega)
   simp only[true_and,←e1,Nat.mod_mod,hw1,hq0,hr0];clear hw1 hq0 hr0 hyl hyh e1 f0 f3;refine aj (α:=Nat×Nat) (fun x=>x.1) (fun x=>⟨[(2,U Y),(8,U s),(9,U (Y/4294967296)),(10,U (Y%4294967296)),(14,U (V%4294967296)),(15,U q1),(17,U z),(18,U x.1),(16,U x.2)],[],_⟩) (pk Y z (V%4294967296)) (z/(Y/4294967296),z%(Y/4294967296)) (fun _=>Nat.le_refl _) (.start D hzl (Nat.mod_lt _ (by decide))) ?_ ?_
   ·exact lE
   ·rintro⟨q,r⟩ hd R hR;have f0:=hd.r;simp only at f0;have f1: ∀ _:True,4294967296*r%18446744073709551616=4294967296*r:=fun _=>by omega
    have f2: ∀ _:True,(4294967296*r+V%4294967296)%18446744073709551616=4294967296*r+V%4294967296:=fun _=>by have:=D.hVl;omega
    have f3:q*(Y%4294967296)<4294967296*4294967296∨4294967296≤q:=by
     by_cases g:4294967296≤q
     ·exact .inr g
     ·exact .inl (Nat.mul_lt_mul'' (by omega) (Nat.mod_lt _ (by decide)))
    repeat' first|simp only[go_sem,seval,uw,rR,mn,qy,zA,vJ,py,uX,q9,qZ,kQ,f1 trivial,f2 trivial]|refine sB ?_|(first|apply pX|apply bX)<;>intro hc|refine⟨oD,?_⟩|exact oD|fail
    ·obtain⟨g1,g2,g3,g4,g5⟩:=hd.go D hzl (Nat.mod_lt _ (by decide)) (by omega)
     have:=D.out hlo h' hq1 hz (g4 (by omega))
     simp only[g1,hm1 trivial,Nat.mod_mod,this.1,this.2]
    ·obtain⟨g1,g2,g3,g4,g5⟩:=hd.go D hzl (Nat.mod_lt _ (by decide)) (by omega)
     refine hR (q-1,r+Y/4294967296) (g5 (by omega)) g3 _ ?_
     rw[g1,g2];exact lE
    ·obtain⟨g1,g2,g3,g4,g5⟩:=hd.go D hzl (Nat.mod_lt _ (by decide)) (by omega)
     have:=D.out hlo h' hq1 hz (g4 (by omega))
     simp only[g1,hm1 trivial,Nat.mod_mod,this.1,this.2]
    ·obtain⟨g1,g2,g3,g4,g5⟩:=hd.go D hzl (Nat.mod_lt _ (by decide)) (by omega)
     refine hR (q-1,r+Y/4294967296) (g5 (by omega)) g3 _ ?_
     rw[g1,g2];exact lE
    ·have:=D.out hlo h' hq1 hz (hd.fin D hzl (Nat.mod_lt _ (by decide)) (by omega))
     simp only[hm1 trivial,Nat.mod_mod,this.1,this.2]
theorem Dy (hi lo y:Nat) (h0:0<y) (hhi:hi<18446744073709551616) (hlo:lo<18446744073709551616) (hy:y<18446744073709551616):aB Tryz.prog 240 [.i .u64 hi, .i .u64 lo, .i .u64 y] (.i .u64 ((hi*18446744073709551616+lo)%y:Nat)):=by
 have h1:hi%y<y:=Nat.mod_lt _ h0;have h2:(hi%y*18446744073709551616+lo)%y=(hi*18446744073709551616+lo)%y:=by
  rw[Nat.add_mod,Nat.mul_mod,Nat.mod_mod,←Nat.mul_mod,←Nat.add_mod]
 refine eW Tryz.call240 Tryz.func240 ?_;repeat' first|simp only[go_sem,seval,h2]|refine cP (vC _ _ _ h1 hlo hy) ?_|refine sB ?_|(first|apply pX|apply bX)<;>intro hc|refine⟨oD,?_⟩|exact oD|fail
theorem NF {l:List Nat} {i:Nat} (h:i<l.length):(l.map fun n:Nat=>PV.i .u8 n).getD i .fn0= .i .u8 (l.getD i 0:Nat):=by
 simp[List.getD_eq_getElem?_getD,h]
theorem kP (x:Nat) (h0:x≠0) (h:x<18446744073709551616):aB Tryz.prog 132 [.i .u64 x] (E (Lib.ctz 64 x:Nat)):=by
 obtain⟨g1,g2⟩:=Lib.lowest_bit 64 x h0 h;obtain⟨g3,g4⟩:=Lib.deBruijn64_at _ g2;obtain⟨k,hk⟩: ∃k,k=Lib.ctz 64 x:=⟨_,rfl⟩;rw[←hk]at g1 g2 g3 g4⊢;obtain⟨p,hp⟩: ∃p,p=2^k:=⟨_,rfl⟩;rw[←hp]at g1 g3 g4;obtain⟨i,hi⟩: ∃i,i=p*285870213051353865%18446744073709551616/288230376151711744:=⟨_,rfl⟩;rw[←hi]at g3 g4;have e1: ∀ _:True,IntKind.u64.wrap (0-(x:Int))=((18446744073709551616-x:Nat):Int):=fun _=>by rw[Dk];omega
 have e2: ∀ _:True,gV .u64 (x:Int) ((18446744073709551616-x:Nat):Int)=((p:Nat):Int):=fun _=>by
  rw[EW .u64 rfl h (by show 18446744073709551616-x<18446744073709551616;omega)];exact congrArg _ g1
 have e3: ∀ _:True,p*285870213051353865%18446744073709551616/288230376151711744=i:=fun _=>hi.symm
 have e4:=NF (l:=Lib.deBruijn64tab) (i:=i) (by exact g3)
 rw[g4]at e4;have e5: ∀ _:True,([(.i .u8 0),(.i .u8 1),(.i .u8 56),(.i .u8 2),(.i .u8 57),(.i .u8 49),(.i .u8 28),(.i .u8 3),(.i .u8 61),(.i .u8 58),(.i .u8 42),(.i .u8 50),(.i .u8 38),(.i .u8 29),(.i .u8 17),(.i .u8 4),(.i .u8 62),(.i .u8 47),(.i .u8 59),(.i .u8 36),(.i .u8 45),(.i .u8 43),(.i .u8 51),(.i .u8 22),(.i .u8 53),(.i .u8 39),(.i .u8 33),(.i .u8 30),(.i .u8 24),(.i .u8 18),(.i .u8 12),(.i .u8 5),(.i .u8 63),(.i .u8 55),(.i .u8 48),(.i .u8 27),(.i .u8 60),(.i .u8 41),(.i .u8 37),(.i .u8 16),(.i .u8 46),(.i .u8 35),(.i .u8 44),(.i .u8 21),(.i .u8 52),(.i .u8 32),(.i .u8 23),(.i .u8 11),(.i .u8 54),(.i .u8 26),(.i .u8 40),(.i .u8 15),(.i .u8 34),(.i .u8 20),(.i .u8 31),(.i .u8 10),(.i .u8 25),(.i .u8 14),(.i .u8 19),(.i .u8 9),(.i .u8 13),(.i .u8 8),(.i .u8 7),(.i .u8 6)]:List PV).getD i .fn0= .i .u8 (k:Nat):=fun _=>e4
 clear g1 g4 hi hp e4;refine eW Tryz.call132 Tryz.func132 ?_;simp only[go_sem,seval,e1 trivial,e2 trivial,mn,e3 trivial,e5 trivial];repeat' first|simp only[go_sem,seval,e1 trivial,e2 trivial,mn,e3 trivial,e5 trivial]|refine sB ?_|(first|apply pX|apply bX)<;>intro hc|refine⟨oD,?_⟩|exact oD|fail
 all_goals skip
abbrev E' (n:Nat):AV:= .v (.i .i64 n)
theorem qL (n nm:Nat) (a b:Bytes) (la:a.length≤128) (lb:b.length≤128) (el:Option TypeId) (zs:List Nat) (hz:zs=List.replicate 256 0):ew Tryz.prog 366 nm [(n,⟨0,ax .i64 zs,false,el⟩)] [.v (.s a), .v (.s b), .p n 0 0] (.v (.s (aK (num a*num b)))) [(n,none)]:=by
 refine ew.w mixed Tryz.call366 Tryz.func366 rfl (eT.1 _ _ _ (by cbv)) (eT.2 _ _ (by cbv)) (obs:=[⟨0,ax .i64 zs,false,el⟩]) (args:=[.v (.s a), .v (.s b), .p 0 0 0]) (fs:=[some none]) (j:=none) (nw:=none) (v:= .v (.s (aK (num a*num b)))) (ns:=[n]) (obsA:=[⟨0,ax .i64 zs,false,el⟩]) rfl ?_ (by simp) (by simp) rfl (by simp[aI,aq.aC,xp]) (by simp[aI,AV.aC,aY]) (by simp[AV.aC]) (by simp[cI,outs])
 have r1:(ax .i64 zs).length=256:=by rw[aM,hz,List.length_replicate]
 have r2:List.drop 256 (ax .i64 zs)=[]:=List.drop_of_length_le (by rw[r1];exact Nat.le_refl _)
 have r3:=kW .i64 256;rw[←hz]at r3;simp only[go_sem,seval,r1,r2,r3,-List.reduceReplicate];refine aj (α:=Nat×List Nat) (fun x=>a.length-x.1) (fun x=>⟨[(0, .v (.s a)),(1, .v (.s b)),(2, .p 0 0 0),(18, .v (.i .i64 a.length)),(19, .v (.i .i64 x.1))],[(0,⟨0,ax .i64 x.2,false,el⟩)],_⟩) (fun x=>x.1≤a.length∧rv 256 (num a) (num b) x.1 0 x.2) (0,zs) (fun _=>Nat.le_refl _) ⟨Nat.zero_le _,hz▸ .start _ _ _⟩ ?_ ?_
 ·(refine AS.Le.of (by first|decide|omega) ?_ ?_<;>simp[bL,bK,aD,ai,AV.bd,AV.bd.bdL,u8,af,ah,ak])
  all_goals skip
 ·rintro⟨i,l⟩ ⟨hi,hl⟩ R hR;simp only at hi hl;have l1:(ax .i64 l).length=256:=by rw[aM,hl.len]
  by_cases hlt:i<a.length
  ·repeat' first|simp only[go_sem,seval,l1]|(refine cW (fM a i (by omega)) rfl ?_)|refine sB ?_|(first|apply pX|apply bX)<;>intro hc|refine⟨oD,?_⟩|exact oD|fail
   refine aj (α:=Nat×List Nat) (fun x=>b.length-x.1) (fun x=>⟨[(0, .v (.s a)),(1, .v (.s b)),(2, .p 0 0 0),(7,E' i),(8,E' (num a/256^i%256)),(18,E' a.length),(19,E' i),(26,E' b.length),(27,E' x.1)],[(0,⟨0,ax .i64 x.2,false,el⟩)],_⟩) (fun x=>x.1≤b.length∧rv 256 (num a) (num b) i x.1 x.2) (0,l) (fun _=>Nat.le_refl _) ⟨Nat.zero_le _,hl⟩ ?_ ?_
   ·exact lE
   ·rintro⟨k,m⟩ ⟨hk,hm⟩ R' hR';simp only at hk hm;have m1:(ax .i64 m).length=256:=by rw[aM,hm.len]
    by_cases hklt:k<b.length
    ·obtain⟨x,hx⟩: ∃x,x=num a/256^i%256:=⟨_,rfl⟩;obtain⟨y,hy⟩: ∃y,y=num b/256^k%256:=⟨_,rfl⟩;have hst:=hm.step (by omega)
     rw[←hx,←hy]at hst;have hxy:x*y≤65025:=Nat.mul_le_mul (by omega:x≤255) (by omega:y≤255)
     have hc:=hm.hi (i+k) (Nat.le_refl _);have g1: ∀ _:True,(ax .i64 m).getD ((i:Int)+(k:Int)).toNat .u= .v (.i .i64 (m.getD (i+k) 0:Nat)):=fun _=>by
      rw[show((i:Int)+(k:Int)).toNat=i+k by omega,cf (by rw[hm.len];omega)]
     have g2: ∀ _:True,IntKind.i64.wrap ((x:Int)*(y:Int))=((x*y:Nat):Int):=fun _=>by
      rw[←Int.natCast_mul,IntWalk.i64_in _ (by omega)]
     have g3: ∀ _:True,IntKind.i64.wrap (((m.getD (i+k) 0:Nat):Int)+((x*y:Nat):Int))=((m.getD (i+k) 0+x*y:Nat):Int):=fun _=>by
      rw[←Int.natCast_add,IntWalk.i64_in _ (by omega)]
     have hd:=fM b k (by omega)
     rw[←hy]at hd;rw[←hx];clear hy hxy;repeat' first|simp only[go_sem,seval,m1,g1 trivial,g2 trivial,g3 trivial]|refine cP hd ?_|refine sB ?_|(first|apply pX|apply bX)<;>intro hc|refine⟨oD,?_⟩|exact oD|fail
     refine hR' (k+1,m.set (i+k) (m.getD (i+k) 0+x*y)) ⟨by show k+1≤ _;omega,hst⟩ (by show b.length-(k+1)<b.length-k;omega) _ ?_
     rw[show((i:Int)+(k:Int)).toNat=i+k by omega,cK (by rw[hm.len];omega) rfl]
     (refine AS.Le.of (by first|decide|omega) ?_ ?_<;>simp[bL,bK,aD,ai,AV.bd,AV.bd.bdL,u8,af,ah,ak])
     rw[hx];simp
    ·obtain rfl:k=b.length:=by omega
     repeat' first|simp only[go_sem,seval]|refine sB ?_|(first|apply pX|apply bX)<;>intro hc|refine⟨oD,?_⟩|exact oD|fail
     refine hR (i+1,m) ⟨by show i+1≤ _;omega,hm.row (bR b)⟩ (by show a.length-(i+1)<a.length-i;omega) _ ?_
     exact lE
  ·obtain rfl:i=a.length:=by omega
   repeat' first|simp only[go_sem,seval,l1,pF]|refine sB ?_|(first|apply pX|apply bX)<;>intro hc|refine⟨oD,?_⟩|exact oD|fail
   have hv:=hl.v;have ha:=bR a;rw[Nat.mod_eq_of_lt ha]at hv;simp only[Nat.pow_zero,Nat.mod_one,Nat.mul_zero,Nat.zero_mul,Nat.add_zero]at hv;obtain⟨n,hn⟩: ∃n,n=a.length+b.length:=⟨_,rfl⟩;have hn':((a.length:Int)+(b.length:Int))=(n:Int):=by omega
   obtain⟨T,hT⟩: ∃T,T=num a*num b:=⟨_,rfl⟩;rw[←hT]at hv;have hTl:T<256^n:=by rw[hT,hn,Nat.pow_add];exact Nat.mul_lt_mul'' ha (bR b)
   rw[←hT];simp only[hn',Int.toNat_natCast];refine aj (α:=Nat) (fun i=>n-i) (fun i=>⟨[(2, .p 0 0 0),(10,E' n),(11, .rs 1016 0 0 n 1),(12,E' (le (l.take i)/256^i)),(54,E' n),(55,E' i)],if i<n then[(0,⟨0,ax .i64 l,false,el⟩),(1016,⟨0,ay (List.replicate (n-i) 0++be i T),false,none⟩)]else[(1016,⟨0,ay (List.replicate (n-i) 0++be i T),false,none⟩)],_⟩) (fun i=>i≤n) 0 (fun _=>Nat.le_refl _) (Nat.zero_le _) ?_ ?_
   ·by_cases h0:0<n<;>simp only[h0,if_true,if_false]<;>(refine AS.Le.of (by first|decide|omega) ?_ ?_<;>simp[bL,bK,aD,ai,AV.bd,AV.bd.bdL,u8,af,ah,ak])<;>simp[le,be]
   ·intro i hi R hR;have hb:=oT n i T hi
    by_cases hlt:i<n
    ·obtain⟨e1,e2⟩:=vW (l:=l) (i:=i) (by rw[hl.len];omega) hv.symm
     have hm:=hl.lo i;have hc:=hl.lo.carry i;have g1: ∀ _:True,(ax .i64 l).getD i .u= .v (.i .i64 (l.getD i 0:Nat)):=fun _=>cf (by rw[hl.len];omega)
     have g2: ∀ _:True,IntKind.i64.wrap (((le (l.take i)/256^i:Nat):Int)+((l.getD i 0:Nat):Int))=((le (l.take i)/256^i+l.getD i 0:Nat):Int):=fun _=>by
      have hs:le (l.take i)/256^i+l.getD i 0≤65025*(a.length+1)+65025*(a.length+1):=Nat.add_le_add hc hm;rw[←Int.natCast_add];generalize le (l.take i)/256^i+l.getD i 0=z at hs⊢;rw[IntWalk.i64_in _ (by omega)]
     rw[if_pos hlt];clear e1 e2 hm hc;repeat' first|simp only[go_sem,seval,l1,g1 trivial,g2 trivial,hb]|refine sB ?_|(first|apply pX|apply bX)<;>intro hc|refine⟨oD,?_⟩|exact oD|fail
     obtain⟨e1,e2⟩:=vW (l:=l) (i:=i) (by rw[hl.len];omega) hv.symm
     refine hR (i+1) (by omega) (by omega) _ ?_
     rw[e2,show((n:Int)-1-i).toNat=n-1-i by omega,vR (c:=UInt8.ofNat (T/256^i)) (by omega) (by rw[kD,UInt8.toNat_ofNat',UInt8.toNat_ofNat'];exact congrArg _ e1),gT hlt]
     by_cases h0:i+1<n<;>simp only[h0,if_true,if_false]<;>(refine AS.Le.of (by first|decide|omega) ?_ ?_<;>simp[bL,bK,aD,ai,AV.bd,AV.bd.bdL,u8,af,ah,ak])<;>rfl
    ·obtain rfl:i=n:=by omega
     have:=fB (be i T);have hl':(be i T).length=i:=cd _ _;rw[if_neg hlt];repeat' first|simp only[go_sem,seval,hl',Nat.sub_self,List.replicate_zero,true_or,or_true,false_or,or_false,Option.some.injEq,dN,b9,dH,c9,da,ca,jm,jG,dq,dK,br,az,AV.aC,AV.aC.renL,ar]|(refine gN this rfl rfl hl'.symm ?_)|refine sB ?_|(first|apply pX|apply bX)<;>intro hc|refine⟨oD,?_⟩|exact oD|fail
     rw[jD hTl]
def yY (a b:Bytes):Bytes×Int:=if aa a&&aa b then(if num a*num b<dt then(aK (num a*num b),0)else([],5))else([],3)
theorem cE {a:Bytes} (h:a.length≤8):num a<18446744073709551616:=Nat.lt_of_lt_of_le (bR a) (Nat.pow_le_pow_right (by decide) h)
theorem Lb (a b:Bytes):aB Tryz.prog 326 [.s a, .s b] (.tup [.s (yY a b).1,E (yY a b).2]):=by
 by_cases hv:aa a=true∧aa b=true
 case neg=>
  refine eW Tryz.call326 Tryz.func326 ?_;repeat' first|simp only[go_sem,seval]|refine cP (aF _) ?_|refine sB ?_|(first|apply pX|apply bX)<;>intro hc|refine⟨oD,?_⟩|exact oD|fail
  all_goals simp_all[yY]
 obtain⟨hva,hvb⟩:=hv;have la:=dE hva;have lb:=dE hvb;have sa:=iW a;have sb:=iW b;rw[hva,Bool.true_and]at sa;rw[hvb,Bool.true_and]at sb;have hlim:18446744073709551616≤dt:=by unfold dt;decide+kernel
 by_cases h8:a.length≤8∧b.length≤8
 ·rw[decide_eq_true h8.1]at sa;rw[decide_eq_true h8.2]at sb;have ha:=cE h8.1;have hb:=cE h8.2;refine eW Tryz.call326 Tryz.func326 ?_;repeat' first|simp only[go_sem,seval,if_true]|refine cP (aF _) ?_|refine cP sa ?_|refine cP sb ?_|refine cP (lG _ _ ha hb) ?_|(refine cW (fI _ (Nat.mod_lt _ (by decide))) rfl ?_)|(refine aP (qL _ _ a b la lb _ (List.replicate 256 0) rfl) (by intro p hp;cases List.mem_singleton.1 hp;rfl) ?_)|refine cP (kU _) ?_|refine sB ?_|(first|apply pX|apply bX)<;>intro hc|refine⟨oD,?_⟩|exact oD|fail
  ·have hp:num a*num b<18446744073709551616:=by omega
   have hq:num a*num b<dt:=Nat.lt_of_lt_of_le hp hlim;simp[yY,hva,hvb,hq,Nat.mod_eq_of_lt hp]
  ·simp only[ux,yY,hva,hvb,Bool.and_self,if_true]
   split<;>simp
 ·have hn: ¬(a.length≤8∧b.length≤8):=h8;have hx:(if decide (a.length≤8)=true then((num a:Nat):Int)else 0)=((if a.length≤8 then num a else 0:Nat):Int):=by by_cases g:a.length≤8<;>simp[g]
  have hy:(if decide (b.length≤8)=true then((num b:Nat):Int)else 0)=((if b.length≤8 then num b else 0:Nat):Int):=by by_cases g:b.length≤8<;>simp[g]
  rw[hx]at sa;rw[hy]at sb;have ha:(if a.length≤8 then num a else 0)<18446744073709551616:=by split;exact cE ‹_›;decide
  have hb:(if b.length≤8 then num b else 0)<18446744073709551616:=by split;exact cE ‹_›;decide
  refine eW Tryz.call326 Tryz.func326 ?_;repeat' first|simp only[go_sem,seval]|refine cP (aF _) ?_|refine cP sa ?_|refine cP sb ?_|refine cP (lG _ _ ha hb) ?_|(refine aP (qL _ _ a b la lb _ (List.replicate 256 0) rfl) (by intro p hp;cases List.mem_singleton.1 hp;rfl) ?_)|refine cP (kU _) ?_|refine sB ?_|(first|apply pX|apply bX)<;>intro hc|refine⟨oD,?_⟩|exact oD|fail
  all_goals simp only[ux,yY,hva,hvb,Bool.and_self,if_true]
  all_goals (split<;>simp)
end Go.Proofs.YtmobkhegihemeaaGreatDoor
