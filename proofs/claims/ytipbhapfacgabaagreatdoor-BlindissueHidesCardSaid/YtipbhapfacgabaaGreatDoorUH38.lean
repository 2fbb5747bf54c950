/- Part of the proof. -/
import Derived.Test.YtipbhapfacgabaaGreatDoorUH20
set_option linter.all false
set_option maxHeartbeats 16000000
set_option maxRecDepth 100000
namespace Go.Proofs.Tryz
open Go Go.Dom
variable {a b:Bytes}
theorem lz8: ∀x:Fin 256,x.1≠0->Lib.bitLen x.1<=8/\8-Lib.bitLen x.1<=7/\128<=x.1*2^(8-Lib.bitLen x.1)/\x.1*2^(8-Lib.bitLen x.1)<256:=by decide+kernel
theorem uj (x:Nat) (h:x<256):aF 305 [.i .u8 x] (E ((8-Lib.bitLen x:Nat):Int)):=by
 have h1:=HF x h;have h2:=jE h;refine eW call305 func305 ?_;repeat' first|simp only[go_sem,seval]|refine cP h1 ?_|refine oE ?_|apply xX<;>intro hc
 all_goals (congr 1;congr 1;omega)
theorem sA (a:Bytes) (i:Nat) (ha:a.length<4611686018427387904):aF 138 [.s a,E i] (E (dv (num a) i:Nat)):=kW a i ha
theorem MG (x j k:Nat):dv (x/256^j) k=dv x (k+j):=by
 unfold dv;rw[fj,<-cF,gJ j k]
theorem QT {R D j:Nat} (hD:0<D):R%(D*256^(j+1))/256^j<256*D/\R%(D*256^j)=R%(D*256^(j+1))/256^j%D*256^j+R%(D*256^(j+1))%256^j/\
  R/(D*256^j)=256*(R/(D*256^(j+1)))+R%(D*256^(j+1))/256^j/D/\R%(D*256^(j+1))/256^j/D<256:=by
 have hB:0<256^j:=il oC;have hM:0<D*256^j:=o7 hD hB;have eM:D*256^(j+1)=D*256^j*256:=by rw[Nat.pow_succ,cr]
 have hlt:R%(D*256^(j+1))<D*256^j*256:=by rw[<-eM];exact aL _ oO
 have h1:R%(D*256^(j+1))/256^j<256*D:=by
  rw[iL hB,cr,bw 256];exact hlt
 refine⟨h1,?_,?_,?_⟩
 ·rw[show R%(D*256^j)=R%(D*256^(j+1))%(D*256^j)from(tQ _ ⟨256,eM⟩).symm]
  generalize R%(D*256^(j+1))=c;rw[bw D,px,bw (256^j),gJ]
 ·rw[fj,bw (256^j) D];have e:=iY R (D*256^(j+1));generalize R%(D*256^(j+1))=c at*;generalize R/(D*256^(j+1))=q at*;rw[<-e,eM,cr,wX hM]
 ·rw[iL hD];exact h1
theorem Ux (U D gu i:Nat) {e:Nat} (h:cy U D (-(gu:Int)) i= -(e:Int)):(dv U i:Int)-((gu*dv D i:Nat):Int)-e=256*cy U D (-(gu:Int)) (i+1)+wB ((U:Int)-gu*D) i:=by
 have hs:=HW U D (-(gu:Int)) i;have e1: -(gu:Int)*(dv D i:Nat)= -((gu*dv D i:Nat):Int):=by rw[Int.natCast_mul,tR]
 have e2:(U:Int)+ -(gu:Int)*D=U-gu*D:=by rw[tR];rfl
 rw[h,wC,wC,e1,e2]at hs;generalize gu*dv D i=x at*;omega
theorem R6 {U D gu n e:Nat} (hU:U<256*256^n) (hD:D<256^n) (h:cy U D (-(gu:Int)) n= -(e:Int)):((dv U n:Nat):Int)-e=((U:Int)-gu*D)/256^n:=by
 have hc:=Gj U D (-(gu:Int)) n;have e2:(U:Int)+ -(gu:Int)*D=U-gu*D:=by rw[tR];rfl
 have h1:U/256^n<256:=by rw[iL (il oC)];exact hU
 have h2:(U:Int)/256^n=(dv U n:Nat):=by
  unfold dv;rw[bM h1,Int.natCast_ediv,Int.natCast_pow];rfl
 have p0:((256^n:Nat):Int)=256^n:=by rw[Int.natCast_pow];rfl
 have h3:(D:Int)/256^n=0:=Dn oO oO;rw[h,e2,h2,h3,Int.mul_zero]at hc;omega
theorem LO {X:Int} {D i c r:Nat} (hr:(r:Int)=wB X i) (h:cy X D 1 i=c):cy X D 1 (i+1)=((c+r+dv D i)/256:Nat)/\wB (X+D) i=((c+r+dv D i)%256:Nat):=by
 have hs:=HW X D 1 i;rw[h,<-hr,wC,tD,tD]at hs;have:=HZ (X+D) i;omega
theorem PJ {X:Int} {D n c:Nat} (hD:D<256^n) (h:cy X D 1 n=c):X/256^n+c=(X+D)/256^n:=by
 have hc:=Gj X D 1 n;have p0:((256^n:Nat):Int)=256^n:=by rw[Int.natCast_pow];rfl
 have h3:(D:Int)/256^n=0:=Dn oO oO;rw[h,h3,tD,Int.mul_zero]at hc;omega
theorem Xm (f:Nat->Nat) (j n:Nat) (X Y:Int):dX (dX f j n X) j n Y=dX f j n Y:=by
 funext k;unfold dX;split<;>simp_all
theorem H0 (N:Nat) (f:Nat->Nat):List.replicate N 0=dl N (fun k=>if k<0 then f k else 0):=by
 rw[show(fun k=>if k<0 then f k else 0)=fun _=>0 from by funext k;rw[af (tB _)]]
 simp[dl,List.map_const']
structure LD (a b:Bytes) (s n l D R:Nat):Prop where
 s7:s<=7
 n1:1<=n
 ln:n<=l
 l128:l<=128
 hs:(b.getD 0 0).toNat<256/\8-Lib.bitLen (b.getD 0 0).toNat=s
 hn:b.length=n
 hl:a.length=l
 hD:D=num b*2^s
 hR:R=num a*2^s
 D1:128*256^(n-1)<=D
 D2:D<256^n
 R2:R<D*256^(l-n+1)
theorem LD.mk' (ha:aa a=true) (hb:aa b=true) (h0:0<num b) (hge:num b<=num a): ∃s n l D R,LD a b s n l D R:=by
 have hbn:b≠[]:=fun e=>by rw[e]at h0;exact aJ h0 oC
 obtain⟨c,r,rfl⟩: ∃c r,b=c::r:=by cases b with
  |nil=>exact aJ rfl hbn
  |cons c r=>exact⟨c,r,rfl⟩
 have hc0:c≠0:=by
  rcases bY hb with h|h
  ·cases h
  ·simpa using h
 have hc1:c.toNat≠0:=fun e=>hc0 (jN.1 (by simpa using e))
 obtain⟨z1,z2,z3,z4⟩:=lz8 ⟨c.toNat,c.toNat_lt⟩ hc1;simp only at z1 z2 z3 z4;obtain⟨s,hs⟩: ∃s,s=8-Lib.bitLen c.toNat:=⟨_,rfl⟩;rw[<-hs]at z2 z3 z4;have hr:=cu r;have hP:0<2^s:=il oC;have hB:0<256^r.length:=il oC;have hnum:num (c::r)=c.toNat*256^r.length+num r:=rfl;have hln:(c::r).length<=a.length:=by
  rcases ij a.length (c::r).length with g|g
  ·have:=iP (a:=a) (bY hb) g;omega
  ·exact g
 have hDlt:num (c::r)*2^s<256^(r.length+1):=by
  have h1:num (c::r)<(c.toNat+1)*256^r.length:=by rw[hnum,cO];omega
  have h2:(c.toNat+1)*2^s<=256:=by
   have h3:c.toNat*2^s+2^s<=256:=by
    have:2^s∣256:=⟨2^(8-s),by rw[<-cF,show s+(8-s)=8 by omega]⟩
    obtain⟨q,hq⟩:=this;have h4:c.toNat<q:=by
     refine Nat.lt_of_mul_lt_mul_left (a:=2^s) ?_;rw[<-hq,bw];exact z4
    have h5:(c.toNat+1)*2^s<=q*2^s:=cK _ h4;rw[cO,jP,bw q,<-hq]at h5;exact h5
   rw[cO,jP];exact h3
  refine ba (C5 h1 hP) ?_;rw[Dz,Nat.pow_succ,bw (256^r.length)];exact cK _ h2
 refine⟨s,r.length+1,a.length,num (c::r)*2^s,num a*2^s,z2,oO,hln,eu ha,⟨c.toNat_lt,hs.symm⟩,rfl,rfl,rfl,rfl,?_,hDlt,?_⟩
 ·rw[o6];refine fV (cK _ z3) ?_;rw[Dz];exact cK _ (by rw[hnum];omega)
 ·rw[Dz];refine C5 ?_ hP;have h1:=cu a;have h2:256^r.length<=num (c::r):=by
   have:=nO (bY hb) hbn;simpa using this
  refine ba h1 ?_;rw[show a.length=r.length+(a.length-(r.length+1)+1) by simp only[List.length_cons]at hln;omega,cF]
  rw[show r.length+(a.length-(r.length+1)+1)-(r.length+1)+1=a.length-(r.length+1)+1 by simp only[List.length_cons]at hln;omega]
  exact cK _ h2
theorem X9 {s x:Nat} (hs:s<=7) (hx:x<256):my .i64 (IntKind.i64.wrap ((x:Int)*2^s)) 255=((x*2^s%256:Nat):Int):=by
 have h1:2^s<=2^7:=cW oC hs;have h2:x*2^s<=256*2^7:=jq (kB hx) h1;rw[show(x:Int)*2^s=((x*2^s:Nat):Int) by rw[Int.natCast_mul,Int.natCast_pow];rfl,IntWalk.i64_in _ oO]
 exact Cg oO
theorem sOr {s x y:Nat} (hs:s<=7) (hy:y<256):Gu .i64 ((x*2^s%256:Nat):Int) ((y/2^(8-s):Nat):Int)=((x*2^s%256+y/2^(8-s):Nat):Int):=by
 have e:x*2^s%256=x%2^(8-s)*2^s/\y/2^(8-s)<2^s/\x%2^(8-s)<256:=by
  obtain rfl|rfl|rfl|rfl|rfl|rfl|rfl|rfl:s=0\/s=1\/s=2\/s=3\/s=4\/s=5\/s=6\/s=7:=oO;all_goals simp only[Nat.reducePow,Nat.reduceSub,Nat.pow_zero];omega
 rw[e.1];exact orS oO e.2.2 e.2.1
theorem JU (ha:aa a=true) (hb:aa b=true) (h0:0<num b) (h8:8<a.length) (hge:num b<=num a):aF 222 [.s a, .s b] (.tup [N (num a/num b),N (num a%num b)]):=by
 have hc:=oB (bY ha) (bY hb);have hc':0<=bK (num a) (num b):=by unfold bK;split<;>(try split)<;>omega
 obtain⟨s,n,l,D,R,s7,n1,ln,l128,hs,hn,hl,hD,hR,D1,D2,R2⟩:=LD.mk' ha hb h0 hge;have hlz:=uj _ hs.1;rw[hs.2]at hlz;generalize bK (num a) (num b)=cm at*;have hL: ∀ _:True,decide ((l:Int)<=8)=false:=fun _=>b9 oO
 have hS64:(if s<=64 then s else 64)=s:=ah oO
 have hT64:(if(8-(s:Int)).toNat<=64 then(8-(s:Int)).toNat else 64)=8-s:=by rw[ah oO];omega
 have hrep:List.replicate n 0=dl n (fun k=>if k<0 then dv D k else 0):=H0 ..
 refine eW call222 func222 ?_;repeat' first|simp only[go_sem,seval,hl,hn,hL oT,ry,-List.reduceReplicate]|refine cP hc ?_|refine cP hlz ?_|refine oE ?_|apply xX<;>intro hc
 rw[hrep];refine aq (α:=Nat) (fun i=>n-i) (fun i=>⟨[(0, .v (.s a)),(1, .v (.s b)),(10,E' s),(11,E' n),(12, .rs 1017 0 0 n 1),(62,E' n),(63,E' i)],[(1017,⟨0,aE .i64 (dl n fun k=>if k<i then dv D k else 0),false,none⟩)],_⟩) (fun i=>i<=n) 0 (fun _=>aB _) (aT _) ?_ ?_
 ·exact lE
 ·intro i hi R' hR'
  by_cases hlt:i<n
  ·have hd:=sA b i oO;obtain⟨L,hL⟩: ∃L,L=dl n fun k=>if k<i then dv D k else 0:=⟨_,rfl⟩
   have hLl:L.length=n:=by rw[hL,mn]
   have q1:(aE .i64 L).length=n:=by rw[bE,hLl]
   have p1: ∀x:Nat,List.take i (aE .i64 L)++[.v (.i .i64 (x:Int))]++List.drop (i+1) (aE .i64 L)=aE .i64 (L.set i x):=fun x=>fg oO rfl
   have p2: ∀x:Nat,(aE .i64 (L.set i x)).length=n:=fun x=>by rw[bE,nh,hLl]
   have p3: ∀x:Nat,(aE .i64 (L.set i x)).getD i .u= .v (.i .i64 (x:Int)):=fun x=>by
    rw[dy (by rw[nh];omega)];simp[bR,hLl,hlt]
   have p4: ∀x y:Nat,List.take i (aE .i64 (L.set i x))++[.v (.i .i64 (y:Int))]++List.drop (i+1) (aE .i64 (L.set i x))=aE .i64 (L.set i y):=fun x y=>by
    rw[fg (by rw[nh];omega) rfl,List.set_set]
   have he: ∀y,y=dv D i->(dl n fun k=>if k<i+1 then dv D k else 0)=L.set i y:=fun y hy=>by
    rw[hL];exact(BZ (fun _=>by rw[ah (xp i),hy]) fun k _ hk=>by simp only[Nat.lt_succ_iff_lt_or_eq,hk,or_false]).symm
   have hgo:=hR' (i+1) oO oO;have x1:=py (num b) i;have sv: ∀x:Nat,x<256->my .i64 (IntKind.i64.wrap ((x:Int)*2^s)) 255=((x*2^s%256:Nat):Int):=fun x hx=>X9 s7 hx
   have sx:=sv _ x1;rw[<-hL];clear hR'
   by_cases hi0:i=0
   ·subst hi0;have e0:=AP (num b) s;rw[<-hD]at e0;rw[he _ e0.symm]at hgo;have p0: ∀x:Nat,AV.v (.i .i64 (x:Int))::List.drop 1 (aE .i64 L)=aE .i64 (L.set 0 x):=fun x=>p1 x
    exact qe (aN @q1 (aN @p0 (aN @p2 (aN @hS64 @sx)))) @hgo @hd
   ·obtain⟨j,rfl⟩: ∃j,i=j+1:=⟨i-1,oO⟩;have e0:=Em (num b) j s s7;rw[<-hD]at e0;rw[he _ e0.symm]at hgo;have so:=sOr (x:=dv (num b) (j+1)) s7 (py (num b) j);have hj1:((j+1:Nat):Int)-1=j:=oO;have hd2:=sA b j oO;exact DM (aN @q1 (aN @p1 (aN @p2 (aN @p3 (aN @p4 (aN @hS64 (aN @sx (aN @hj1 (aN @hT64 @so))))))))) @hgo @hd @hd2
  ·obtain rfl:n=i:=oO;have hdl:(dl n fun k=>if k<n then dv D k else 0)=dl n (dv D):=x9 fun k hk=>ah hk
   have hN1:((l:Int)+1).toNat=l+1:=oO;have hrep2:List.replicate (l+1) 0=dl (l+1) (fun k=>if k<0 then dv R k else 0):=H0 ..
   rw[hdl];clear hR' hrep hdl;repeat' first|simp only[go_sem,seval,hl,hN1,ry,-List.reduceReplicate]|refine oE ?_|apply xX<;>intro hc
   rw[hrep2];refine aq (α:=Nat) (fun i=>l+1-i) (fun i=>⟨[(0, .v (.s a)),(1, .v (.s b)),(10,E' s),(11,E' n),(12, .rs 1017 0 0 n 1),(14, .rs 1025 0 0 (l+1) 1),(96,E' (l+1)),(97,E' i)],[(1017,⟨0,aE .i64 (dl n (dv D)),false,none⟩),(1025,⟨0,aE .i64 (dl (l+1) fun k=>if k<i then dv R k else 0),false,none⟩)],_⟩) (fun i=>i<=l+1) 0 (fun _=>aB _) (aT _) ?_ ?_
   ·exact lE
   ·clear hrep2;intro i hi R' hR'
    by_cases hlt:i<(l+1)
    ·have hd:=sA a i oO;obtain⟨L,hL⟩: ∃L,L=dl (l+1) fun k=>if k<i then dv R k else 0:=⟨_,rfl⟩
     have hLl:L.length=(l+1):=by rw[hL,mn]
     have q1:(aE .i64 L).length=(l+1):=by rw[bE,hLl]
     have p1: ∀x:Nat,List.take i (aE .i64 L)++[.v (.i .i64 (x:Int))]++List.drop (i+1) (aE .i64 L)=aE .i64 (L.set i x):=fun x=>fg oO rfl
     have p2: ∀x:Nat,(aE .i64 (L.set i x)).length=(l+1):=fun x=>by rw[bE,nh,hLl]
     have p3: ∀x:Nat,(aE .i64 (L.set i x)).getD i .u= .v (.i .i64 (x:Int)):=fun x=>by
      rw[dy (by rw[nh];omega)];simp[bR,hLl,hlt]
     have p4: ∀x y:Nat,List.take i (aE .i64 (L.set i x))++[.v (.i .i64 (y:Int))]++List.drop (i+1) (aE .i64 (L.set i x))=aE .i64 (L.set i y):=fun x y=>by
      rw[fg (by rw[nh];omega) rfl,List.set_set]
     have he: ∀y,y=dv R i->(dl (l+1) fun k=>if k<i+1 then dv R k else 0)=L.set i y:=fun y hy=>by
      rw[hL];exact(BZ (fun _=>by rw[ah (xp i),hy]) fun k _ hk=>by simp only[Nat.lt_succ_iff_lt_or_eq,hk,or_false]).symm
     have hgo:=hR' (i+1) oO oO;have x1:=py (num a) i;have sv: ∀x:Nat,x<256->my .i64 (IntKind.i64.wrap ((x:Int)*2^s)) 255=((x*2^s%256:Nat):Int):=fun x hx=>X9 s7 hx
     have sx:=sv _ x1;rw[<-hL];clear hR'
     by_cases hi0:i=0
     ·subst hi0;have e0:=AP (num a) s;rw[<-hR]at e0;rw[he _ e0.symm]at hgo;have p0: ∀x:Nat,AV.v (.i .i64 (x:Int))::List.drop 1 (aE .i64 L)=aE .i64 (L.set 0 x):=fun x=>p1 x
      exact qe (aN @q1 (aN @p0 (aN @p2 (aN @hS64 @sx)))) @hgo @hd
     ·obtain⟨j,rfl⟩: ∃j,i=j+1:=⟨i-1,oO⟩;have e0:=Em (num a) j s s7;rw[<-hR]at e0;rw[he _ e0.symm]at hgo;have so:=sOr (x:=dv (num a) (j+1)) s7 (py (num a) j);have hj1:((j+1:Nat):Int)-1=j:=oO;have hd2:=sA a j oO;exact DM (aN @q1 (aN @p1 (aN @p2 (aN @p3 (aN @p4 (aN @hS64 (aN @sx (aN @hj1 (aN @hT64 @so))))))))) @hgo @hd @hd2
    ·obtain rfl:l+1=i:=oO;have hdl:(dl (l+1) fun k=>if k<l+1 then dv R k else 0)=dl (l+1) (dv R):=x9 fun k hk=>ah hk
     obtain⟨L,hL⟩: ∃L,L=l-n+1:=⟨_,rfl⟩;have hNL:((l:Int)-n+1).toNat=L:=oO;have hNj:(l:Int)-n=(L:Int)-1:=oO;rw[hdl];clear hR' hdl;have hNL2:((L:Int)-1+1).toNat=L:=oO;repeat' first|simp only[go_sem,seval,hl,hn,hNL,hNL2,hNj,nA,-List.reduceReplicate]|refine oE ?_|apply xX<;>intro hc
     have hD0:0<D:=ba (o7 oC (il oC)) D1;have hcl: ∀k,k<n->(aE .i64 (dl n (dv D))).getD k .u= .v (.i .i64 (dv D k:Nat)):=fun k hk=>by rw[dy (by rw[mn];exact hk),uz hk]
     have hdn:(aE .i64 (dl n (dv D))).length=n:=by rw[bE,mn]
     have hRL:R/(D*256^L)=0/\R%(D*256^L)=R:=by
      rw[hL];exact⟨iO R2,bM R2⟩
     refine aq (α:=Nat) (fun m=>m) (fun m=>⟨[(10,E' s),(11,E' n),(12, .rs 1017 0 0 n 1),(14, .rs 1025 0 0 (l+1) 1),(16, .rs 1036 0 0 L 1),(17, .v (.i .i64 ((m:Int)-1)))],[(1017,⟨0,aE .i64 (dl n (dv D)),false,none⟩),(1025,⟨0,aE .i64 (dl (l+1) (dv (R%(D*256^m)))),false,none⟩),(1036,⟨0,aH (be (L-m) (R/(D*256^m))++List.replicate m 0),false,none⟩)],_⟩) (fun m=>m<=L) L (fun _=>aB _) (aB _) ?_ ?_
     ·rw[hRL.1,hRL.2,iX,show be 0 0=[]from rfl,List.nil_append]
      exact lE
     ·intro m hm Rr hRr
      cases m with
      |zero=>
       have hz1:((0:Nat):Int)-1= -1:=rfl;have hz2:decide ((-1:Int)>=0)=false:=rfl;rw[Nat.pow_zero,eH,Nat.sub_zero,List.replicate_zero,jr];clear hRr;repeat' first|simp only[go_sem,seval,hz1,hz2,nA,-List.reduceReplicate]|refine oE ?_|apply xX<;>intro hc
       obtain⟨Rm,hRm⟩: ∃Rm,Rm=R%D:=⟨_,rfl⟩;have hRml:Rm<256^n:=by rw[hRm];exact gj (aL _ hD0) D2
       have eq1:R/D=num a/num b:=by rw[hR,hD,Nat.mul_div_mul_right _ _ (il oC)]
       have eq2:Rm/2^s=num a%num b:=by rw[hRm,hR,hD,Dm,Dp _ (il oC)]
       have hQl:R/D<256^L:=by rw[hL,iL hD0,bw];exact R2
       rw[eq1]at hQl⊢;rw[<-hRm,<-eq2];have hRel:Rm/2^s<256^n:=dD (fF _ _) hRml;have hrl:(aE .i64 (dl (l+1) (dv Rm))).length=l+1:=by rw[bE,mn]
       have hrg: ∀k,k<l+1->(aE .i64 (dl (l+1) (dv Rm))).getD k .u= .v (.i .i64 (dv Rm k:Nat)):=fun k hk=>by rw[dy (by rw[mn];exact hk),uz hk]
       clear hRm eq1 eq2;generalize num a/num b=Qf at*;refine aq (α:=Nat) (fun i=>n-i) (fun i=>⟨[(10,E' s),(11,E' n),(14, .rs 1025 0 0 (l+1) 1),(16, .rs 1036 0 0 L 1),(26, .rs 1046 0 0 n 1),(258,E' n),(259,E' i)],[(1025,⟨0,aE .i64 (dl (l+1) (dv Rm)),false,none⟩),(1036,⟨0,aH (be L Qf),false,none⟩),(1046,⟨0,aH (List.replicate (n-i) 0++be i (Rm/2^s)),false,none⟩)],_⟩) (fun i=>i<=n) 0 (fun _=>aB _) (aT _) ?_ ?_
       ·rw[Nat.sub_zero,show be 0 (Rm/2^s)=[]from rfl,jr]
        exact lE
       ·intro i hi R1 hR1;have hbl:=oF n i (Rm/2^s) hi
        by_cases hlt:i<n
        ·have hgo1:=hR1 (i+1) oO oO;have e1:=hrg i oO;have e2:=hrg (i+1) oO;have b1:=py Rm i;have b2:=py Rm (i+1);have hu:=Gn Rm i s s7;generalize dv Rm i=x1 at*;generalize dv Rm (i+1)=x2 at*;obtain⟨z,hz⟩: ∃z,z=x1+x2*256:=⟨_,rfl⟩;have eO:Gu .i64 (x1:Int) ((x2:Int)*256)=(z:Int):=by rw[hz];exact orL b2 b1
         rw[<-hz]at hu;have hi1:((i:Int)+1).toNat=i+1:=oO;have hni:((n:Int)-1-i).toNat=n-1-i:=oO;obtain⟨bb,hbb⟩: ∃bb,bb=List.replicate (n-i) 0++be i (Rm/2^s):=⟨_,rfl⟩;have p1:List.take (n-1-i) (aH bb)++[AV.v (.i .u8 ((UInt8.ofNat (z/2^s)).toNat:Int))]++List.drop (n-1-i+1) (aH bb)=aH (bb.set (n-1-i) (UInt8.ofNat (z/2^s))):=sj (by rw[hbb,hbl];omega) rfl
         have p2:bb.set (n-1-i) (UInt8.ofNat (z/2^s))=List.replicate (n-(i+1)) 0++be (i+1) (Rm/2^s):=by
          rw[hbb,iE hlt,be];congr 2;refine jN.1 ?_;rw[iK,iK];exact hu
         rw[<-p2]at hgo1;rw[<-hbb]at hbl⊢;have hir:decide ((i:Int)+1<(l:Int)+1)=true:=aS oO;clear hR1 hu hz p2 hbb;exact ua (aN @hrl (aN @hbl (aN @e1 (aN @e2 (aN @eO (aN @hi1 (aN @hni (aN @hS64 (aN @kK (aN @p1 @hir)))))))))) @hgo1
        ·obtain rfl:n=i:=oO;have t1:=kq (be L Qf);have t2:=kq (be n (Rm/2^s));have l1:(be L Qf).length=L:=cA _ _;have l2:(be n (Rm/2^s)).length=n:=cA _ _;rw[jK hQl]at t1;rw[jK hRel]at t2;clear hR1;repeat' first|simp only[go_sem,seval,l1,l2,iX,List.replicate_zero,List.nil_append]|(refine iD t1 rfl rfl l1.symm ?_)|(refine iD t2 rfl rfl l2.symm ?_)|refine oE ?_|apply xX<;>intro hc
      |succ j=>
       have hgo:=hRr j oO oO;obtain⟨cur,hcur⟩: ∃cur,cur=R%(D*256^(j+1)):=⟨_,rfl⟩;obtain⟨Qj,hQj⟩: ∃Qj,Qj=R/(D*256^(j+1)):=⟨_,rfl⟩;have hst:=QT (R:=R) (j:=j) hD0;rw[<-hcur,<-hQj]at hst;obtain⟨U,hU⟩: ∃U,U=cur/256^j:=⟨_,rfl⟩;rw[<-hU]at hst;obtain⟨st1,st2,st3,st4⟩:=hst;rw[st2,st3]at hgo;rw[<-hcur,<-hQj];obtain⟨gs1,gs2,gs3⟩:=Ng n1 D1 D2 st1;have hdU: ∀k,dv U k=dv cur (k+j):=fun k=>by rw[hU];exact MG ..
       have hj1:((j+1:Nat):Int)-1=j:=oO;have hjn:((j:Int)+n).toNat=j+n:=oO;have hjn1:((j:Int)+n-1).toNat=j+n-1:=oO;have hn1:((n:Int)-1).toNat=n-1:=oO;have hrl:(aE .i64 (dl (l+1) (dv cur))).length=l+1:=by rw[bE,mn]
       have hrg: ∀k,k<l+1->(aE .i64 (dl (l+1) (dv cur))).getD k .u= .v (.i .i64 (dv cur k:Nat)):=fun k hk=>by rw[dy (by rw[mn];exact hk),uz hk]
       have e1:=hrg (j+n) oO;have e2:=hrg (j+n-1) oO;have e3:=hcl (n-1) oO;rw[hdU,hdU,show n+j=j+n by omega,show n-1+j=j+n-1 by omega]at gs2
       have b1:=py cur (j+n);have b2:=py cur (j+n-1);have b3:=py D (n-1);generalize hx1:dv cur (j+n)=x1 at*;generalize dv cur (j+n-1)=x2 at*;generalize dv D (n-1)=x3 at*;clear hRr;obtain⟨y,hy⟩: ∃y,y=x1*256+x2:=⟨_,rfl⟩;rw[<-hy]at gs2;have eO:Gu .i64 ((x1:Int)*256) (x2:Int)=(y:Int):=by rw[hy];exact orS (s:=8) oC b1 b2
       have bq:y/x3<=65535:=fV (fF _ _) oO;obtain⟨gq,hgq⟩: ∃gq,gq=y/x3:=⟨_,rfl⟩;obtain⟨gu,hgu⟩: ∃gu,gu=min gq 255:=⟨_,rfl⟩;have eI: ∀ _:True,(if(255:Int)<(gq:Int)then(255:Int)else(gq:Int))=(gu:Int):=fun _=>by rw[hgu];split<;>omega
       have gu1:U/D<=gu:=oO;have gu2:gu<=255:=oO;repeat' first|simp only[go_sem,seval,hj1,hjn,hjn1,hn1,hrl,hdn,e1,e2,e3,eO,hgq.symm,eI oT]|refine oE ?_|apply xX<;>intro hc
       clear eI hgu hgq bq hy e1 e2 e3 gs1 gs2 gs3 b2 b3 eO hrg hjn1;obtain⟨qb,hqb⟩: ∃qb,qb=be (L-(j+1)) Qj++List.replicate (j+1) 0:=⟨_,rfl⟩;rw[<-hqb];refine aq (α:=Nat×Nat×Nat) (fun p=>n-p.1) (fun p=>⟨[(10,E' s),(11,E' n),(12, .rs 1017 0 0 n 1),(14, .rs 1025 0 0 (l+1) 1),(16, .rs 1036 0 0 L 1),(17,E' j),(18,E' gu),(19,E' p.2.1),(20,E' p.2.2),(161,E' n),(162,E' p.1)],[(1017,⟨0,aE .i64 (dl n (dv D)),false,none⟩),(1025,⟨0,aE .i64 (dl (l+1) (dX (dv cur) j p.1 (U-gu*D))),false,none⟩),(1036,⟨0,aH qb,false,none⟩)],_⟩) (fun p=>p.1<=n/\p.2.1<=255/\p.2.2<=1/\cy U D (-(gu:Int)) p.1= -((p.2.1+p.2.2:Nat):Int)) (0,0,0) (fun _=>aB _) ⟨aT _,aT _,aT _,by rw[HX];rfl⟩ ?_ ?_
       ·rw[HY];exact lE
       ·rintro⟨i,c,bo⟩ ⟨hi,hc1,hb1,hcy⟩ R1 hR1;simp only at hi hc1 hb1 hcy;obtain⟨rl,hrl1⟩: ∃rl,rl=dl (l+1) (dX (dv cur) j i (U-gu*D)):=⟨_,rfl⟩;have rl1:rl.length=l+1:=by rw[hrl1,mn]
        have rl2:(aE .i64 rl).length=l+1:=by rw[bE,rl1]
        rw[<-hrl1]
        by_cases hlt:i<n
        ·have e1:=hcl i hlt;have hij:((i:Int)+j).toNat=i+j:=oO;have e2:(aE .i64 rl).getD (i+j) .u= .v (.i .i64 (dv cur (i+j):Nat)):=by rw[dy oO,hrl1,uz oO,SI]
         have hs1:=Ux U D gu i hcy;rw[hdU]at hs1;have hdg:=HZ ((U:Int)-gu*D) i;have b4:=py cur (i+j);have b5:=py D i;have hset:=fun v hv=>MA (N:=l+1) (dv cur) j i ((U:Int)-gu*D) (v:=v) hv
         rw[<-hrl1]at hset;generalize hrr:dv cur (i+j)=rr at*;generalize dv D i=dd at*;have b6:gu*dd<=255*255:=jq gu2 oO;have f1:IntKind.i64.wrap ((gu:Int)*dd)=((gu*dd:Nat):Int):=by rw[<-Int.natCast_mul,IntWalk.i64_in _ oO]
         generalize gu*dd=gd at*;obtain⟨c1,hc1'⟩: ∃c1,c1=c+gd:=⟨_,rfl⟩;have f2:IntKind.i64.wrap ((c:Int)+(gd:Int))=(c1:Int):=by rw[IntWalk.i64_in _ oO];omega
         have f3:my .i64 (c1:Int) 255=((c1%256:Nat):Int):=Cg oO;generalize hX:wB ((U:Int)-gu*D) i=dg at*;generalize hcn:cy (↑U) (↑D) (-↑gu) (i+1)=cn at*
         by_cases hx:(rr:Int)-((c1%256:Nat):Int)-bo<0
         ·have hv:((dg.toNat:Nat):Int)=dg:=o9 hdg.1;have hvv:(rr:Int)-((c1%256:Nat):Int)-bo+256=dg:=oO;have hgo1:=hR1 (i+1,c1/256,1) ⟨by show i+1<=n;omega,by show c1/256<=255;omega,by show 1<=1;omega,by show cy U D (-(gu:Int)) (i+1)= -((c1/256+1:Nat):Int);rw[hcn];omega⟩ (by show n-(i+1)<n-i;omega)
          rw[<-hset _ hv]at hgo1;have p1:List.take (i+j) (aE .i64 rl)++[AV.v (.i .i64 ((rr:Int)-((c1%256:Nat):Int)-bo+256))]++List.drop (i+j+1) (aE .i64 rl)=aE .i64 (rl.set (i+j) dg.toNat):=fg oO oO;clear hR1 hset hs1 hcy hX hcn;exact ua (aN @rl2 (aN @hdn (aN @e1 (aN @e2 (aN @hij (aN @f1 (aN @f2 (aN @f3 @p1)))))))) @hgo1
         ·have hv:((dg.toNat:Nat):Int)=dg:=o9 hdg.1;have hvv:(rr:Int)-((c1%256:Nat):Int)-bo=dg:=oO;have hgo1:=hR1 (i+1,c1/256,0) ⟨by show i+1<=n;omega,by show c1/256<=255;omega,by show 0<=1;omega,by show cy U D (-(gu:Int)) (i+1)= -((c1/256+0:Nat):Int);rw[hcn];omega⟩ (by show n-(i+1)<n-i;omega)
          rw[<-hset _ hv]at hgo1;have p1:List.take (i+j) (aE .i64 rl)++[AV.v (.i .i64 ((rr:Int)-((c1%256:Nat):Int)-bo))]++List.drop (i+j+1) (aE .i64 rl)=aE .i64 (rl.set (i+j) dg.toNat):=fg oO oO;clear hR1 hset hs1 hcy hX hcn;exact ua (aN @rl2 (aN @hdn (aN @e1 (aN @e2 (aN @hij (aN @f1 (aN @f2 (aN @f3 @p1)))))))) @hgo1
        ·obtain rfl:n=i:=oO;have e1:(aE .i64 rl).getD (j+n) .u= .v (.i .i64 (x1:Int)):=by rw[dy oO,hrl1,uz oO,Uy,hx1]
         obtain⟨X,hX⟩: ∃X,X=(U:Int)-gu*D:=⟨_,rfl⟩;rw[<-hX]at hrl1;have htop:(x1:Int)-c-bo=X/256^n:=by
          have h1:U<256*256^n:=gj st1 (Jg D2 oC);have h2:=R6 h1 D2 hcy;rw[hdU,gJ n j,hx1]at h2;rw[hX,<-h2];omega
         clear hR1 hcy;refine eJ (aN @rl2 (aN @hdn (aN @hjn (aN @e1 @htop)))) ?_;rw[hrl1,hX];clear hrl1 rl1 rl2 hX htop e1;refine aq (α:=Nat) (fun g=>g) (fun g=>⟨[(10,E' s),(11,E' n),(12, .rs 1017 0 0 n 1),(14, .rs 1025 0 0 (l+1) 1),(16, .rs 1036 0 0 L 1),(17,E' j),(18,E' g),(23, .v (.i .i64 (((U:Int)-g*D)/256^n)))],[(1017,⟨0,aE .i64 (dl n (dv D)),false,none⟩),(1025,⟨0,aE .i64 (dl (l+1) (dX (dv cur) j n ((U:Int)-g*D))),false,none⟩),(1036,⟨0,aH qb,false,none⟩)],_⟩) (fun g=>U/D<=g/\g<=255) gu (fun _=>aB _) ⟨gu1,gu2⟩ ?_ ?_
         ·exact lE
         ·clear gu1 gu2 gu;rintro g ⟨g1,g2⟩ R2 hR2
          by_cases hX0:(U:Int)-g*D<0
          ·have hg0:U/D<g:=by
            rw[iL hD0];have h:(U:Int)<(g:Int)*D:=oO;exact_mod_cast h
           have hg00:0<g:=dD (aT _) hg0;obtain⟨g',rfl⟩: ∃g',g=g'+1:=⟨g-1,oO⟩;have hgo2:=hR2 g' ⟨Nat.le_of_lt_succ hg0,oO⟩ (xp _);have hXb: -256<=((U:Int)-((g'+1:Nat):Int)*D)/256^n:=by
            rw[Int.le_ediv_iff_mul_le (KA n)];have h1:(g'+1)*D<=256*256^n:=jq oO (kB D2);have h2:((g'+1:Nat):Int)*(D:Int)<=256*256^n:=by exact_mod_cast h1
            rw[tR];omega
           have hXD:(U:Int)-(g':Nat)*D=(U-((g'+1:Nat):Int)*D)+D:=by
            rw[Int.natCast_add,Int.add_mul];omega
           rw[hXD]at hgo2;obtain⟨X,hX⟩: ∃X,X=(U:Int)-((g'+1:Nat):Int)*D:=⟨_,rfl⟩;rw[<-hX]at hgo2 hX0 hXb⊢;have ht0:decide (X/256^n<0)=true:=aS (Jh hX0 (KA n));have hg1:((g'+1:Nat):Int)-1=g':=oO;clear hX hXD hR2;repeat' first|simp only[go_sem,seval,ht0,hg1]|refine oE ?_|apply xX<;>intro hc
           refine aq (α:=Nat×Nat) (fun p=>n-p.1) (fun p=>⟨[(10,E' s),(11,E' n),(12, .rs 1017 0 0 n 1),(14, .rs 1025 0 0 (l+1) 1),(16, .rs 1036 0 0 L 1),(17,E' j),(18,E' g'),(23, .v (.i .i64 (X/256^n))),(24,E' p.2),(211,E' n),(212,E' p.1)],[(1017,⟨0,aE .i64 (dl n (dv D)),false,none⟩),(1025,⟨0,aE .i64 (dl (l+1) (dX (dX (dv cur) j n X) j p.1 (X+D))),false,none⟩),(1036,⟨0,aH qb,false,none⟩)],_⟩) (fun p=>p.1<=n/\p.2<=1/\cy X D 1 p.1=p.2) (0,0) (fun _=>aB _) ⟨aT _,aT _,by rw[HX];rfl⟩ ?_ ?_
           ·rw[HY];exact lE
           ·rintro⟨i,c⟩ ⟨hi,hc1,hcy⟩ R3 hR3;simp only at hi hc1 hcy;obtain⟨rl,hrl1⟩: ∃rl,rl=dl (l+1) (dX (dX (dv cur) j n X) j i (X+D)):=⟨_,rfl⟩;have rl1:rl.length=l+1:=by rw[hrl1,mn]
            have rl2:(aE .i64 rl).length=l+1:=by rw[bE,rl1]
            rw[<-hrl1]
            by_cases hlt:i<n
            ·have e1:=hcl i hlt;have hij:((i:Int)+j).toNat=i+j:=oO;have e2:(aE .i64 rl).getD (i+j) .u= .v (.i .i64 (dX (dv cur) j n X (i+j):Nat)):=by rw[dy oO,hrl1,uz oO,SI]
             have hr:=Xn (dv cur) (j:=j) X hlt;have hset:=fun v hv=>MA (N:=l+1) (dX (dv cur) j n X) j i (X+D) (v:=v) hv
             rw[<-hrl1]at hset;generalize dX (dv cur) j n X (i+j)=rr at*;obtain⟨s1,s2⟩:=LO hr hcy;have b4:=HZ X i;have b5:=py D i;rw[<-hr]at b4;generalize dv D i=dd at*;obtain⟨c1,hc1'⟩: ∃c1,c1=c+rr+dd:=⟨_,rfl⟩;rw[<-hc1']at s1 s2;have f2:(c:Int)+((rr:Int)+(dd:Int))=(c1:Int):=oO;have f3:my .i64 (c1:Int) 255=((c1%256:Nat):Int):=Cg oO;have hgo3:=hR3 (i+1,c1/256) ⟨by show i+1<=n;omega,by show c1/256<=1;omega,s1⟩ (by show n-(i+1)<n-i;omega)
             rw[<-hset _ s2.symm]at hgo3;have p1:List.take (i+j) (aE .i64 rl)++[AV.v (.i .i64 ((c1%256:Nat):Int))]++List.drop (i+j+1) (aE .i64 rl)=aE .i64 (rl.set (i+j) (c1%256)):=fg oO rfl;clear hR3 hset s1 s2 hcy hr;exact ua (aN @rl2 (aN @hdn (aN @e1 (aN @e2 (aN @hij (aN @f2 (aN @f3 @p1))))))) @hgo3
            ·obtain rfl:n=i:=oO;have htp:=PJ D2 hcy;rw[<-htp]at hgo2;rw[Xm]at hrl1;rw[<-hrl1]at hgo2;have hXn:=Jh hX0 (KA n);have e: ∀ _:True,IntKind.i64.wrap (X/256^n+(c:Int))=X/256^n+c:=fun _=>IntWalk.i64_in _ oO
             clear hR3 hcy htp hrl1 rl1 rl2;exact ua (e oT) @hgo2
          ·have hgU:g*D<=U:=by
            have h:(g:Int)*D<=(U:Int):=oO;exact_mod_cast h
           have hX1:U/D=g:=Dl g1 ((tC hD0).2 hgU);have hX2:(U:Int)-g*D=((U%D:Nat):Int):=by
            have h:=iY U D;rw[hX1,bw]at h;have h2:((g*D:Nat):Int)+((U%D:Nat):Int)=U:=by exact_mod_cast h
            rw[Int.natCast_mul]at h2;omega
           have hUD:=aL U hD0;have hXl:U%D<256^n:=gj hUD D2;have ht0:((U%D:Nat):Int)/256^n=0:=Dn oO (by exact_mod_cast hXl)
           rw[hX2,ht0];obtain⟨rl,hrl1⟩: ∃rl,rl=dl (l+1) (dX (dv cur) j n ((U%D:Nat):Int)):=⟨_,rfl⟩;have rl1:rl.length=l+1:=by rw[hrl1,mn]
           have rl2:(aE .i64 rl).length=l+1:=by rw[bE,rl1]
           have hcb:cur<256^(j+n+1):=by
            have h1:cur<256*D*256^j:=by
             rw[<-iL (il oC),<-hU];exact st1
            refine ba h1 ?_;rw[show j+n+1=1+n+j by omega,cF,cF,Nat.pow_one]
            exact cK _ (lu _ (kB D2))
           have hr2:rl.set (j+n) 0=dl (l+1) (dv (U%D*256^j+cur%256^j)):=by
            rw[hrl1,BZ (g:=fun k=>if k=j+n then 0 else dX (dv cur) j n ((U%D:Nat):Int) k) (fun _=>ah rfl) (fun k _ hk=>af hk)]
            exact x9 fun k _=>Qq hcb hXl k
           have hq2:qb.set (L-1-j) (UInt8.ofNat g)=be (L-j) (256*Qj+U/D)++List.replicate j 0:=by
            have e1:be (L-j) (256*Qj+U/D)=be (L-(j+1)) Qj++[UInt8.ofNat g]:=by
             rw[show L-j=L-(j+1)+1 by omega,xN,show(256*Qj+U/D)/256^1=Qj by omega]
             congr 1;simp only[be,Nat.pow_zero,jO,hX1];rw[show 256*Qj+g=g+256*Qj by omega]
             simp[UInt8.ofNat_add,UInt8.ofNat_mul]
            rw[e1,hqb,show L-1-j=(be (L-(j+1)) Qj).length by rw[cA];omega,List.replicate_succ]
            simp
           have hql:qb.length=L:=by rw[hqb];simp[cA];omega
           have p1:List.take (j+n) (aE .i64 rl)++[AV.v (.i .i64 0)]++List.drop (j+n+1) (aE .i64 rl)=aE .i64 (rl.set (j+n) 0):=fg oO rfl;have p2:List.take (L-1-j) (aH qb)++[AV.v (.i .u8 ((UInt8.ofNat g).toNat:Int))]++List.drop (L-1-j+1) (aH qb)=aH (qb.set (L-1-j) (UInt8.ofNat g)):=sj oO rfl;have hLj:((L:Int)-1-j).toNat=L-1-j:=oO;rw[<-hr2,<-hq2]at hgo;rw[<-hrl1];have hlt0:decide ((0:Int)<0)=false:=by decide
           clear hX2 ht0 hrl1 hr2 hq2 hX0 hR2 hcb hXl hUD hgU hX1 hU;exact ua (aN @rl2 (aN @hql (aN @hjn (aN @p1 (aN @p2 (aN @hLj (aN @kK @hlt0))))))) @hgo
