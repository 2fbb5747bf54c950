/- Part of the proof. -/
import Derived.Test.YtnhhajlcpjgkjaaGreatDoorUC22
set_option linter.all false
set_option maxHeartbeats 16000000
set_option maxRecDepth 100000
namespace Go.Proofs.Tryz
open Go Go.Dom
variable {D c:Nat} {a b:Bytes}
theorem lz8: ∀x:Fin 256,x.1≠0->Lib.bitLen x.1<=8/\8-Lib.bitLen x.1<=7/\128<=x.1*2^(8-Lib.bitLen x.1)/\x.1*2^(8-Lib.bitLen x.1)<256:=by decide+kernel
theorem tU (x:Nat) (h:x<256):aE 406 [.i .u8 x] (E ((8-Lib.bitLen x:Nat):Int)):=by
 have h1:=Hd x h;have h2:=ji h;refine eW call406 func406 ?_;repeat' first|simp only[go_sem,seval]|refine cP h1 ?_|refine oE ?_|apply xX<;>intro hc
 all_goals (congr 1;congr 1;omega)
theorem sB (a:Bytes) (i:Nat) (ha:a.length<4611686018427387904):aE 133 [.s a,E i] (E (dv (num a) i:Nat)):=kJ a i ha
theorem LP (x j k:Nat):dv (x/256^j) k=dv x (k+j):=by
 unfold dv;rw[eL,<-cY,gn j k]
theorem P0 {R j:Nat} (hD:0<D):R%(D*256^(j+1))/256^j<256*D/\R%(D*256^j)=R%(D*256^(j+1))/256^j%D*256^j+R%(D*256^(j+1))%256^j/\
  R/(D*256^j)=256*(R/(D*256^(j+1)))+R%(D*256^(j+1))/256^j/D/\R%(D*256^(j+1))/256^j/D<256:=by
 have hB:0<256^j:=gT oC;have hM:0<D*256^j:=oQ hD hB;have eM:D*256^(j+1)=D*256^j*256:=by rw[Nat.pow_succ,cA]
 have hlt:R%(D*256^(j+1))<D*256^j*256:=by rw[<-eM];exact aP _ oO
 have h1:R%(D*256^(j+1))/256^j<256*D:=by
  rw[im hB,cA,bU 256];exact hlt
 refine⟨h1,?_,?_,?_⟩
 ·rw[show R%(D*256^j)=R%(D*256^(j+1))%(D*256^j)from(wE _ ⟨256,eM⟩).symm]
  generalize R%(D*256^(j+1))=c;rw[bU D,oS,bU (256^j),gn]
 ·rw[eL,bU (256^j) D];have e:=ik R (D*256^(j+1));generalize R%(D*256^(j+1))=c at*;generalize R/(D*256^(j+1))=q at*;rw[<-e,eM,cA,wC hM]
 ·rw[im hD];exact h1
theorem TG (U D gu i:Nat) {e:Nat} (h:cy U D (-(gu:Int)) i= -(e:Int)):(dv U i:Int)-((gu*dv D i:Nat):Int)-e=256*cy U D (-(gu:Int)) (i+1)+vT ((U:Int)-gu*D) i:=by
 have hs:=Hu U D (-(gu:Int)) i;have e1: -(gu:Int)*(dv D i:Nat)= -((gu*dv D i:Nat):Int):=by rw[Int.natCast_mul,tB]
 have e2:(U:Int)+ -(gu:Int)*D=U-gu*D:=by rw[tB];rfl
 rw[h,vU,vU,e1,e2]at hs;generalize gu*dv D i=x at*;omega
theorem Rb {U D gu n e:Nat} (hU:U<256*256^n) (hD:D<256^n) (h:cy U D (-(gu:Int)) n= -(e:Int)):((dv U n:Nat):Int)-e=((U:Int)-gu*D)/256^n:=by
 have hc:=FM U D (-(gu:Int)) n;have e2:(U:Int)+ -(gu:Int)*D=U-gu*D:=by rw[tB];rfl
 have h1:U/256^n<256:=by rw[im (gT oC)];exact hU
 have h2:(U:Int)/256^n=(dv U n:Nat):=by
  unfold dv;rw[bw h1,Int.natCast_ediv,Int.natCast_pow];rfl
 have p0:((256^n:Nat):Int)=256^n:=by rw[Int.natCast_pow];rfl
 have h3:(D:Int)/256^n=0:=wR oO oO;rw[h,e2,h2,h3,Int.mul_zero]at hc;omega
theorem KM {X:Int} {i r:Nat} (hr:(r:Int)=vT X i) (h:cy X D 1 i=c):cy X D 1 (i+1)=((c+r+dv D i)/256:Nat)/\vT (X+D) i=((c+r+dv D i)%256:Nat):=by
 have hs:=Hu X D 1 i;rw[h,<-hr,vU,wI,wI]at hs;have:=Hx (X+D) i;omega
theorem OY {X:Int} {n:Nat} (hD:D<256^n) (h:cy X D 1 n=c):X/256^n+c=(X+D)/256^n:=by
 have hc:=FM X D 1 n;have p0:((256^n:Nat):Int)=256^n:=by rw[Int.natCast_pow];rfl
 have h3:(D:Int)/256^n=0:=wR oO oO;rw[h,h3,wI,Int.mul_zero]at hc;omega
theorem WV (f:Nat->Nat) (j n:Nat) (X Y:Int):dX (dX f j n X) j n Y=dX f j n Y:=by
 funext k;unfold dX;split<;>simp_all
theorem Hy (N:Nat) (f:Nat->Nat):List.replicate N 0=dl N (fun k=>if k<0 then f k else 0):=by
 rw[show(fun k=>if k<0 then f k else 0)=fun _=>0 from by funext k;rw[af (qz _)]]
 simp[dl,List.map_const']
structure LD (a b:Bytes) (s n l D R:Nat):Prop where
 s7:s<=7
 n1:1<=n
 ln:n<=l
 l128:l<=128
 hs:(b.getD 0 0).toNat<256/\8-Lib.bitLen (b.getD 0 0).toNat=s
 hn:b.length=n
 hl:a.length=l
 hD:D=num b*2^s
 hR:R=num a*2^s
 D1:128*256^(n-1)<=D
 D2:D<256^n
 R2:R<D*256^(l-n+1)
theorem LD.mk' (ha:aa a=true) (hb:aa b=true) (h0:0<num b) (hge:num b<=num a): ∃s n l D R,LD a b s n l D R:=by
 have hbn:b≠[]:=fun e=>by rw[e]at h0;exact aM h0 oC
 obtain⟨c,r,rfl⟩: ∃c r,b=c::r:=by cases b with
  |nil=>exact aM rfl hbn
  |cons c r=>exact⟨c,r,rfl⟩
 have hc0:c≠0:=by
  rcases bG hb with h|h
  ·cases h
  ·simpa using h
 have hc1:c.toNat≠0:=fun e=>hc0 (jB.1 (by simpa using e))
 obtain⟨z1,z2,z3,z4⟩:=lz8 ⟨c.toNat,c.toNat_lt⟩ hc1;simp only at z1 z2 z3 z4;obtain⟨s,hs⟩: ∃s,s=8-Lib.bitLen c.toNat:=⟨_,rfl⟩;rw[<-hs]at z2 z3 z4;have hr:=ct r;have hP:0<2^s:=gT oC;have hB:0<256^r.length:=gT oC;have hnum:num (c::r)=c.toNat*256^r.length+num r:=rfl;have hln:(c::r).length<=a.length:=by
  rcases iN a.length (c::r).length with g|g
  ·have:=ix (a:=a) (bG hb) g;omega
  ·exact g
 have hDlt:num (c::r)*2^s<256^(r.length+1):=by
  have h1:num (c::r)<(c.toNat+1)*256^r.length:=by rw[hnum,dc];omega
  have h2:(c.toNat+1)*2^s<=256:=by
   have h3:c.toNat*2^s+2^s<=256:=by
    have:2^s∣256:=⟨2^(8-s),by rw[<-cY,show s+(8-s)=8 by omega]⟩
    obtain⟨q,hq⟩:=this;have h4:c.toNat<q:=by
     refine Nat.lt_of_mul_lt_mul_left (a:=2^s) ?_;rw[<-hq,bU];exact z4
    have h5:(c.toNat+1)*2^s<=q*2^s:=dq _ h4;rw[dc,iv,bU q,<-hq]at h5;exact h5
   rw[dc,iv];exact h3
  refine b9 (CL h1 hP) ?_;rw[C2,Nat.pow_succ,bU (256^r.length)];exact dq _ h2
 refine⟨s,r.length+1,a.length,num (c::r)*2^s,num a*2^s,z2,oO,hln,dD ha,⟨c.toNat_lt,hs.symm⟩,rfl,rfl,rfl,rfl,?_,hDlt,?_⟩
 ·rw[qu];refine fQ (dq _ z3) ?_;rw[C2];exact dq _ (by rw[hnum];omega)
 ·rw[C2];refine CL ?_ hP;have h1:=ct a;have h2:256^r.length<=num (c::r):=by
   have:=nI (bG hb) hbn;simpa using this
  refine b9 h1 ?_;rw[show a.length=r.length+(a.length-(r.length+1)+1) by simp only[List.length_cons]at hln;omega,cY]
  rw[show r.length+(a.length-(r.length+1)+1)-(r.length+1)+1=a.length-(r.length+1)+1 by simp only[List.length_cons]at hln;omega]
  exact dq _ h2
theorem XM {s x:Nat} (hs:s<=7) (hx:x<256):me .i64 (IntKind.i64.wrap ((x:Int)*2^s)) 255=((x*2^s%256:Nat):Int):=by
 have h1:2^s<=2^7:=cM oC hs;have h2:x*2^s<=256*2^7:=j9 (j3 hx) h1;rw[show(x:Int)*2^s=((x*2^s:Nat):Int) by rw[Int.natCast_mul,Int.natCast_pow];rfl,IntWalk.i64_in _ oO]
 exact BM oO
theorem sOr {s x y:Nat} (hs:s<=7) (hy:y<256):FW .i64 ((x*2^s%256:Nat):Int) ((y/2^(8-s):Nat):Int)=((x*2^s%256+y/2^(8-s):Nat):Int):=by
 have e:x*2^s%256=x%2^(8-s)*2^s/\y/2^(8-s)<2^s/\x%2^(8-s)<256:=by
  obtain rfl|rfl|rfl|rfl|rfl|rfl|rfl|rfl:s=0\/s=1\/s=2\/s=3\/s=4\/s=5\/s=6\/s=7:=oO;all_goals simp only[Nat.reducePow,Nat.reduceSub,Nat.pow_zero];omega
 rw[e.1];exact orS oO e.2.2 e.2.1
theorem Jk (ha:aa a=true) (hb:aa b=true) (h0:0<num b) (h8:8<a.length) (hge:num b<=num a):aE 288 [.s a, .s b] (.tup [N (num a/num b),N (num a%num b)]):=by
 have hc:=oe (bG ha) (bG hb);have hc':0<=aZ (num a) (num b):=by unfold aZ;split<;>(try split)<;>omega
 obtain⟨s,n,l,D,R,s7,n1,ln,l128,hs,hn,hl,hD,hR,D1,D2,R2⟩:=LD.mk' ha hb h0 hge;have hlz:=tU _ hs.1;rw[hs.2]at hlz;generalize aZ (num a) (num b)=cm at*;have hL: ∀ _:True,decide ((l:Int)<=8)=false:=fun _=>bL oO
 have hS64:(if s<=64 then s else 64)=s:=ah oO
 have hT64:(if(8-(s:Int)).toNat<=64 then(8-(s:Int)).toNat else 64)=8-s:=by rw[ah oO];omega
 have hrep:List.replicate n 0=dl n (fun k=>if k<0 then dv D k else 0):=Hy ..
 refine eW call288 func288 ?_;repeat' first|simp only[go_sem,seval,hl,hn,hL oT,rz,-List.reduceReplicate]|refine cP hc ?_|refine cP hlz ?_|refine oE ?_|apply xX<;>intro hc
 rw[hrep];refine ak (α:=Nat) (fun i=>n-i) (fun i=>⟨[(0, .v (.s a)),(1, .v (.s b)),(10,E' s),(11,E' n),(12, .rs 1017 0 0 n 1),(62,E' n),(63,E' i)],[(1017,⟨0,aF .i64 (dl n fun k=>if k<i then dv D k else 0),false,none⟩)],_⟩) (fun i=>i<=n) 0 (fun _=>aD _) (aR _) ?_ ?_
 ·exact lE
 ·intro i hi R' hR'
  by_cases hlt:i<n
  ·have hd:=sB b i oO;obtain⟨L,hL⟩: ∃L,L=dl n fun k=>if k<i then dv D k else 0:=⟨_,rfl⟩
   have hLl:L.length=n:=by rw[hL,l8]
   have q1:(aF .i64 L).length=n:=by rw[br,hLl]
   have p1: ∀x:Nat,List.take i (aF .i64 L)++[.v (.i .i64 (x:Int))]++List.drop (i+1) (aF .i64 L)=aF .i64 (L.set i x):=fun x=>dT oO rfl
   have p2: ∀x:Nat,(aF .i64 (L.set i x)).length=n:=fun x=>by rw[br,nj,hLl]
   have p3: ∀x:Nat,(aF .i64 (L.set i x)).getD i .u= .v (.i .i64 (x:Int)):=fun x=>by
    rw[du (by rw[nj];omega)];simp[ca,hLl,hlt]
   have p4: ∀x y:Nat,List.take i (aF .i64 (L.set i x))++[.v (.i .i64 (y:Int))]++List.drop (i+1) (aF .i64 (L.set i x))=aF .i64 (L.set i y):=fun x y=>by
    rw[dT (by rw[nj];omega) rfl,List.set_set]
   have he: ∀y,y=dv D i->(dl n fun k=>if k<i+1 then dv D k else 0)=L.set i y:=fun y hy=>by
    rw[hL];exact(BC (fun _=>by rw[ah (wD i),hy]) fun k _ hk=>by simp only[Nat.lt_succ_iff_lt_or_eq,hk,or_false]).symm
   have hgo:=hR' (i+1) oO oO;have x1:=o9 (num b) i;have sv: ∀x:Nat,x<256->me .i64 (IntKind.i64.wrap ((x:Int)*2^s)) 255=((x*2^s%256:Nat):Int):=fun x hx=>XM s7 hx
   have sx:=sv _ x1;rw[<-hL];clear hR'
   by_cases hi0:i=0
   ·subst hi0;have e0:=Ar (num b) s;rw[<-hD]at e0;rw[he _ e0.symm]at hgo;have p0: ∀x:Nat,AV.v (.i .i64 (x:Int))::List.drop 1 (aF .i64 L)=aF .i64 (L.set 0 x):=fun x=>p1 x
    exact kp (aN @q1 (aN @p0 (aN @p2 (aN @hS64 @sx)))) @hgo @hd
   ·obtain⟨j,rfl⟩: ∃j,i=j+1:=⟨i-1,oO⟩;have e0:=DO (num b) j s s7;rw[<-hD]at e0;rw[he _ e0.symm]at hgo;have so:=sOr (x:=dv (num b) (j+1)) s7 (o9 (num b) j);have hj1:((j+1:Nat):Int)-1=j:=oO;have hd2:=sB b j oO;exact zu (aN @q1 (aN @p1 (aN @p2 (aN @p3 (aN @p4 (aN @hS64 (aN @sx (aN @hj1 (aN @hT64 @so))))))))) @hgo @hd @hd2
  ·obtain rfl:n=i:=oO;have hdl:(dl n fun k=>if k<n then dv D k else 0)=dl n (dv D):=xM fun k hk=>ah hk
   have hN1:((l:Int)+1).toNat=l+1:=oO;have hrep2:List.replicate (l+1) 0=dl (l+1) (fun k=>if k<0 then dv R k else 0):=Hy ..
   rw[hdl];clear hR' hrep hdl;repeat' first|simp only[go_sem,seval,hl,hN1,rz,-List.reduceReplicate]|refine oE ?_|apply xX<;>intro hc
   rw[hrep2];refine ak (α:=Nat) (fun i=>l+1-i) (fun i=>⟨[(0, .v (.s a)),(1, .v (.s b)),(10,E' s),(11,E' n),(12, .rs 1017 0 0 n 1),(14, .rs 1025 0 0 (l+1) 1),(96,E' (l+1)),(97,E' i)],[(1017,⟨0,aF .i64 (dl n (dv D)),false,none⟩),(1025,⟨0,aF .i64 (dl (l+1) fun k=>if k<i then dv R k else 0),false,none⟩)],_⟩) (fun i=>i<=l+1) 0 (fun _=>aD _) (aR _) ?_ ?_
   ·exact lE
   ·clear hrep2;intro i hi R' hR'
    by_cases hlt:i<(l+1)
    ·have hd:=sB a i oO;obtain⟨L,hL⟩: ∃L,L=dl (l+1) fun k=>if k<i then dv R k else 0:=⟨_,rfl⟩
     have hLl:L.length=(l+1):=by rw[hL,l8]
     have q1:(aF .i64 L).length=(l+1):=by rw[br,hLl]
     have p1: ∀x:Nat,List.take i (aF .i64 L)++[.v (.i .i64 (x:Int))]++List.drop (i+1) (aF .i64 L)=aF .i64 (L.set i x):=fun x=>dT oO rfl
     have p2: ∀x:Nat,(aF .i64 (L.set i x)).length=(l+1):=fun x=>by rw[br,nj,hLl]
     have p3: ∀x:Nat,(aF .i64 (L.set i x)).getD i .u= .v (.i .i64 (x:Int)):=fun x=>by
      rw[du (by rw[nj];omega)];simp[ca,hLl,hlt]
     have p4: ∀x y:Nat,List.take i (aF .i64 (L.set i x))++[.v (.i .i64 (y:Int))]++List.drop (i+1) (aF .i64 (L.set i x))=aF .i64 (L.set i y):=fun x y=>by
      rw[dT (by rw[nj];omega) rfl,List.set_set]
     have he: ∀y,y=dv R i->(dl (l+1) fun k=>if k<i+1 then dv R k else 0)=L.set i y:=fun y hy=>by
      rw[hL];exact(BC (fun _=>by rw[ah (wD i),hy]) fun k _ hk=>by simp only[Nat.lt_succ_iff_lt_or_eq,hk,or_false]).symm
     have hgo:=hR' (i+1) oO oO;have x1:=o9 (num a) i;have sv: ∀x:Nat,x<256->me .i64 (IntKind.i64.wrap ((x:Int)*2^s)) 255=((x*2^s%256:Nat):Int):=fun x hx=>XM s7 hx
     have sx:=sv _ x1;rw[<-hL];clear hR'
     by_cases hi0:i=0
     ·subst hi0;have e0:=Ar (num a) s;rw[<-hR]at e0;rw[he _ e0.symm]at hgo;have p0: ∀x:Nat,AV.v (.i .i64 (x:Int))::List.drop 1 (aF .i64 L)=aF .i64 (L.set 0 x):=fun x=>p1 x
      exact kp (aN @q1 (aN @p0 (aN @p2 (aN @hS64 @sx)))) @hgo @hd
     ·obtain⟨j,rfl⟩: ∃j,i=j+1:=⟨i-1,oO⟩;have e0:=DO (num a) j s s7;rw[<-hR]at e0;rw[he _ e0.symm]at hgo;have so:=sOr (x:=dv (num a) (j+1)) s7 (o9 (num a) j);have hj1:((j+1:Nat):Int)-1=j:=oO;have hd2:=sB a j oO;exact zu (aN @q1 (aN @p1 (aN @p2 (aN @p3 (aN @p4 (aN @hS64 (aN @sx (aN @hj1 (aN @hT64 @so))))))))) @hgo @hd @hd2
    ·obtain rfl:l+1=i:=oO;have hdl:(dl (l+1) fun k=>if k<l+1 then dv R k else 0)=dl (l+1) (dv R):=xM fun k hk=>ah hk
     obtain⟨L,hL⟩: ∃L,L=l-n+1:=⟨_,rfl⟩;have hNL:((l:Int)-n+1).toNat=L:=oO;have hNj:(l:Int)-n=(L:Int)-1:=oO;rw[hdl];clear hR' hdl;have hNL2:((L:Int)-1+1).toNat=L:=oO;repeat' first|simp only[go_sem,seval,hl,hn,hNL,hNL2,hNj,nr,-List.reduceReplicate]|refine oE ?_|apply xX<;>intro hc
     have hD0:0<D:=b9 (oQ oC (gT oC)) D1;have hcl: ∀k,k<n->(aF .i64 (dl n (dv D))).getD k .u= .v (.i .i64 (dv D k:Nat)):=fun k hk=>by rw[du (by rw[l8];exact hk),uc hk]
     have hdn:(aF .i64 (dl n (dv D))).length=n:=by rw[br,l8]
     have hRL:R/(D*256^L)=0/\R%(D*256^L)=R:=by
      rw[hL];exact⟨ir R2,bw R2⟩
     refine ak (α:=Nat) (fun m=>m) (fun m=>⟨[(10,E' s),(11,E' n),(12, .rs 1017 0 0 n 1),(14, .rs 1025 0 0 (l+1) 1),(16, .rs 1036 0 0 L 1),(17, .v (.i .i64 ((m:Int)-1)))],[(1017,⟨0,aF .i64 (dl n (dv D)),false,none⟩),(1025,⟨0,aF .i64 (dl (l+1) (dv (R%(D*256^m)))),false,none⟩),(1036,⟨0,aJ (be (L-m) (R/(D*256^m))++List.replicate m 0),false,none⟩)],_⟩) (fun m=>m<=L) L (fun _=>aD _) (aD _) ?_ ?_
     ·rw[hRL.1,hRL.2,gS,show be 0 0=[]from rfl,List.nil_append]
      exact lE
     ·intro m hm Rr hRr
      cases m with
      |zero=>
       have hz1:((0:Nat):Int)-1= -1:=rfl;have hz2:decide ((-1:Int)>=0)=false:=rfl;rw[Nat.pow_zero,dK,Nat.sub_zero,List.replicate_zero,iu];clear hRr;repeat' first|simp only[go_sem,seval,hz1,hz2,nr,-List.reduceReplicate]|refine oE ?_|apply xX<;>intro hc
       obtain⟨Rm,hRm⟩: ∃Rm,Rm=R%D:=⟨_,rfl⟩;have hRml:Rm<256^n:=by rw[hRm];exact iM (aP _ hD0) D2
       have eq1:R/D=num a/num b:=by rw[hR,hD,Nat.mul_div_mul_right _ _ (gT oC)]
       have eq2:Rm/2^s=num a%num b:=by rw[hRm,hR,hD,Dd,Dc _ (gT oC)]
       have hQl:R/D<256^L:=by rw[hL,im hD0,bU];exact R2
       rw[eq1]at hQl⊢;rw[<-hRm,<-eq2];have hRel:Rm/2^s<256^n:=eu (eT _ _) hRml;have hrl:(aF .i64 (dl (l+1) (dv Rm))).length=l+1:=by rw[br,l8]
       have hrg: ∀k,k<l+1->(aF .i64 (dl (l+1) (dv Rm))).getD k .u= .v (.i .i64 (dv Rm k:Nat)):=fun k hk=>by rw[du (by rw[l8];exact hk),uc hk]
       clear hRm eq1 eq2;generalize num a/num b=Qf at*;refine ak (α:=Nat) (fun i=>n-i) (fun i=>⟨[(10,E' s),(11,E' n),(14, .rs 1025 0 0 (l+1) 1),(16, .rs 1036 0 0 L 1),(26, .rs 1046 0 0 n 1),(258,E' n),(259,E' i)],[(1025,⟨0,aF .i64 (dl (l+1) (dv Rm)),false,none⟩),(1036,⟨0,aJ (be L Qf),false,none⟩),(1046,⟨0,aJ (List.replicate (n-i) 0++be i (Rm/2^s)),false,none⟩)],_⟩) (fun i=>i<=n) 0 (fun _=>aD _) (aR _) ?_ ?_
       ·rw[Nat.sub_zero,show be 0 (Rm/2^s)=[]from rfl,iu]
        exact lE
       ·intro i hi R1 hR1;have hbl:=oh n i (Rm/2^s) hi
        by_cases hlt:i<n
        ·have hgo1:=hR1 (i+1) oO oO;have e1:=hrg i oO;have e2:=hrg (i+1) oO;have b1:=o9 Rm i;have b2:=o9 Rm (i+1);have hu:=FQ Rm i s s7;generalize dv Rm i=x1 at*;generalize dv Rm (i+1)=x2 at*;obtain⟨z,hz⟩: ∃z,z=x1+x2*256:=⟨_,rfl⟩;have eO:FW .i64 (x1:Int) ((x2:Int)*256)=(z:Int):=by rw[hz];exact orL b2 b1
         rw[<-hz]at hu;have hi1:((i:Int)+1).toNat=i+1:=oO;have hni:((n:Int)-1-i).toNat=n-1-i:=oO;obtain⟨bb,hbb⟩: ∃bb,bb=List.replicate (n-i) 0++be i (Rm/2^s):=⟨_,rfl⟩;have p1:List.take (n-1-i) (aJ bb)++[AV.v (.i .u8 ((UInt8.ofNat (z/2^s)).toNat:Int))]++List.drop (n-1-i+1) (aJ bb)=aJ (bb.set (n-1-i) (UInt8.ofNat (z/2^s))):=ss (by rw[hbb,hbl];omega) rfl
         have p2:bb.set (n-1-i) (UInt8.ofNat (z/2^s))=List.replicate (n-(i+1)) 0++be (i+1) (Rm/2^s):=by
          rw[hbb,ia hlt,be];congr 2;refine jB.1 ?_;rw[ig,ig];exact hu
         rw[<-p2]at hgo1;rw[<-hbb]at hbl⊢;have hir:decide ((i:Int)+1<(l:Int)+1)=true:=aV oO;clear hR1 hu hz p2 hbb;exact ko (aN @hrl (aN @hbl (aN @e1 (aN @e2 (aN @eO (aN @hi1 (aN @hni (aN @hS64 (aN @kA (aN @p1 @hir)))))))))) @hgo1
        ·obtain rfl:n=i:=oO;have t1:=jW (be L Qf);have t2:=jW (be n (Rm/2^s));have l1:(be L Qf).length=L:=cH _ _;have l2:(be n (Rm/2^s)).length=n:=cH _ _;rw[js hQl]at t1;rw[js hRel]at t2;clear hR1;repeat' first|simp only[go_sem,seval,l1,l2,gS,List.replicate_zero,List.nil_append]|(refine gZ t1 rfl rfl l1.symm ?_)|(refine gZ t2 rfl rfl l2.symm ?_)|refine oE ?_|apply xX<;>intro hc
      |succ j=>
       have hgo:=hRr j oO oO;obtain⟨cur,hcur⟩: ∃cur,cur=R%(D*256^(j+1)):=⟨_,rfl⟩;obtain⟨Qj,hQj⟩: ∃Qj,Qj=R/(D*256^(j+1)):=⟨_,rfl⟩;have hst:=P0 (R:=R) (j:=j) hD0;rw[<-hcur,<-hQj]at hst;obtain⟨U,hU⟩: ∃U,U=cur/256^j:=⟨_,rfl⟩;rw[<-hU]at hst;obtain⟨st1,st2,st3,st4⟩:=hst;rw[st2,st3]at hgo;rw[<-hcur,<-hQj];obtain⟨gs1,gs2,gs3⟩:=Mb n1 D1 D2 st1;have hdU: ∀k,dv U k=dv cur (k+j):=fun k=>by rw[hU];exact LP ..
       have hj1:((j+1:Nat):Int)-1=j:=oO;have hjn:((j:Int)+n).toNat=j+n:=oO;have hjn1:((j:Int)+n-1).toNat=j+n-1:=oO;have hn1:((n:Int)-1).toNat=n-1:=oO;have hrl:(aF .i64 (dl (l+1) (dv cur))).length=l+1:=by rw[br,l8]
       have hrg: ∀k,k<l+1->(aF .i64 (dl (l+1) (dv cur))).getD k .u= .v (.i .i64 (dv cur k:Nat)):=fun k hk=>by rw[du (by rw[l8];exact hk),uc hk]
       have e1:=hrg (j+n) oO;have e2:=hrg (j+n-1) oO;have e3:=hcl (n-1) oO;rw[hdU,hdU,show n+j=j+n by omega,show n-1+j=j+n-1 by omega]at gs2
       have b1:=o9 cur (j+n);have b2:=o9 cur (j+n-1);have b3:=o9 D (n-1);generalize hx1:dv cur (j+n)=x1 at*;generalize dv cur (j+n-1)=x2 at*;generalize dv D (n-1)=x3 at*;clear hRr;obtain⟨y,hy⟩: ∃y,y=x1*256+x2:=⟨_,rfl⟩;rw[<-hy]at gs2;have eO:FW .i64 ((x1:Int)*256) (x2:Int)=(y:Int):=by rw[hy];exact orS (s:=8) oC b1 b2
       have bq:y/x3<=65535:=fQ (eT _ _) oO;obtain⟨gq,hgq⟩: ∃gq,gq=y/x3:=⟨_,rfl⟩;obtain⟨gu,hgu⟩: ∃gu,gu=min gq 255:=⟨_,rfl⟩;have eI: ∀ _:True,(if(255:Int)<(gq:Int)then(255:Int)else(gq:Int))=(gu:Int):=fun _=>by rw[hgu];split<;>omega
       have gu1:U/D<=gu:=oO;have gu2:gu<=255:=oO;repeat' first|simp only[go_sem,seval,hj1,hjn,hjn1,hn1,hrl,hdn,e1,e2,e3,eO,hgq.symm,eI oT]|refine oE ?_|apply xX<;>intro hc
       clear eI hgu hgq bq hy e1 e2 e3 gs1 gs2 gs3 b2 b3 eO hrg hjn1;obtain⟨qb,hqb⟩: ∃qb,qb=be (L-(j+1)) Qj++List.replicate (j+1) 0:=⟨_,rfl⟩;rw[<-hqb];refine ak (α:=Nat×Nat×Nat) (fun p=>n-p.1) (fun p=>⟨[(10,E' s),(11,E' n),(12, .rs 1017 0 0 n 1),(14, .rs 1025 0 0 (l+1) 1),(16, .rs 1036 0 0 L 1),(17,E' j),(18,E' gu),(19,E' p.2.1),(20,E' p.2.2),(161,E' n),(162,E' p.1)],[(1017,⟨0,aF .i64 (dl n (dv D)),false,none⟩),(1025,⟨0,aF .i64 (dl (l+1) (dX (dv cur) j p.1 (U-gu*D))),false,none⟩),(1036,⟨0,aJ qb,false,none⟩)],_⟩) (fun p=>p.1<=n/\p.2.1<=255/\p.2.2<=1/\cy U D (-(gu:Int)) p.1= -((p.2.1+p.2.2:Nat):Int)) (0,0,0) (fun _=>aD _) ⟨aR _,aR _,aR _,by rw[Hv];rfl⟩ ?_ ?_
       ·rw[Hw];exact lE
       ·rintro⟨i,c,bo⟩ ⟨hi,hc1,hb1,hcy⟩ R1 hR1;simp only at hi hc1 hb1 hcy;obtain⟨rl,hrl1⟩: ∃rl,rl=dl (l+1) (dX (dv cur) j i (U-gu*D)):=⟨_,rfl⟩;have rl1:rl.length=l+1:=by rw[hrl1,l8]
        have rl2:(aF .i64 rl).length=l+1:=by rw[br,rl1]
        rw[<-hrl1]
        by_cases hlt:i<n
        ·have e1:=hcl i hlt;have hij:((i:Int)+j).toNat=i+j:=oO;have e2:(aF .i64 rl).getD (i+j) .u= .v (.i .i64 (dv cur (i+j):Nat)):=by rw[du oO,hrl1,uc oO,RI]
         have hs1:=TG U D gu i hcy;rw[hdU]at hs1;have hdg:=Hx ((U:Int)-gu*D) i;have b4:=o9 cur (i+j);have b5:=o9 D i;have hset:=fun v hv=>LJ (N:=l+1) (dv cur) j i ((U:Int)-gu*D) (v:=v) hv
         rw[<-hrl1]at hset;generalize hrr:dv cur (i+j)=rr at*;generalize dv D i=dd at*;have b6:gu*dd<=255*255:=j9 gu2 oO;have f1:IntKind.i64.wrap ((gu:Int)*dd)=((gu*dd:Nat):Int):=by rw[<-Int.natCast_mul,IntWalk.i64_in _ oO]
         generalize gu*dd=gd at*;obtain⟨c1,hc1'⟩: ∃c1,c1=c+gd:=⟨_,rfl⟩;have f2:IntKind.i64.wrap ((c:Int)+(gd:Int))=(c1:Int):=by rw[IntWalk.i64_in _ oO];omega
         have f3:me .i64 (c1:Int) 255=((c1%256:Nat):Int):=BM oO;generalize hX:vT ((U:Int)-gu*D) i=dg at*;generalize hcn:cy (↑U) (↑D) (-↑gu) (i+1)=cn at*
         by_cases hx:(rr:Int)-((c1%256:Nat):Int)-bo<0
         ·have hv:((dg.toNat:Nat):Int)=dg:=oN hdg.1;have hvv:(rr:Int)-((c1%256:Nat):Int)-bo+256=dg:=oO;have hgo1:=hR1 (i+1,c1/256,1) ⟨by show i+1<=n;omega,by show c1/256<=255;omega,by show 1<=1;omega,by show cy U D (-(gu:Int)) (i+1)= -((c1/256+1:Nat):Int);rw[hcn];omega⟩ (by show n-(i+1)<n-i;omega)
          rw[<-hset _ hv]at hgo1;have p1:List.take (i+j) (aF .i64 rl)++[AV.v (.i .i64 ((rr:Int)-((c1%256:Nat):Int)-bo+256))]++List.drop (i+j+1) (aF .i64 rl)=aF .i64 (rl.set (i+j) dg.toNat):=dT oO oO;clear hR1 hset hs1 hcy hX hcn;exact ko (aN @rl2 (aN @hdn (aN @e1 (aN @e2 (aN @hij (aN @f1 (aN @f2 (aN @f3 @p1)))))))) @hgo1
         ·have hv:((dg.toNat:Nat):Int)=dg:=oN hdg.1;have hvv:(rr:Int)-((c1%256:Nat):Int)-bo=dg:=oO;have hgo1:=hR1 (i+1,c1/256,0) ⟨by show i+1<=n;omega,by show c1/256<=255;omega,by show 0<=1;omega,by show cy U D (-(gu:Int)) (i+1)= -((c1/256+0:Nat):Int);rw[hcn];omega⟩ (by show n-(i+1)<n-i;omega)
          rw[<-hset _ hv]at hgo1;have p1:List.take (i+j) (aF .i64 rl)++[AV.v (.i .i64 ((rr:Int)-((c1%256:Nat):Int)-bo))]++List.drop (i+j+1) (aF .i64 rl)=aF .i64 (rl.set (i+j) dg.toNat):=dT oO oO;clear hR1 hset hs1 hcy hX hcn;exact ko (aN @rl2 (aN @hdn (aN @e1 (aN @e2 (aN @hij (aN @f1 (aN @f2 (aN @f3 @p1)))))))) @hgo1
        ·obtain rfl:n=i:=oO;have e1:(aF .i64 rl).getD (j+n) .u= .v (.i .i64 (x1:Int)):=by rw[du oO,hrl1,uc oO,TH,hx1]
         obtain⟨X,hX⟩: ∃X,X=(U:Int)-gu*D:=⟨_,rfl⟩;rw[<-hX]at hrl1;have htop:(x1:Int)-c-bo=X/256^n:=by
          have h1:U<256*256^n:=iM st1 (II D2 oC);have h2:=Rb h1 D2 hcy;rw[hdU,gn n j,hx1]at h2;rw[hX,<-h2];omega
         clear hR1 hcy;refine eC (aN @rl2 (aN @hdn (aN @hjn (aN @e1 @htop)))) ?_;rw[hrl1,hX];clear hrl1 rl1 rl2 hX htop e1;refine ak (α:=Nat) (fun g=>g) (fun g=>⟨[(10,E' s),(11,E' n),(12, .rs 1017 0 0 n 1),(14, .rs 1025 0 0 (l+1) 1),(16, .rs 1036 0 0 L 1),(17,E' j),(18,E' g),(23, .v (.i .i64 (((U:Int)-g*D)/256^n)))],[(1017,⟨0,aF .i64 (dl n (dv D)),false,none⟩),(1025,⟨0,aF .i64 (dl (l+1) (dX (dv cur) j n ((U:Int)-g*D))),false,none⟩),(1036,⟨0,aJ qb,false,none⟩)],_⟩) (fun g=>U/D<=g/\g<=255) gu (fun _=>aD _) ⟨gu1,gu2⟩ ?_ ?_
         ·exact lE
         ·clear gu1 gu2 gu;rintro g ⟨g1,g2⟩ R2 hR2
          by_cases hX0:(U:Int)-g*D<0
          ·have hg0:U/D<g:=by
            rw[im hD0];have h:(U:Int)<(g:Int)*D:=oO;exact_mod_cast h
           have hg00:0<g:=eu (aR _) hg0;obtain⟨g',rfl⟩: ∃g',g=g'+1:=⟨g-1,oO⟩;have hgo2:=hR2 g' ⟨Nat.le_of_lt_succ hg0,oO⟩ (wD _);have hXb: -256<=((U:Int)-((g'+1:Nat):Int)*D)/256^n:=by
            rw[Int.le_ediv_iff_mul_le (JV n)];have h1:(g'+1)*D<=256*256^n:=j9 oO (j3 D2);have h2:((g'+1:Nat):Int)*(D:Int)<=256*256^n:=by exact_mod_cast h1
            rw[tB];omega
           have hXD:(U:Int)-(g':Nat)*D=(U-((g'+1:Nat):Int)*D)+D:=by
            rw[Int.natCast_add,Int.add_mul];omega
           rw[hXD]at hgo2;obtain⟨X,hX⟩: ∃X,X=(U:Int)-((g'+1:Nat):Int)*D:=⟨_,rfl⟩;rw[<-hX]at hgo2 hX0 hXb⊢;have ht0:decide (X/256^n<0)=true:=aV (ID hX0 (JV n));have hg1:((g'+1:Nat):Int)-1=g':=oO;clear hX hXD hR2;repeat' first|simp only[go_sem,seval,ht0,hg1]|refine oE ?_|apply xX<;>intro hc
           refine ak (α:=Nat×Nat) (fun p=>n-p.1) (fun p=>⟨[(10,E' s),(11,E' n),(12, .rs 1017 0 0 n 1),(14, .rs 1025 0 0 (l+1) 1),(16, .rs 1036 0 0 L 1),(17,E' j),(18,E' g'),(23, .v (.i .i64 (X/256^n))),(24,E' p.2),(211,E' n),(212,E' p.1)],[(1017,⟨0,aF .i64 (dl n (dv D)),false,none⟩),(1025,⟨0,aF .i64 (dl (l+1) (dX (dX (dv cur) j n X) j p.1 (X+D))),false,none⟩),(1036,⟨0,aJ qb,false,none⟩)],_⟩) (fun p=>p.1<=n/\p.2<=1/\cy X D 1 p.1=p.2) (0,0) (fun _=>aD _) ⟨aR _,aR _,by rw[Hv];rfl⟩ ?_ ?_
           ·rw[Hw];exact lE
           ·rintro⟨i,c⟩ ⟨hi,hc1,hcy⟩ R3 hR3;simp only at hi hc1 hcy;obtain⟨rl,hrl1⟩: ∃rl,rl=dl (l+1) (dX (dX (dv cur) j n X) j i (X+D)):=⟨_,rfl⟩;have rl1:rl.length=l+1:=by rw[hrl1,l8]
            have rl2:(aF .i64 rl).length=l+1:=by rw[br,rl1]
            rw[<-hrl1]
            by_cases hlt:i<n
            ·have e1:=hcl i hlt;have hij:((i:Int)+j).toNat=i+j:=oO;have e2:(aF .i64 rl).getD (i+j) .u= .v (.i .i64 (dX (dv cur) j n X (i+j):Nat)):=by rw[du oO,hrl1,uc oO,RI]
             have hr:=WW (dv cur) (j:=j) X hlt;have hset:=fun v hv=>LJ (N:=l+1) (dX (dv cur) j n X) j i (X+D) (v:=v) hv
             rw[<-hrl1]at hset;generalize dX (dv cur) j n X (i+j)=rr at*;obtain⟨s1,s2⟩:=KM hr hcy;have b4:=Hx X i;have b5:=o9 D i;rw[<-hr]at b4;generalize dv D i=dd at*;obtain⟨c1,hc1'⟩: ∃c1,c1=c+rr+dd:=⟨_,rfl⟩;rw[<-hc1']at s1 s2;have f2:(c:Int)+((rr:Int)+(dd:Int))=(c1:Int):=oO;have f3:me .i64 (c1:Int) 255=((c1%256:Nat):Int):=BM oO;have hgo3:=hR3 (i+1,c1/256) ⟨by show i+1<=n;omega,by show c1/256<=1;omega,s1⟩ (by show n-(i+1)<n-i;omega)
             rw[<-hset _ s2.symm]at hgo3;have p1:List.take (i+j) (aF .i64 rl)++[AV.v (.i .i64 ((c1%256:Nat):Int))]++List.drop (i+j+1) (aF .i64 rl)=aF .i64 (rl.set (i+j) (c1%256)):=dT oO rfl;clear hR3 hset s1 s2 hcy hr;exact ko (aN @rl2 (aN @hdn (aN @e1 (aN @e2 (aN @hij (aN @f2 (aN @f3 @p1))))))) @hgo3
            ·obtain rfl:n=i:=oO;have htp:=OY D2 hcy;rw[<-htp]at hgo2;rw[WV]at hrl1;rw[<-hrl1]at hgo2;have hXn:=ID hX0 (JV n);have e: ∀ _:True,IntKind.i64.wrap (X/256^n+(c:Int))=X/256^n+c:=fun _=>IntWalk.i64_in _ oO
             clear hR3 hcy htp hrl1 rl1 rl2;exact ko (e oT) @hgo2
          ·have hgU:g*D<=U:=by
            have h:(g:Int)*D<=(U:Int):=oO;exact_mod_cast h
           have hX1:U/D=g:=CI g1 ((tE hD0).2 hgU);have hX2:(U:Int)-g*D=((U%D:Nat):Int):=by
            have h:=ik U D;rw[hX1,bU]at h;have h2:((g*D:Nat):Int)+((U%D:Nat):Int)=U:=by exact_mod_cast h
            rw[Int.natCast_mul]at h2;omega
           have hUD:=aP U hD0;have hXl:U%D<256^n:=iM hUD D2;have ht0:((U%D:Nat):Int)/256^n=0:=wR oO (by exact_mod_cast hXl)
           rw[hX2,ht0];obtain⟨rl,hrl1⟩: ∃rl,rl=dl (l+1) (dX (dv cur) j n ((U%D:Nat):Int)):=⟨_,rfl⟩;have rl1:rl.length=l+1:=by rw[hrl1,l8]
           have rl2:(aF .i64 rl).length=l+1:=by rw[br,rl1]
           have hcb:cur<256^(j+n+1):=by
            have h1:cur<256*D*256^j:=by
             rw[<-im (gT oC),<-hU];exact st1
            refine b9 h1 ?_;rw[show j+n+1=1+n+j by omega,cY,cY,Nat.pow_one]
            exact dq _ (kS _ (j3 D2))
           have hr2:rl.set (j+n) 0=dl (l+1) (dv (U%D*256^j+cur%256^j)):=by
            rw[hrl1,BC (g:=fun k=>if k=j+n then 0 else dX (dv cur) j n ((U%D:Nat):Int) k) (fun _=>ah rfl) (fun k _ hk=>af hk)]
            exact xM fun k _=>Py hcb hXl k
           have hq2:qb.set (L-1-j) (UInt8.ofNat g)=be (L-j) (256*Qj+U/D)++List.replicate j 0:=by
            have e1:be (L-j) (256*Qj+U/D)=be (L-(j+1)) Qj++[UInt8.ofNat g]:=by
             rw[show L-j=L-(j+1)+1 by omega,xy,show(256*Qj+U/D)/256^1=Qj by omega]
             congr 1;simp only[be,Nat.pow_zero,iq,hX1];rw[show 256*Qj+g=g+256*Qj by omega]
             simp[UInt8.ofNat_add,UInt8.ofNat_mul]
            rw[e1,hqb,show L-1-j=(be (L-(j+1)) Qj).length by rw[cH];omega,List.replicate_succ]
            simp
           have hql:qb.length=L:=by rw[hqb];simp[cH];omega
           have p1:List.take (j+n) (aF .i64 rl)++[AV.v (.i .i64 0)]++List.drop (j+n+1) (aF .i64 rl)=aF .i64 (rl.set (j+n) 0):=dT oO rfl;have p2:List.take (L-1-j) (aJ qb)++[AV.v (.i .u8 ((UInt8.ofNat g).toNat:Int))]++List.drop (L-1-j+1) (aJ qb)=aJ (qb.set (L-1-j) (UInt8.ofNat g)):=ss oO rfl;have hLj:((L:Int)-1-j).toNat=L-1-j:=oO;rw[<-hr2,<-hq2]at hgo;rw[<-hrl1];have hlt0:decide ((0:Int)<0)=false:=by decide
           clear hX2 ht0 hrl1 hr2 hq2 hX0 hR2 hcb hXl hUD hgU hX1 hU;exact ko (aN @rl2 (aN @hql (aN @hjn (aN @p1 (aN @p2 (aN @hLj (aN @kA @hlt0))))))) @hgo
