/-
  Part of the proof, part FA36. Own work.
-/
import Derived.Test.YtfdjchnefpefbaaGreatDoorFA22
set_option linter.all false
namespace Go.Proofs.YtfdjchnefpefbaaGreatDoor
open Go Go.Dom
set_option maxRecDepth 100000
set_option maxHeartbeats 16000000
theorem lz8: ∀x:Fin 256,x.1≠0->Lib.bitLen x.1<=8/\8-Lib.bitLen x.1<=7/\128<=x.1*2^(8-Lib.bitLen x.1)/\x.1*2^(8-Lib.bitLen x.1)<256:=by decide+kernel
theorem s8 (x:Nat) (h:x<256):aA Tryz.prog 370 [.i .u8 x] (E ((8-Lib.bitLen x:Nat):Int)):=by
 have h1:=Ge x h;have h2:=jf h;refine eW Tryz.call370 Tryz.func370 ?_;repeat' first|simp only[go_sem,seval]|refine cP h1 ?_|refine sB ?_|apply xX<;>intro hc|refine⟨oD,?_⟩|exact oD|fail
 all_goals (congr 1;congr 1;omega)
theorem rk (a:Bytes) (i:Nat) (ha:a.length<4611686018427387904):aA Tryz.prog 147 [.s a,E i] (E (dv (num a) i:Nat)):=ko a i ha
theorem KU (x j k:Nat):dv (x/256^j) k=dv x (k+j):=by
 unfold dv;rw[eg,<-ct,fT j k]
theorem Pz {R D j:Nat} (hD:0<D):R%(D*256^(j+1))/256^j<256*D/\R%(D*256^j)=R%(D*256^(j+1))/256^j%D*256^j+R%(D*256^(j+1))%256^j/\
  R/(D*256^j)=256*(R/(D*256^(j+1)))+R%(D*256^(j+1))/256^j/D/\R%(D*256^(j+1))/256^j/D<256:=by
 have hB:0<256^j:=fI oC;have hM:0<D*256^j:=nT hD hB;have eM:D*256^(j+1)=D*256^j*256:=by rw[Nat.pow_succ,bQ]
 have hlt:R%(D*256^(j+1))<D*256^j*256:=by rw[<-eM];exact aD _ oO
 have h1:R%(D*256^(j+1))/256^j<256*D:=by
  rw[gK hB,bQ,bc 256];exact hlt
 refine⟨h1,?_,?_,?_⟩
 ·rw[show R%(D*256^j)=R%(D*256^(j+1))%(D*256^j)from(ss _ ⟨256,eM⟩).symm]
  generalize R%(D*256^(j+1))=c;rw[bc D,nX,bc (256^j),fT]
 ·rw[eg,bc (256^j) D];have e:=gM R (D*256^(j+1));generalize R%(D*256^(j+1))=c at*;generalize R/(D*256^(j+1))=q at*;rw[<-e,eM,bQ,vM hM]
 ·rw[gK hD];exact h1
theorem Tb (U D gu i:Nat) {e:Nat} (h:cy U D (-(gu:Int)) i= -(e:Int)):(dv U i:Int)-((gu*dv D i:Nat):Int)-e=256*cy U D (-(gu:Int)) (i+1)+u6 ((U:Int)-gu*D) i:=by
 have hs:=Gz U D (-(gu:Int)) i;have e1: -(gu:Int)*(dv D i:Nat)= -((gu*dv D i:Nat):Int):=by rw[Int.natCast_mul,sj]
 have e2:(U:Int)+ -(gu:Int)*D=U-gu*D:=by rw[sj];rfl
 rw[h,u7,u7,e1,e2]at hs;generalize gu*dv D i=x at*;omega
theorem QP {U D gu n e:Nat} (hU:U<256*256^n) (hD:D<256^n) (h:cy U D (-(gu:Int)) n= -(e:Int)):((dv U n:Nat):Int)-e=((U:Int)-gu*D)/256^n:=by
 have hc:=ES U D (-(gu:Int)) n;have e2:(U:Int)+ -(gu:Int)*D=U-gu*D:=by rw[sj];rfl
 have h1:U/256^n<256:=by rw[gK (fI oC)];exact hU
 have h2:(U:Int)/256^n=(dv U n:Nat):=by
  unfold dv;rw[aV h1,Int.natCast_ediv,Int.natCast_pow];rfl
 have p0:((256^n:Nat):Int)=256^n:=by rw[Int.natCast_pow];rfl
 have h3:(D:Int)/256^n=0:=vK oO oO;rw[h,e2,h2,h3,we]at hc;omega
theorem J4 {X:Int} {D i c r:Nat} (hr:(r:Int)=u6 X i) (h:cy X D 1 i=c):cy X D 1 (i+1)=((c+r+dv D i)/256:Nat)/\u6 (X+D) i=((c+r+dv D i)%256:Nat):=by
 have hs:=Gz X D 1 i;rw[h,<-hr,u7,wb,wb]at hs;have:=GC (X+D) i;omega
theorem Ot {X:Int} {D n c:Nat} (hD:D<256^n) (h:cy X D 1 n=c):X/256^n+c=(X+D)/256^n:=by
 have hc:=ES X D 1 n;have p0:((256^n:Nat):Int)=256^n:=by rw[Int.natCast_pow];rfl
 have h3:(D:Int)/256^n=0:=vK oO oO;rw[h,h3,wb,we]at hc;omega
theorem VR (f:Nat->Nat) (j n:Nat) (X Y:Int):dX (dX f j n X) j n Y=dX f j n Y:=by
 funext k;unfold dX;split<;>simp_all
theorem GD (N:Nat) (f:Nat->Nat):List.replicate N 0=dl N (fun k=>if k<0 then f k else 0):=by
 rw[show(fun k=>if k<0 then f k else 0)=fun _=>0 from by funext k;rw[if_neg (mD _)]]
 simp[dl,List.map_const']
structure LD (a b:Bytes) (s n l D R:Nat):Prop where
 s7:s<=7
 n1:1<=n
 ln:n<=l
 l128:l<=128
 hs:(b.getD 0 0).toNat<256/\8-Lib.bitLen (b.getD 0 0).toNat=s
 hn:b.length=n
 hl:a.length=l
 hD:D=num b*2^s
 hR:R=num a*2^s
 D1:128*256^(n-1)<=D
 D2:D<256^n
 R2:R<D*256^(l-n+1)
theorem LD.mk' {a b:Bytes} (ha:aa a=true) (hb:aa b=true) (h0:0<num b) (hge:num b<=num a): ∃s n l D R,LD a b s n l D R:=by
 have hbn:b≠[]:=fun e=>by rw[e]at h0;exact absurd h0 oC
 obtain⟨c,r,rfl⟩: ∃c r,b=c::r:=by cases b with
  |nil=>exact absurd rfl hbn
  |cons c r=>exact⟨c,r,rfl⟩
 have hc0:c≠0:=by
  rcases bK hb with h|h
  ·cases h
  ·simpa using h
 have hc1:c.toNat≠0:=fun e=>hc0 (iP.1 (by simpa using e))
 obtain⟨z1,z2,z3,z4⟩:=lz8 ⟨c.toNat,c.toNat_lt⟩ hc1;simp only at z1 z2 z3 z4;obtain⟨s,hs⟩: ∃s,s=8-Lib.bitLen c.toNat:=⟨_,rfl⟩;rw[<-hs]at z2 z3 z4;have hr:=cb r;have hP:0<2^s:=fI oC;have hB:0<256^r.length:=fI oC;have hnum:num (c::r)=c.toNat*256^r.length+num r:=rfl;have hln:(c::r).length<=a.length:=by
  rcases nS a.length (c::r).length with g|g
  ·have:=gQ (a:=a) (bK hb) g;omega
  ·exact g
 have hDlt:num (c::r)*2^s<256^(r.length+1):=by
  have h1:num (c::r)<(c.toNat+1)*256^r.length:=by rw[hnum,cu];omega
  have h2:(c.toNat+1)*2^s<=256:=by
   have h3:c.toNat*2^s+2^s<=256:=by
    have:2^s∣256:=⟨2^(8-s),by rw[<-ct,show s+(8-s)=8 by omega]⟩
    obtain⟨q,hq⟩:=this;have h4:c.toNat<q:=by
     refine Nat.lt_of_mul_lt_mul_left (a:=2^s) ?_;rw[<-hq,bc];exact z4
    have h5:(c.toNat+1)*2^s<=q*2^s:=cF _ h4;rw[cu,ia,bc q,<-hq]at h5;exact h5
   rw[cu,ia];exact h3
  refine bj (Co h1 hP) ?_;rw[vW,Nat.pow_succ,bc (256^r.length)];exact cF _ h2
 refine⟨s,r.length+1,a.length,num (c::r)*2^s,num a*2^s,z2,by omega,hln,cE ha,⟨c.toNat_lt,hs.symm⟩,rfl,rfl,rfl,rfl,?_,hDlt,?_⟩
 ·rw[j8];refine ft (cF _ z3) ?_;rw[vW];exact cF _ (by rw[hnum];omega)
 ·rw[vW];refine Co ?_ hP;have h1:=cb a;have h2:256^r.length<=num (c::r):=by
   have:=mU (bK hb) hbn;simpa using this
  refine bj h1 ?_;rw[show a.length=r.length+(a.length-(r.length+1)+1) by simp only[List.length_cons]at hln;omega,ct]
  rw[show r.length+(a.length-(r.length+1)+1)-(r.length+1)+1=a.length-(r.length+1)+1 by simp only[List.length_cons]at hln;omega]
  exact cF _ h2
theorem Wv {s x:Nat} (hs:s<=7) (hx:x<256):lk .i64 (IntKind.i64.wrap ((x:Int)*2^s)) 255=((x*2^s%256:Nat):Int):=by
 have h1:2^s<=2^7:=cI oC hs;have h2:x*2^s<=256*2^7:=jP (jR hx) h1;rw[show(x:Int)*2^s=((x*2^s:Nat):Int) by rw[Int.natCast_mul,Int.natCast_pow];rfl,IntWalk.i64_in _ oO]
 exact Bb oO
theorem Zy {s x y:Nat} (hs:s<=7) (hy:y<256):EZ .i64 ((x*2^s%256:Nat):Int) ((y/2^(8-s):Nat):Int)=((x*2^s%256+y/2^(8-s):Nat):Int):=by
 have e:x*2^s%256=x%2^(8-s)*2^s/\y/2^(8-s)<2^s/\x%2^(8-s)<256:=by
  obtain rfl|rfl|rfl|rfl|rfl|rfl|rfl|rfl:s=0\/s=1\/s=2\/s=3\/s=4\/s=5\/s=6\/s=7:=by omega
  all_goals simp only[Nat.reducePow,Nat.reduceSub,Nat.pow_zero];omega
 rw[e.1];exact Zw oO e.2.2 e.2.1
theorem Im {a b:Bytes} (ha:aa a=true) (hb:aa b=true) (h0:0<num b) (h8:8<a.length) (hge:num b<=num a):aA Tryz.prog 253 [.s a, .s b] (.tup [N (num a/num b),N (num a%num b)]):=by
 have hc:=nB (bK ha) (bK hb);have hc':0<=aU (num a) (num b):=by unfold aU;split<;>(try split)<;>omega
 obtain⟨s,n,l,D,R,s7,n1,ln,l128,hs,hn,hl,hD,hR,D1,D2,R2⟩:=LD.mk' ha hb h0 hge;have hlz:=s8 _ hs.1;rw[hs.2]at hlz;generalize aU (num a) (num b)=cm at*;have hL: ∀ _:True,decide ((l:Int)<=8)=false:=fun _=>decide_eq_false oO
 have hS64:(if s<=64 then s else 64)=s:=if_pos oO
 have hT64:(if(8-(s:Int)).toNat<=64 then(8-(s:Int)).toNat else 64)=8-s:=by rw[if_pos oO];omega
 have hrep:List.replicate n 0=dl n (fun k=>if k<0 then dv D k else 0):=GD ..
 refine eW Tryz.call253 Tryz.func253 ?_;repeat' first|simp only[go_sem,seval,hl,hn,hL trivial,qw,-List.reduceReplicate]|refine cP hc ?_|refine cP hlz ?_|refine sB ?_|apply xX<;>intro hc|refine⟨oD,?_⟩|exact oD|fail
 rw[hrep];refine af (α:=Nat) (fun i=>n-i) (fun i=>⟨[(0, .v (.s a)),(1, .v (.s b)),(10,E' s),(11,E' n),(12, .rs 1017 0 0 n 1),(62,E' n),(63,E' i)],[(1017,⟨0,aq .i64 (dl n fun k=>if k<i then dv D k else 0),false,none⟩)],_⟩) (fun i=>i<=n) 0 (fun _=>an _) (aH _) ?_ ?_
 ·exact lE
 ·intro i hi R' hR'
  by_cases hlt:i<n
  ·have hd:=rk b i oO;obtain⟨L,hL⟩: ∃L,L=dl n fun k=>if k<i then dv D k else 0:=⟨_,rfl⟩
   have hLl:L.length=n:=by rw[hL,lf]
   have q1:(aq .i64 L).length=n:=by rw[aP,hLl]
   have p1: ∀x:Nat,List.take i (aq .i64 L)++[.v (.i .i64 (x:Int))]++List.drop (i+1) (aq .i64 L)=aq .i64 (L.set i x):=fun x=>dx oO rfl
   have p2: ∀x:Nat,(aq .i64 (L.set i x)).length=n:=fun x=>by rw[aP,fU,hLl]
   have p3: ∀x:Nat,(aq .i64 (L.set i x)).getD i .u= .v (.i .i64 (x:Int)):=fun x=>by
    rw[cH (by rw[fU];omega)];simp[aR,hLl,hlt]
   have p4: ∀x y:Nat,List.take i (aq .i64 (L.set i x))++[.v (.i .i64 (y:Int))]++List.drop (i+1) (aq .i64 (L.set i x))=aq .i64 (L.set i y):=fun x y=>by
    rw[dx (by rw[fU];omega) rfl,wk]
   have he: ∀y,y=dv D i->(dl n fun k=>if k<i+1 then dv D k else 0)=L.set i y:=fun y hy=>by
    rw[hL];exact(AN (fun _=>by rw[if_pos (sH i),hy]) fun k _ hk=>by simp only[Nat.lt_succ_iff_lt_or_eq,hk,or_false]).symm
   have hgo:=hR' (i+1) oO oO;have x1:=nZ (num b) i;have sv: ∀x:Nat,x<256->lk .i64 (IntKind.i64.wrap ((x:Int)*2^s)) 255=((x*2^s%256:Nat):Int):=fun x hx=>Wv s7 hx
   have sx:=sv _ x1;rw[<-hL];clear hR'
   by_cases hi0:i=0
   ·subst hi0;have e0:=zL (num b) s;rw[<-hD]at e0;rw[he _ e0.symm]at hgo;have p0: ∀x:Nat,AV.v (.i .i64 (x:Int))::List.drop 1 (aq .i64 L)=aq .i64 (L.set 0 x):=fun x=>p1 x
    exact kR (aN @q1 (aN @p0 (aN @p2 (aN @hS64 @sx)))) @hgo @hd
   ·obtain⟨j,rfl⟩: ∃j,i=j+1:=⟨i-1,by omega⟩
    have e0:=C6 (num b) j s s7;rw[<-hD]at e0;rw[he _ e0.symm]at hgo;have so:=Zy (x:=dv (num b) (j+1)) s7 (nZ (num b) j);have hj1:((j+1:Nat):Int)-1=j:=by omega
    have hd2:=rk b j oO;exact yQ (aN @q1 (aN @p1 (aN @p2 (aN @p3 (aN @p4 (aN @hS64 (aN @sx (aN @hj1 (aN @hT64 @so))))))))) @hgo @hd @hd2
  ·obtain rfl:n=i:=by omega
   have hdl:(dl n fun k=>if k<n then dv D k else 0)=dl n (dv D):=xf fun k hk=>if_pos hk
   have hN1:((l:Int)+1).toNat=l+1:=by omega
   have hrep2:List.replicate (l+1) 0=dl (l+1) (fun k=>if k<0 then dv R k else 0):=GD ..
   rw[hdl];clear hR' hrep hdl;repeat' first|simp only[go_sem,seval,hl,hN1,qw,-List.reduceReplicate]|refine sB ?_|apply xX<;>intro hc|refine⟨oD,?_⟩|exact oD|fail
   rw[hrep2];refine af (α:=Nat) (fun i=>l+1-i) (fun i=>⟨[(0, .v (.s a)),(1, .v (.s b)),(10,E' s),(11,E' n),(12, .rs 1017 0 0 n 1),(14, .rs 1025 0 0 (l+1) 1),(96,E' (l+1)),(97,E' i)],[(1017,⟨0,aq .i64 (dl n (dv D)),false,none⟩),(1025,⟨0,aq .i64 (dl (l+1) fun k=>if k<i then dv R k else 0),false,none⟩)],_⟩) (fun i=>i<=l+1) 0 (fun _=>an _) (aH _) ?_ ?_
   ·exact lE
   ·clear hrep2;intro i hi R' hR'
    by_cases hlt:i<(l+1)
    ·have hd:=rk a i oO;obtain⟨L,hL⟩: ∃L,L=dl (l+1) fun k=>if k<i then dv R k else 0:=⟨_,rfl⟩
     have hLl:L.length=(l+1):=by rw[hL,lf]
     have q1:(aq .i64 L).length=(l+1):=by rw[aP,hLl]
     have p1: ∀x:Nat,List.take i (aq .i64 L)++[.v (.i .i64 (x:Int))]++List.drop (i+1) (aq .i64 L)=aq .i64 (L.set i x):=fun x=>dx oO rfl
     have p2: ∀x:Nat,(aq .i64 (L.set i x)).length=(l+1):=fun x=>by rw[aP,fU,hLl]
     have p3: ∀x:Nat,(aq .i64 (L.set i x)).getD i .u= .v (.i .i64 (x:Int)):=fun x=>by
      rw[cH (by rw[fU];omega)];simp[aR,hLl,hlt]
     have p4: ∀x y:Nat,List.take i (aq .i64 (L.set i x))++[.v (.i .i64 (y:Int))]++List.drop (i+1) (aq .i64 (L.set i x))=aq .i64 (L.set i y):=fun x y=>by
      rw[dx (by rw[fU];omega) rfl,wk]
     have he: ∀y,y=dv R i->(dl (l+1) fun k=>if k<i+1 then dv R k else 0)=L.set i y:=fun y hy=>by
      rw[hL];exact(AN (fun _=>by rw[if_pos (sH i),hy]) fun k _ hk=>by simp only[Nat.lt_succ_iff_lt_or_eq,hk,or_false]).symm
     have hgo:=hR' (i+1) oO oO;have x1:=nZ (num a) i;have sv: ∀x:Nat,x<256->lk .i64 (IntKind.i64.wrap ((x:Int)*2^s)) 255=((x*2^s%256:Nat):Int):=fun x hx=>Wv s7 hx
     have sx:=sv _ x1;rw[<-hL];clear hR'
     by_cases hi0:i=0
     ·subst hi0;have e0:=zL (num a) s;rw[<-hR]at e0;rw[he _ e0.symm]at hgo;have p0: ∀x:Nat,AV.v (.i .i64 (x:Int))::List.drop 1 (aq .i64 L)=aq .i64 (L.set 0 x):=fun x=>p1 x
      exact kR (aN @q1 (aN @p0 (aN @p2 (aN @hS64 @sx)))) @hgo @hd
     ·obtain⟨j,rfl⟩: ∃j,i=j+1:=⟨i-1,by omega⟩
      have e0:=C6 (num a) j s s7;rw[<-hR]at e0;rw[he _ e0.symm]at hgo;have so:=Zy (x:=dv (num a) (j+1)) s7 (nZ (num a) j);have hj1:((j+1:Nat):Int)-1=j:=by omega
      have hd2:=rk a j oO;exact yQ (aN @q1 (aN @p1 (aN @p2 (aN @p3 (aN @p4 (aN @hS64 (aN @sx (aN @hj1 (aN @hT64 @so))))))))) @hgo @hd @hd2
    ·obtain rfl:l+1=i:=by omega
     have hdl:(dl (l+1) fun k=>if k<l+1 then dv R k else 0)=dl (l+1) (dv R):=xf fun k hk=>if_pos hk
     obtain⟨L,hL⟩: ∃L,L=l-n+1:=⟨_,rfl⟩;have hNL:((l:Int)-n+1).toNat=L:=by omega
     have hNj:(l:Int)-n=(L:Int)-1:=by omega
     rw[hdl];clear hR' hdl;have hNL2:((L:Int)-1+1).toNat=L:=by omega
     repeat' first|simp only[go_sem,seval,hl,hn,hNL,hNL2,hNj,mG,-List.reduceReplicate]|refine sB ?_|apply xX<;>intro hc|refine⟨oD,?_⟩|exact oD|fail
     have hD0:0<D:=bj (nT oC (fI oC)) D1;have hcl: ∀k,k<n->(aq .i64 (dl n (dv D))).getD k .u= .v (.i .i64 (dv D k:Nat)):=fun k hk=>by rw[cH (by rw[lf];exact hk),tx hk]
     have hdn:(aq .i64 (dl n (dv D))).length=n:=by rw[aP,lf]
     have hRL:R/(D*256^L)=0/\R%(D*256^L)=R:=by
      rw[hL];exact⟨gI R2,aV R2⟩
     refine af (α:=Nat) (fun m=>m) (fun m=>⟨[(10,E' s),(11,E' n),(12, .rs 1017 0 0 n 1),(14, .rs 1025 0 0 (l+1) 1),(16, .rs 1036 0 0 L 1),(17, .v (.i .i64 ((m:Int)-1)))],[(1017,⟨0,aq .i64 (dl n (dv D)),false,none⟩),(1025,⟨0,aq .i64 (dl (l+1) (dv (R%(D*256^m)))),false,none⟩),(1036,⟨0,ay (be (L-m) (R/(D*256^m))++List.replicate m 0),false,none⟩)],_⟩) (fun m=>m<=L) L (fun _=>an _) (an _) ?_ ?_
     ·rw[hRL.1,hRL.2,eE,show be 0 0=[]from rfl,List.nil_append]
      exact lE
     ·intro m hm Rr hRr
      cases m with
      |zero=>
       have hz1:((0:Nat):Int)-1= -1:=rfl;have hz2:decide ((-1:Int)>=0)=false:=rfl;rw[Nat.pow_zero,dG,Nat.sub_zero,List.replicate_zero,jQ];clear hRr;repeat' first|simp only[go_sem,seval,hz1,hz2,mG,-List.reduceReplicate]|refine sB ?_|apply xX<;>intro hc|refine⟨oD,?_⟩|exact oD|fail
       obtain⟨Rm,hRm⟩: ∃Rm,Rm=R%D:=⟨_,rfl⟩;have hRml:Rm<256^n:=by rw[hRm];exact ix (aD _ hD0) D2
       have eq1:R/D=num a/num b:=by rw[hR,hD,Nat.mul_div_mul_right _ _ (fI oC)]
       have eq2:Rm/2^s=num a%num b:=by rw[hRm,hR,hD,Cn,Cl _ (fI oC)]
       have hQl:R/D<256^L:=by rw[hL,gK hD0,bc];exact R2
       rw[eq1]at hQl⊢;rw[<-hRm,<-eq2];have hRel:Rm/2^s<256^n:=ec (dZ _ _) hRml;have hrl:(aq .i64 (dl (l+1) (dv Rm))).length=l+1:=by rw[aP,lf]
       have hrg: ∀k,k<l+1->(aq .i64 (dl (l+1) (dv Rm))).getD k .u= .v (.i .i64 (dv Rm k:Nat)):=fun k hk=>by rw[cH (by rw[lf];exact hk),tx hk]
       clear hRm eq1 eq2;generalize num a/num b=Qf at*;refine af (α:=Nat) (fun i=>n-i) (fun i=>⟨[(10,E' s),(11,E' n),(14, .rs 1025 0 0 (l+1) 1),(16, .rs 1036 0 0 L 1),(26, .rs 1046 0 0 n 1),(258,E' n),(259,E' i)],[(1025,⟨0,aq .i64 (dl (l+1) (dv Rm)),false,none⟩),(1036,⟨0,ay (be L Qf),false,none⟩),(1046,⟨0,ay (List.replicate (n-i) 0++be i (Rm/2^s)),false,none⟩)],_⟩) (fun i=>i<=n) 0 (fun _=>an _) (aH _) ?_ ?_
       ·rw[Nat.sub_zero,show be 0 (Rm/2^s)=[]from rfl,jQ]
        exact lE
       ·intro i hi R1 hR1;have hbl:=nE n i (Rm/2^s) hi
        by_cases hlt:i<n
        ·have hgo1:=hR1 (i+1) oO oO;have e1:=hrg i oO;have e2:=hrg (i+1) oO;have b1:=nZ Rm i;have b2:=nZ Rm (i+1);have hu:=EW Rm i s s7;generalize dv Rm i=x1 at*;generalize dv Rm (i+1)=x2 at*;obtain⟨z,hz⟩: ∃z,z=x1+x2*256:=⟨_,rfl⟩;have eO:EZ .i64 (x1:Int) ((x2:Int)*256)=(z:Int):=by rw[hz];exact orL b2 b1
         rw[<-hz]at hu;have hi1:((i:Int)+1).toNat=i+1:=by omega
         have hni:((n:Int)-1-i).toNat=n-1-i:=by omega
         obtain⟨bb,hbb⟩: ∃bb,bb=List.replicate (n-i) 0++be i (Rm/2^s):=⟨_,rfl⟩;have p1:List.take (n-1-i) (ay bb)++[AV.v (.i .u8 ((UInt8.ofNat (z/2^s)).toNat:Int))]++List.drop (n-1-i+1) (ay bb)=ay (bb.set (n-1-i) (UInt8.ofNat (z/2^s))):=qZ (by rw[hbb,hbl];omega) rfl
         have p2:bb.set (n-1-i) (UInt8.ofNat (z/2^s))=List.replicate (n-(i+1)) 0++be (i+1) (Rm/2^s):=by
          rw[hbb,gi hlt,be];congr 2;refine iP.1 ?_;rw[gG,gG];exact hu
         rw[<-p2]at hgo1;rw[<-hbb]at hbl⊢;have hir:decide ((i:Int)+1<(l:Int)+1)=true:=decide_eq_true oO;clear hR1 hu hz p2 hbb;repeat' first|simp only[go_sem,seval,hrl,hbl,e1,e2,eO,hi1,hni,hS64,j4,p1,hir]|refine sB ?_|apply xX<;>intro hc|refine⟨oD,?_⟩|exact oD|fail
         refine hgo1 _ ?_;exact lE
        ·obtain rfl:n=i:=by omega
         have t1:=jI (be L Qf);have t2:=jI (be n (Rm/2^s));have l1:(be L Qf).length=L:=cj _ _;have l2:(be n (Rm/2^s)).length=n:=cj _ _;rw[ji hQl]at t1;rw[ji hRel]at t2;clear hR1;repeat' first|simp only[go_sem,seval,l1,l2,eE,List.replicate_zero,List.nil_append]|(refine fZ t1 rfl rfl l1.symm ?_)|(refine fZ t2 rfl rfl l2.symm ?_)|refine sB ?_|apply xX<;>intro hc|refine⟨oD,?_⟩|exact oD|fail
      |succ j=>
       have hgo:=hRr j oO oO;obtain⟨cur,hcur⟩: ∃cur,cur=R%(D*256^(j+1)):=⟨_,rfl⟩;obtain⟨Qj,hQj⟩: ∃Qj,Qj=R/(D*256^(j+1)):=⟨_,rfl⟩;have hst:=Pz (R:=R) (j:=j) hD0;rw[<-hcur,<-hQj]at hst;obtain⟨U,hU⟩: ∃U,U=cur/256^j:=⟨_,rfl⟩;rw[<-hU]at hst;obtain⟨st1,st2,st3,st4⟩:=hst;rw[st2,st3]at hgo;rw[<-hcur,<-hQj];obtain⟨gs1,gs2,gs3⟩:=Lr n1 D1 D2 st1;have hdU: ∀k,dv U k=dv cur (k+j):=fun k=>by rw[hU];exact KU ..
       have hj1:((j+1:Nat):Int)-1=j:=by omega
       have hjn:((j:Int)+n).toNat=j+n:=by omega
       have hjn1:((j:Int)+n-1).toNat=j+n-1:=by omega
       have hn1:((n:Int)-1).toNat=n-1:=by omega
       have hrl:(aq .i64 (dl (l+1) (dv cur))).length=l+1:=by rw[aP,lf]
       have hrg: ∀k,k<l+1->(aq .i64 (dl (l+1) (dv cur))).getD k .u= .v (.i .i64 (dv cur k:Nat)):=fun k hk=>by rw[cH (by rw[lf];exact hk),tx hk]
       have e1:=hrg (j+n) oO;have e2:=hrg (j+n-1) oO;have e3:=hcl (n-1) oO;rw[hdU,hdU,show n+j=j+n by omega,show n-1+j=j+n-1 by omega]at gs2
       have b1:=nZ cur (j+n);have b2:=nZ cur (j+n-1);have b3:=nZ D (n-1);generalize hx1:dv cur (j+n)=x1 at*;generalize dv cur (j+n-1)=x2 at*;generalize dv D (n-1)=x3 at*;clear hRr;obtain⟨y,hy⟩: ∃y,y=x1*256+x2:=⟨_,rfl⟩;rw[<-hy]at gs2;have eO:EZ .i64 ((x1:Int)*256) (x2:Int)=(y:Int):=by rw[hy];exact Zw (s:=8) oC b1 b2
       have bq:y/x3<=65535:=ft (dZ _ _) oO;obtain⟨gq,hgq⟩: ∃gq,gq=y/x3:=⟨_,rfl⟩;obtain⟨gu,hgu⟩: ∃gu,gu=min gq 255:=⟨_,rfl⟩;have eI: ∀ _:True,(if(255:Int)<(gq:Int)then(255:Int)else(gq:Int))=(gu:Int):=fun _=>by rw[hgu];split<;>omega
       have gu1:U/D<=gu:=by omega
       have gu2:gu<=255:=by omega
       repeat' first|simp only[go_sem,seval,hj1,hjn,hjn1,hn1,hrl,hdn,e1,e2,e3,eO,hgq.symm,eI trivial]|refine sB ?_|apply xX<;>intro hc|refine⟨oD,?_⟩|exact oD|fail
       clear eI hgu hgq bq hy e1 e2 e3 gs1 gs2 gs3 b2 b3 eO hrg hjn1;obtain⟨qb,hqb⟩: ∃qb,qb=be (L-(j+1)) Qj++List.replicate (j+1) 0:=⟨_,rfl⟩;rw[<-hqb];refine af (α:=Nat×Nat×Nat) (fun p=>n-p.1) (fun p=>⟨[(10,E' s),(11,E' n),(12, .rs 1017 0 0 n 1),(14, .rs 1025 0 0 (l+1) 1),(16, .rs 1036 0 0 L 1),(17,E' j),(18,E' gu),(19,E' p.2.1),(20,E' p.2.2),(161,E' n),(162,E' p.1)],[(1017,⟨0,aq .i64 (dl n (dv D)),false,none⟩),(1025,⟨0,aq .i64 (dl (l+1) (dX (dv cur) j p.1 (U-gu*D))),false,none⟩),(1036,⟨0,ay qb,false,none⟩)],_⟩) (fun p=>p.1<=n/\p.2.1<=255/\p.2.2<=1/\cy U D (-(gu:Int)) p.1= -((p.2.1+p.2.2:Nat):Int)) (0,0,0) (fun _=>an _) ⟨aH _,aH _,aH _,by rw[GA];rfl⟩ ?_ ?_
       ·rw[GB];exact lE
       ·rintro⟨i,c,bo⟩ ⟨hi,hc1,hb1,hcy⟩ R1 hR1;simp only at hi hc1 hb1 hcy;obtain⟨rl,hrl1⟩: ∃rl,rl=dl (l+1) (dX (dv cur) j i (U-gu*D)):=⟨_,rfl⟩;have rl1:rl.length=l+1:=by rw[hrl1,lf]
        have rl2:(aq .i64 rl).length=l+1:=by rw[aP,rl1]
        rw[<-hrl1]
        by_cases hlt:i<n
        ·have e1:=hcl i hlt;have hij:((i:Int)+j).toNat=i+j:=by omega
         have e2:(aq .i64 rl).getD (i+j) .u= .v (.i .i64 (dv cur (i+j):Nat)):=by rw[cH oO,hrl1,tx oO,Re]
         have hs1:=Tb U D gu i hcy;rw[hdU]at hs1;have hdg:=GC ((U:Int)-gu*D) i;have b4:=nZ cur (i+j);have b5:=nZ D i;have hset:=fun v hv=>KP (N:=l+1) (dv cur) j i ((U:Int)-gu*D) (v:=v) hv
         rw[<-hrl1]at hset;generalize hrr:dv cur (i+j)=rr at*;generalize dv D i=dd at*;have b6:gu*dd<=255*255:=jP gu2 oO;have f1:IntKind.i64.wrap ((gu:Int)*dd)=((gu*dd:Nat):Int):=by rw[<-Int.natCast_mul,IntWalk.i64_in _ oO]
         generalize gu*dd=gd at*;obtain⟨c1,hc1'⟩: ∃c1,c1=c+gd:=⟨_,rfl⟩;have f2:IntKind.i64.wrap ((c:Int)+(gd:Int))=(c1:Int):=by rw[IntWalk.i64_in _ oO];omega
         have f3:lk .i64 (c1:Int) 255=((c1%256:Nat):Int):=Bb oO;generalize hX:u6 ((U:Int)-gu*D) i=dg at*;generalize hcn:cy (↑U) (↑D) (-↑gu) (i+1)=cn at*
         by_cases hx:(rr:Int)-((c1%256:Nat):Int)-bo<0
         ·have hv:((dg.toNat:Nat):Int)=dg:=gV hdg.1;have hvv:(rr:Int)-((c1%256:Nat):Int)-bo+256=dg:=by omega
          have hgo1:=hR1 (i+1,c1/256,1) ⟨by show i+1<=n;omega,by show c1/256<=255;omega,by show 1<=1;omega,by show cy U D (-(gu:Int)) (i+1)= -((c1/256+1:Nat):Int);rw[hcn];omega⟩ (by show n-(i+1)<n-i;omega)
          rw[<-hset _ hv]at hgo1;have p1:List.take (i+j) (aq .i64 rl)++[AV.v (.i .i64 ((rr:Int)-((c1%256:Nat):Int)-bo+256))]++List.drop (i+j+1) (aq .i64 rl)=aq .i64 (rl.set (i+j) dg.toNat):=dx oO oO;clear hR1 hset hs1 hcy hX hcn;exact u4 (aN @rl2 (aN @hdn (aN @e1 (aN @e2 (aN @hij (aN @f1 (aN @f2 (aN @f3 @p1)))))))) @hgo1
         ·have hv:((dg.toNat:Nat):Int)=dg:=gV hdg.1;have hvv:(rr:Int)-((c1%256:Nat):Int)-bo=dg:=by omega
          have hgo1:=hR1 (i+1,c1/256,0) ⟨by show i+1<=n;omega,by show c1/256<=255;omega,by show 0<=1;omega,by show cy U D (-(gu:Int)) (i+1)= -((c1/256+0:Nat):Int);rw[hcn];omega⟩ (by show n-(i+1)<n-i;omega)
          rw[<-hset _ hv]at hgo1;have p1:List.take (i+j) (aq .i64 rl)++[AV.v (.i .i64 ((rr:Int)-((c1%256:Nat):Int)-bo))]++List.drop (i+j+1) (aq .i64 rl)=aq .i64 (rl.set (i+j) dg.toNat):=dx oO oO;clear hR1 hset hs1 hcy hX hcn;exact u4 (aN @rl2 (aN @hdn (aN @e1 (aN @e2 (aN @hij (aN @f1 (aN @f2 (aN @f3 @p1)))))))) @hgo1
        ·obtain rfl:n=i:=by omega
         have e1:(aq .i64 rl).getD (j+n) .u= .v (.i .i64 (x1:Int)):=by rw[cH oO,hrl1,tx oO,Tc,hx1]
         obtain⟨X,hX⟩: ∃X,X=(U:Int)-gu*D:=⟨_,rfl⟩;rw[<-hX]at hrl1;have htop:(x1:Int)-c-bo=X/256^n:=by
          have h1:U<256*256^n:=ix st1 (HK D2 oC);have h2:=QP h1 D2 hcy;rw[hdU,fT n j,hx1]at h2;rw[hX,<-h2];omega
         clear hR1 hcy;refine fx (aN @rl2 (aN @hdn (aN @hjn (aN @e1 @htop)))) ?_;rw[hrl1,hX];clear hrl1 rl1 rl2 hX htop e1;refine af (α:=Nat) (fun g=>g) (fun g=>⟨[(10,E' s),(11,E' n),(12, .rs 1017 0 0 n 1),(14, .rs 1025 0 0 (l+1) 1),(16, .rs 1036 0 0 L 1),(17,E' j),(18,E' g),(23, .v (.i .i64 (((U:Int)-g*D)/256^n)))],[(1017,⟨0,aq .i64 (dl n (dv D)),false,none⟩),(1025,⟨0,aq .i64 (dl (l+1) (dX (dv cur) j n ((U:Int)-g*D))),false,none⟩),(1036,⟨0,ay qb,false,none⟩)],_⟩) (fun g=>U/D<=g/\g<=255) gu (fun _=>an _) ⟨gu1,gu2⟩ ?_ ?_
         ·exact lE
         ·clear gu1 gu2 gu;rintro g ⟨g1,g2⟩ R2 hR2
          by_cases hX0:(U:Int)-g*D<0
          ·have hg0:U/D<g:=by
            rw[gK hD0];have h:(U:Int)<(g:Int)*D:=by omega
            exact_mod_cast h
           have hg00:0<g:=ec (aH _) hg0;obtain⟨g',rfl⟩: ∃g',g=g'+1:=⟨g-1,by omega⟩
           have hgo2:=hR2 g' ⟨Nat.le_of_lt_succ hg0,by omega⟩ (sH _)
           have hXb: -256<=((U:Int)-((g'+1:Nat):Int)*D)/256^n:=by
            rw[Int.le_ediv_iff_mul_le (I4 n)];have h1:(g'+1)*D<=256*256^n:=jP oO (jR D2);have h2:((g'+1:Nat):Int)*(D:Int)<=256*256^n:=by exact_mod_cast h1
            rw[sj];omega
           have hXD:(U:Int)-(g':Nat)*D=(U-((g'+1:Nat):Int)*D)+D:=by
            rw[Int.natCast_add,Int.add_mul];omega
           rw[hXD]at hgo2;obtain⟨X,hX⟩: ∃X,X=(U:Int)-((g'+1:Nat):Int)*D:=⟨_,rfl⟩;rw[<-hX]at hgo2 hX0 hXb⊢;have ht0:decide (X/256^n<0)=true:=decide_eq_true (HI hX0 (I4 n));have hg1:((g'+1:Nat):Int)-1=g':=by omega
           clear hX hXD hR2;repeat' first|simp only[go_sem,seval,ht0,hg1]|refine sB ?_|apply xX<;>intro hc|refine⟨oD,?_⟩|exact oD|fail
           refine af (α:=Nat×Nat) (fun p=>n-p.1) (fun p=>⟨[(10,E' s),(11,E' n),(12, .rs 1017 0 0 n 1),(14, .rs 1025 0 0 (l+1) 1),(16, .rs 1036 0 0 L 1),(17,E' j),(18,E' g'),(23, .v (.i .i64 (X/256^n))),(24,E' p.2),(211,E' n),(212,E' p.1)],[(1017,⟨0,aq .i64 (dl n (dv D)),false,none⟩),(1025,⟨0,aq .i64 (dl (l+1) (dX (dX (dv cur) j n X) j p.1 (X+D))),false,none⟩),(1036,⟨0,ay qb,false,none⟩)],_⟩) (fun p=>p.1<=n/\p.2<=1/\cy X D 1 p.1=p.2) (0,0) (fun _=>an _) ⟨aH _,aH _,by rw[GA];rfl⟩ ?_ ?_
           ·rw[GB];exact lE
           ·rintro⟨i,c⟩ ⟨hi,hc1,hcy⟩ R3 hR3;simp only at hi hc1 hcy;obtain⟨rl,hrl1⟩: ∃rl,rl=dl (l+1) (dX (dX (dv cur) j n X) j i (X+D)):=⟨_,rfl⟩;have rl1:rl.length=l+1:=by rw[hrl1,lf]
            have rl2:(aq .i64 rl).length=l+1:=by rw[aP,rl1]
            rw[<-hrl1]
            by_cases hlt:i<n
            ·have e1:=hcl i hlt;have hij:((i:Int)+j).toNat=i+j:=by omega
             have e2:(aq .i64 rl).getD (i+j) .u= .v (.i .i64 (dX (dv cur) j n X (i+j):Nat)):=by rw[cH oO,hrl1,tx oO,Re]
             have hr:=VS (dv cur) (j:=j) X hlt;have hset:=fun v hv=>KP (N:=l+1) (dX (dv cur) j n X) j i (X+D) (v:=v) hv
             rw[<-hrl1]at hset;generalize dX (dv cur) j n X (i+j)=rr at*;obtain⟨s1,s2⟩:=J4 hr hcy;have b4:=GC X i;have b5:=nZ D i;rw[<-hr]at b4;generalize dv D i=dd at*;obtain⟨c1,hc1'⟩: ∃c1,c1=c+rr+dd:=⟨_,rfl⟩;rw[<-hc1']at s1 s2;have f2:(c:Int)+((rr:Int)+(dd:Int))=(c1:Int):=by omega
             have f3:lk .i64 (c1:Int) 255=((c1%256:Nat):Int):=Bb oO;have hgo3:=hR3 (i+1,c1/256) ⟨by show i+1<=n;omega,by show c1/256<=1;omega,s1⟩ (by show n-(i+1)<n-i;omega)
             rw[<-hset _ s2.symm]at hgo3;have p1:List.take (i+j) (aq .i64 rl)++[AV.v (.i .i64 ((c1%256:Nat):Int))]++List.drop (i+j+1) (aq .i64 rl)=aq .i64 (rl.set (i+j) (c1%256)):=dx oO rfl;clear hR3 hset s1 s2 hcy hr;exact u4 (aN @rl2 (aN @hdn (aN @e1 (aN @e2 (aN @hij (aN @f2 (aN @f3 @p1))))))) @hgo3
            ·obtain rfl:n=i:=by omega
             have htp:=Ot D2 hcy;rw[<-htp]at hgo2;rw[VR]at hrl1;rw[<-hrl1]at hgo2;have hXn:=HI hX0 (I4 n);have e: ∀ _:True,IntKind.i64.wrap (X/256^n+(c:Int))=X/256^n+c:=fun _=>IntWalk.i64_in _ oO
             clear hR3 hcy htp hrl1 rl1 rl2;exact u4 (e trivial) @hgo2
          ·have hgU:g*D<=U:=by
            have h:(g:Int)*D<=(U:Int):=by omega
            exact_mod_cast h
           have hX1:U/D=g:=Ct g1 ((sE hD0).2 hgU);have hX2:(U:Int)-g*D=((U%D:Nat):Int):=by
            have h:=gM U D;rw[hX1,bc]at h;have h2:((g*D:Nat):Int)+((U%D:Nat):Int)=U:=by exact_mod_cast h
            rw[Int.natCast_mul]at h2;omega
           have hUD:=aD U hD0;have hXl:U%D<256^n:=ix hUD D2;have ht0:((U%D:Nat):Int)/256^n=0:=vK oO (by exact_mod_cast hXl)
           rw[hX2,ht0];obtain⟨rl,hrl1⟩: ∃rl,rl=dl (l+1) (dX (dv cur) j n ((U%D:Nat):Int)):=⟨_,rfl⟩;have rl1:rl.length=l+1:=by rw[hrl1,lf]
           have rl2:(aq .i64 rl).length=l+1:=by rw[aP,rl1]
           have hcb:cur<256^(j+n+1):=by
            have h1:cur<256*D*256^j:=by
             rw[<-gK (fI oC),<-hU];exact st1
            refine bj h1 ?_;rw[show j+n+1=1+n+j by omega,ct,ct,wA]
            exact cF _ (iw _ (jR D2))
           have hr2:rl.set (j+n) 0=dl (l+1) (dv (U%D*256^j+cur%256^j)):=by
            rw[hrl1,AN (g:=fun k=>if k=j+n then 0 else dX (dv cur) j n ((U%D:Nat):Int) k) (fun _=>if_pos rfl) (fun k _ hk=>if_neg hk)]
            exact xf fun k _=>O2 hcb hXl k
           have hq2:qb.set (L-1-j) (UInt8.ofNat g)=be (L-j) (256*Qj+U/D)++List.replicate j 0:=by
            have e1:be (L-j) (256*Qj+U/D)=be (L-(j+1)) Qj++[UInt8.ofNat g]:=by
             rw[show L-j=L-(j+1)+1 by omega,wN,show(256*Qj+U/D)/256^1=Qj by omega]
             congr 1;simp only[be,Nat.pow_zero,iS,hX1];rw[show 256*Qj+g=g+256*Qj by omega]
             simp[UInt8.ofNat_add,UInt8.ofNat_mul]
            rw[e1,hqb,show L-1-j=(be (L-(j+1)) Qj).length by rw[cj];omega,List.replicate_succ]
            simp
           have hql:qb.length=L:=by rw[hqb];simp[cj];omega
           have p1:List.take (j+n) (aq .i64 rl)++[AV.v (.i .i64 0)]++List.drop (j+n+1) (aq .i64 rl)=aq .i64 (rl.set (j+n) 0):=dx oO rfl;have p2:List.take (L-1-j) (ay qb)++[AV.v (.i .u8 ((UInt8.ofNat g).toNat:Int))]++List.drop (L-1-j+1) (ay qb)=ay (qb.set (L-1-j) (UInt8.ofNat g)):=qZ oO rfl;have hLj:((L:Int)-1-j).toNat=L-1-j:=by omega
           rw[<-hr2,<-hq2]at hgo;rw[<-hrl1];have hlt0:decide ((0:Int)<0)=false:=by decide
           clear hX2 ht0 hrl1 hr2 hq2 hX0 hR2 hcb hXl hUD hgU hX1 hU;repeat' first|simp only[go_sem,seval,rl2,hql,hjn,p1,p2,hLj,j4,hlt0]|refine sB ?_|apply xX<;>intro hc|refine⟨oD,?_⟩|exact oD|fail
           refine hgo _ ?_;exact lE
end Go.Proofs.YtfdjchnefpefbaaGreatDoor
