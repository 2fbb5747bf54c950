/-
  Part of the proof, part FA28. Own work.
-/
import Derived.Test.YtfdjchnefpefbaaGreatDoorFA21
set_option linter.all false
namespace Go.Proofs.YtfdjchnefpefbaaGreatDoor
open Go Go.Dom
set_option maxRecDepth 100000
set_option maxHeartbeats 16000000
def zy (n:Nat):Bytes:=List.replicate n 0
theorem F8 (n:Nat):(zy n).length=n:=B2
theorem mk0 (n:Nat):(List.replicate n [AV.v (.i .u8 0)]).flatten=ay (zy n):=by
 unfold zy
 induction n with
 |zero=>rfl
 |succ n ih=>rw[List.replicate_succ,List.flatten_cons,ih,List.replicate_succ];rfl
theorem EK (l:Bytes):(ay l).all AV.one=true:=by
 unfold ay
 induction l with
 |nil=>rfl
 |cons c l ih=>rw[aS,List.all_cons,ih];rfl
theorem mT (l:Bytes) (n:Nat):List.drop n (ay l)=ay (l.drop n):=by unfold ay;exact(sR ..).symm
theorem l8 (l:Bytes) (n:Nat):List.take n (ay l)=ay (l.take n):=by unfold ay;exact(pP ..).symm
theorem q9 (l:Bytes) (n:Nat):ay l++[AV.v (.i .u8 (IntKind.u8.wrap (n:Int)))]=ay (l++[UInt8.ofNat n]):=by
 rw[<-jw];congr 1
theorem Kv (l:Bytes):ay l++[AV.v (.i .u8 0)]=ay (l++[0]):=by rw[<-jw];rfl
theorem Kw (l:Bytes):ay l++[AV.v (.i .u8 128)]=ay (l++[128]):=by rw[<-jw];rfl
theorem JD {hf:Nat->Option au} {f n ver o m:Nat} {l:Bytes} {gr:Bool} {el:Option TypeId} (hm:o+m<=l.length) (h:hf n=some ⟨ver,ay l,gr,el⟩):
  view hf (f+2) (.rs n ver o m 1)=some (.sl (((l.drop o).take m).map u8)):=by
 have h1:aQ (view hf (f+1)) (ay ((l.drop o).take m))=some (((l.drop o).take m).map u8):=by
  have:=eJ hf f (((l.drop o).take m).map u8);rw[iQ]at this;exact this
 have h2:(ay ((l.drop o).take m)).all AV.one=true:=EK _;have h3:chunk 1 m (((l.drop o).take m).map u8)=((l.drop o).take m).map u8:=by
  have:=qo (((l.drop o).take m).map u8)
  rwa[aE,bU,j7,pO oO]at this
 simp only[view,h,mT,l8,iC,dG,h1,h2,h3,hm,Option.map_some];simp
theorem F4 {hf:Nat->Option au} {f n ver o m:Nat} {l:Bytes} {gr:Bool} {el:Option TypeId} (h:hf n=some ⟨ver,ay l,gr,el⟩):
  aL hf (f+2) (.rs n ver o m 1)=[n]:=by
 have h1: ∀l:Bytes,(ay l).flatMap (aL hf (f+1))=[]:=fun l=>by
  unfold ay
  induction l with
  |nil=>rfl
  |cons x r ih=>simp_all[aL]
 simp only[aL,h,mT,l8,h1]
theorem oE (n:Nat):AV.byte (.v (.i .u8 (IntKind.u8.wrap (n:Int))))=UInt8.ofNat n:=by
 simp[AV.byte,PV.byte,su];apply B3;simp;omega
theorem xD (n:Nat):AV.isByte (.v (.i .u8 (IntKind.u8.wrap (n:Int))))=True:=by
 simp[AV.isByte,PV.isByte,su]
theorem Pg (l:List Nat):(PV.agg (wl l)).flat=true:=by
 unfold wl
 induction l with
 |nil=>rfl
 |cons x l ih=>simp_all[PV.flat,PV.flat.flatL]
theorem RY {P:Program} [bY P] {Q:AX->AS->Prop} {nx:Nat} {bf:Option (List Nat)} {nn:Nat} {d:Option Nat} {ops:List jd} {k:Nat} {s:AS} {tr:List (Nat×List Nat×List Nat)} {K:List Fr} {nm:Nat} {f:FuncId} {n ver o m:Nat} {l:Bytes} {gr:Bool} {el:Option TypeId} {x r:PV}
  (he:aA P f [x, .sl (((l.drop o).take m).map u8)] r) (hr:r.flat=true) (hg:aj s.h n=some ⟨ver,ay l,gr,el⟩) (hm:o+m<=l.length) (hK:RW P Q nx bf nn ops (k+1) (s.um d (.v r) []) (At bf k [n] [] tr) K):
  CR P Q nx bf nn nm (.v (.fn (.func f))) [.v x, .rs n ver o m 1] d ops k s tr K:=by
 refine o9 he ?_ hr ?_
 ·simp[aQ,JD hm hg];rfl
 ·have:[AV.v x,AV.rs n ver o m 1].flatMap (aL (aj s.h) 9)=[n]:=by simp[F4 hg];rfl
  rw[this];exact hK
theorem s9 {s:Bytes} (hs:s.length<1000000000):aA Tryz.prog 401 [.s s] (.s (lD s)):=by
 have hf:=Lh;have t1: ∀ _:True,((s.length:Int)+72)=((s.length+72:Nat):Int):=fun _=>by omega
 have e1:List.drop s.length (zy (s.length+72))=zy 72:=by
  unfold zy;rw[List.drop_replicate,Nat.add_sub_cancel_left]
 have e2:List.take s.length (s++zy 72)=s:=List.take_left' rfl;have e3:s.length<=(s++zy 72).length:=by simp
 have k1:(wl np).length=8:=rfl;have k2:(aq .u32 np).length=8:=rfl;have k3:List.take 8 (aq .u32 np)=aq .u32 np:=cd (by rw[aP];decide)
 have k4:List.drop 8 (aq .u32 np)=[]:=iO (by rw[aP];decide)
 refine eW Tryz.call401 Tryz.func401 ?_;repeat' first|simp only[go_sem,seval,t1 trivial,mk0,mT,l8,Q4,jw,Kw,F8,e1,e2]|refine sB ?_|apply xX<;>intro hc|refine⟨oD,?_⟩|exact oD|fail
 refine af (α:=Nat) (fun c=>64-c) (fun c=>⟨[(0, .v (.s s)),(3, .rs 1006 (1+c) 0 (s.length+1+c) 1)],[(1006,⟨1+c,ay (s++128::zy c),true,none⟩)],1015⟩) (fun c=>c<=(119-s.length%64)%64) 0 (fun _=>an _) (aH _) ?_ ?_
 ·(refine AS.Le.of (by first|decide|omega) ?_ ?_<;>simp[dM,dL,aK,aj,AV.bd,AV.bd.bdL,u8,ai,ak,ar])
  all_goals rfl
 ·intro c hc R hR;have hl:(s++128::zy c).length=s.length+1+c:=by simp[F8];omega
  have hT:List.take (s.length+1+c) (s++128::zy c)=s++128::zy c:=by rw[<-hl];exact cK
  have hz:s++128::zy c++[0]=s++128::zy (c+1):=by
   rw[eU];congr 1;unfold zy;rw[Cm];rfl
  by_cases hlt:c=(119-s.length%64)%64
  ·have h5: ∀ _:True,(((s.length+1+c)%64:Nat):Int)=56:=fun _=>by omega
   have w1: ∀ _:True,IntKind.u64.wrap (s.length:Int)=(s.length:Int):=fun _=>by rw[zp];omega
   have w2: ∀ _:True,IntKind.u64.wrap ((s.length:Int)*8)=((s.length*8:Nat):Int):=fun _=>by rw[zp];omega
   clear hR;repeat' first|simp only[go_sem,seval,hl,hT,Kv,mT,l8,h5 trivial,w1 trivial,w2 trivial]|refine sB ?_|apply xX<;>intro hc|refine⟨oD,?_⟩|exact oD|fail
   obtain⟨N,hN⟩: ∃N,N=s.length*8:=⟨_,rfl⟩;obtain⟨M0,hM0⟩: ∃M,M=s++128::zy c:=⟨_,rfl⟩;rw[<-hN,<-hM0];obtain⟨m0,hm0⟩: ∃m,m=s.length+1+c:=⟨_,rfl⟩;rw[<-hm0];have hL0:M0.length=m0:=by rw[hM0,hm0,hl]
   have hT0:List.take m0 M0=M0:=by rw[hm0,hM0,hT]
   obtain⟨v0,hv0⟩: ∃v,v=1+c:=⟨_,rfl⟩;rw[<-hv0];have hb1:m0<2000000000:=by omega
   clear hl hT hc h5 w1 w2;refine ah ?_;repeat' first|simp only[go_sem,seval,hL0,hT0,q9,mT,l8]|refine sB ?_|apply xX<;>intro hc|refine⟨oD,?_⟩|exact oD|fail
   all_goals try refine⟨by omega,?_⟩
   obtain⟨M1,hM1⟩: ∃x,x=M0++[UInt8.ofNat (N/72057594037927936)]:=⟨_,rfl⟩;obtain⟨m1,hm1⟩: ∃x,x=m0+1:=⟨_,rfl⟩;obtain⟨v1,hv1⟩: ∃x,x=v0+1:=⟨_,rfl⟩;rw[<-hM1,<-hm1,<-hv1];have hL1:M1.length=m1:=by rw[hM1,hm1,bm,hL0];rfl
   have hT1:List.take m1 M1=M1:=by rw[<-hL1];exact cK
   refine ah ?_;repeat' first|simp only[go_sem,seval,hL1,hT1,q9,mT,l8]|refine sB ?_|apply xX<;>intro hc|refine⟨oD,?_⟩|exact oD|fail
   all_goals try refine⟨by omega,?_⟩
   obtain⟨M2,hM2⟩: ∃x,x=M1++[UInt8.ofNat (N/281474976710656)]:=⟨_,rfl⟩;obtain⟨m2,hm2⟩: ∃x,x=m1+1:=⟨_,rfl⟩;obtain⟨v2,hv2⟩: ∃x,x=v1+1:=⟨_,rfl⟩;rw[<-hM2,<-hm2,<-hv2];have hL2:M2.length=m2:=by rw[hM2,hm2,bm,hL1];rfl
   have hT2:List.take m2 M2=M2:=by rw[<-hL2];exact cK
   refine ah ?_;repeat' first|simp only[go_sem,seval,hL2,hT2,q9,mT,l8]|refine sB ?_|apply xX<;>intro hc|refine⟨oD,?_⟩|exact oD|fail
   all_goals try refine⟨by omega,?_⟩
   obtain⟨M3,hM3⟩: ∃x,x=M2++[UInt8.ofNat (N/1099511627776)]:=⟨_,rfl⟩;obtain⟨m3,hm3⟩: ∃x,x=m2+1:=⟨_,rfl⟩;obtain⟨v3,hv3⟩: ∃x,x=v2+1:=⟨_,rfl⟩;rw[<-hM3,<-hm3,<-hv3];have hL3:M3.length=m3:=by rw[hM3,hm3,bm,hL2];rfl
   have hT3:List.take m3 M3=M3:=by rw[<-hL3];exact cK
   refine ah ?_;repeat' first|simp only[go_sem,seval,hL3,hT3,q9,mT,l8]|refine sB ?_|apply xX<;>intro hc|refine⟨oD,?_⟩|exact oD|fail
   all_goals try refine⟨by omega,?_⟩
   obtain⟨M4,hM4⟩: ∃x,x=M3++[UInt8.ofNat (N/4294967296)]:=⟨_,rfl⟩;obtain⟨m4,hm4⟩: ∃x,x=m3+1:=⟨_,rfl⟩;obtain⟨v4,hv4⟩: ∃x,x=v3+1:=⟨_,rfl⟩;rw[<-hM4,<-hm4,<-hv4];have hL4:M4.length=m4:=by rw[hM4,hm4,bm,hL3];rfl
   have hT4:List.take m4 M4=M4:=by rw[<-hL4];exact cK
   refine ah ?_;repeat' first|simp only[go_sem,seval,hL4,hT4,q9,mT,l8]|refine sB ?_|apply xX<;>intro hc|refine⟨oD,?_⟩|exact oD|fail
   all_goals try refine⟨by omega,?_⟩
   obtain⟨M5,hM5⟩: ∃x,x=M4++[UInt8.ofNat (N/16777216)]:=⟨_,rfl⟩;obtain⟨m5,hm5⟩: ∃x,x=m4+1:=⟨_,rfl⟩;obtain⟨v5,hv5⟩: ∃x,x=v4+1:=⟨_,rfl⟩;rw[<-hM5,<-hm5,<-hv5];have hL5:M5.length=m5:=by rw[hM5,hm5,bm,hL4];rfl
   have hT5:List.take m5 M5=M5:=by rw[<-hL5];exact cK
   refine ah ?_;repeat' first|simp only[go_sem,seval,hL5,hT5,q9,mT,l8]|refine sB ?_|apply xX<;>intro hc|refine⟨oD,?_⟩|exact oD|fail
   all_goals try refine⟨by omega,?_⟩
   obtain⟨M6,hM6⟩: ∃x,x=M5++[UInt8.ofNat (N/65536)]:=⟨_,rfl⟩;obtain⟨m6,hm6⟩: ∃x,x=m5+1:=⟨_,rfl⟩;obtain⟨v6,hv6⟩: ∃x,x=v5+1:=⟨_,rfl⟩;rw[<-hM6,<-hm6,<-hv6];have hL6:M6.length=m6:=by rw[hM6,hm6,bm,hL5];rfl
   have hT6:List.take m6 M6=M6:=by rw[<-hL6];exact cK
   refine ah ?_;repeat' first|simp only[go_sem,seval,hL6,hT6,q9,mT,l8]|refine sB ?_|apply xX<;>intro hc|refine⟨oD,?_⟩|exact oD|fail
   all_goals try refine⟨by omega,?_⟩
   obtain⟨M7,hM7⟩: ∃x,x=M6++[UInt8.ofNat (N/256)]:=⟨_,rfl⟩;obtain⟨m7,hm7⟩: ∃x,x=m6+1:=⟨_,rfl⟩;obtain⟨v7,hv7⟩: ∃x,x=v6+1:=⟨_,rfl⟩;rw[<-hM7,<-hm7,<-hv7];have hL7:M7.length=m7:=by rw[hM7,hm7,bm,hL6];rfl
   have hT7:List.take m7 M7=M7:=by rw[<-hL7];exact cK
   refine ah ?_;repeat' first|simp only[go_sem,seval,hL7,hT7,q9,mT,l8]|refine sB ?_|apply xX<;>intro hc|refine⟨oD,?_⟩|exact oD|fail
   all_goals try refine⟨by omega,?_⟩
   obtain⟨M8,hM8⟩: ∃x,x=M7++[UInt8.ofNat (N/1)]:=⟨_,rfl⟩;obtain⟨m8,hm8⟩: ∃x,x=m7+1:=⟨_,rfl⟩;obtain⟨v8,hv8⟩: ∃x,x=v7+1:=⟨_,rfl⟩;rw[<-hM8,<-hm8,<-hv8];have hL8:M8.length=m8:=by rw[hM8,hm8,bm,hL7];rfl
   have hT8:List.take m8 M8=M8:=by rw[<-hL8];exact cK
   have hP:M8=pad s:=by
    rw[hM8,hM7,hM6,hM5,hM4,hM3,hM2,hM1,hM0,hlt,hN,pad];simp only[be,zy,eU,List.cons_append,List.nil_append,Nat.reducePow,Nat.pow_zero,iS]
   clear hM8 hM7 hM6 hM5 hM4 hM3 hM2 hM1 hM0 hT0 hT1 hT2 hT3 hT4 hT5 hT6 hT7 hL0 hL1 hL2 hL3 hL4 hL5 hL6 hL7;subst hP;refine ah ?_;repeat' first|simp only[go_sem,seval,k1,k2,k3,k4,NG]|refine cP hf ?_|refine sB ?_|apply xX<;>intro hc|refine⟨oD,?_⟩|exact oD|fail
   clear hT8;obtain⟨l,hl⟩: ∃l,l=pad s:=⟨_,rfl⟩;have hm6:l.length=l.length/64*64:=by rw[hl];exact Mk s
   have hsum:lD s=(mN (l.length/64) l np).flatMap Ue:=by rw[hl];rfl
   rw[hsum];rw[<-hl]at hL8⊢;clear hsum hl hv1 hv2 hv3 hv4 hv5 hv6 hv7 hv8 hv0 hlt hN e1 e2 e3 t1;have hb8:m8<2000000008:=by omega
   have hm8:m8=m8/64*64:=by omega
   clear hb1 hm0 hm1 hm2 hm3 hm4 hm5 hm6 hm7;rw[hL8];refine af (α:=Nat×Nat×List Nat) (fun p=>p.2.1) (fun p=>⟨[(3, .rs 1006 v8 p.1 p.2.1 1),(6, .p 1132 0 0)],[(1006,⟨v8,ay l,true,none⟩),(1132,⟨0,aq .u32 p.2.2,false,some 462⟩)],_⟩) (fun p=>p.1+p.2.1=m8/\p.2.1=p.2.1/64*64/\p.2.2.length=8/\mN (p.2.1/64) (l.drop p.1) p.2.2=mN (m8/64) l np) (0,m8,np) (fun _=>an _) ⟨dI _,hm8,rfl,rfl⟩ ?_ ?_
   ·exact lE
   ·rintro⟨o,r,st⟩ ⟨ho,hr,hst,he⟩ R hR;have ho:o+r=m8:=ho;have hr:r=r/64*64:=hr;have hst:st.length=8:=hst;have he:mN (r/64) (l.drop o) st=mN (m8/64) l np:=he;have q1:(aq .u32 st).length=8:=by rw[aP,hst]
    have q2:List.take 8 (aq .u32 st)=aq .u32 st:=cd oO;rcases j5 (r/64)with h0|h0
    ·have hr0:r=0:=by omega
     subst hr0;have he:st=mN (m8/64) l np:=by rw[<-he];rfl
     rw[<-he];clear hR he h0 hr;obtain⟨a,b,c,d,e,f,g,i,rfl⟩:=Va hst;have w8:wl [a,b,c,d,e,f,g,i]=[.i .u32 (a:Int), .i .u32 (b:Int), .i .u32 (c:Int), .i .u32 (d:Int), .i .u32 (e:Int), .i .u32 (f:Int), .i .u32 (g:Int), .i .u32 (i:Int)]:=rfl;repeat' first|simp only[go_sem,seval,q1,q2,iX,k1]|refine sB ?_|apply xX<;>intro hc|refine⟨oD,?_⟩|exact oD|fail
     rw[w8];refine ah ?_;repeat' first|simp only[go_sem,seval,xD,oE]|refine sB ?_|apply xX<;>intro hc|refine⟨oD,?_⟩|exact oD|fail
     refine ah ?_;repeat' first|simp only[go_sem,seval,xD,oE]|refine sB ?_|apply xX<;>intro hc|refine⟨oD,?_⟩|exact oD|fail
     refine ah ?_;repeat' first|simp only[go_sem,seval,xD,oE]|refine sB ?_|apply xX<;>intro hc|refine⟨oD,?_⟩|exact oD|fail
     refine ah ?_;repeat' first|simp only[go_sem,seval,xD,oE]|refine sB ?_|apply xX<;>intro hc|refine⟨oD,?_⟩|exact oD|fail
     refine ah ?_;repeat' first|simp only[go_sem,seval,xD,oE]|refine sB ?_|apply xX<;>intro hc|refine⟨oD,?_⟩|exact oD|fail
     refine ah ?_;repeat' first|simp only[go_sem,seval,xD,oE]|refine sB ?_|apply xX<;>intro hc|refine⟨oD,?_⟩|exact oD|fail
     refine ah ?_;repeat' first|simp only[go_sem,seval,xD,oE]|refine sB ?_|apply xX<;>intro hc|refine⟨oD,?_⟩|exact oD|fail
     refine ah ?_;repeat' first|simp only[go_sem,seval,xD,oE]|refine sB ?_|apply xX<;>intro hc|refine⟨oD,?_⟩|exact oD|fail
     refine ah ?_;repeat' first|simp only[go_sem,seval,xD,oE]|refine sB ?_|apply xX<;>intro hc|refine⟨oD,?_⟩|exact oD|fail
     all_goals rfl
    ·obtain⟨r',rfl⟩: ∃r',r=r'+64:=⟨r-64,by omega⟩
     have f1:o+64+r'=m8:=by omega
     have f2:r'=r'/64*64:=by omega
     have hgo:=hR (o+64,r',pV st ((l.drop o).take 64)) ⟨f1,f2,nk _ hst,by
      rw[show(r'+64)/64=r'/64+1 by omega,mN,vX]at he
      rw[fT o 64];rw[fT o 64]at he;exact he⟩ (by simp)
     have hblk:((l.drop o).take 64).length=64:=by rw[bU,j7];omega
     have ha:=J5 hst hblk;have q3:(wl (pV st ((l.drop o).take 64))).length=8:=by rw[o5,nk _ hst]
     have q4:List.drop 8 (aq .u32 st)=[]:=iO oO;have hfl:=Pg (pV st ((l.drop o).take 64));clear hR he h0;repeat' first|simp only[go_sem,seval,q1,q2,q3,q4,iX,NG]|(refine RY (gr:=true) (el:=none) (ver:=v8) (l:=l) ha hfl (by simp[aj]) oO ?_)|refine sB ?_|apply xX<;>intro hc|refine⟨oD,?_⟩|exact oD|fail
     refine⟨by rw[aP];exact nk _ hst,rfl,by omega,hgo _ ?_⟩
     (refine AS.Le.of (by first|decide|omega) ?_ ?_<;>simp[dM,dL,aK,aj,AV.bd,AV.bd.bdL,u8,ai,ak,ar])
     all_goals first|omega|skip
  ·have h5: ∀ _:True,¬(((s.length+1+c)%64:Nat):Int)=56:=fun _=>by omega
   have hgo:=hR (c+1) oO oO;clear hR;repeat' first|simp only[go_sem,seval,hl,hT,Kv,mT,l8,hz,h5 trivial]|refine sB ?_|apply xX<;>intro hc|refine⟨oD,?_⟩|exact oD|fail
   refine hgo _ ?_
   (refine AS.Le.of (by first|decide|omega) ?_ ?_<;>simp[dM,dL,aK,aj,AV.bd,AV.bd.bdL,u8,ai,ak,ar])
   all_goals first|omega|skip
def iD:Nat->Nat->Bytes
 |0,_=>[]
 |k+1,n=>iD k (n/10)++[UInt8.ofNat (48+n%10)]
abbrev pQ:TypeId:=426
def z24:List AV:=[.v (.i .u8 0), .v (.i .u8 0), .v (.i .u8 0), .v (.i .u8 0), .v (.i .u8 0), .v (.i .u8 0), .v (.i .u8 0), .v (.i .u8 0), .v (.i .u8 0), .v (.i .u8 0), .v (.i .u8 0), .v (.i .u8 0), .v (.i .u8 0), .v (.i .u8 0), .v (.i .u8 0), .v (.i .u8 0), .v (.i .u8 0), .v (.i .u8 0), .v (.i .u8 0), .v (.i .u8 0), .v (.i .u8 0), .v (.i .u8 0), .v (.i .u8 0), .v (.i .u8 0)]
def Eh:Bytes:=[48,48,48,49,48,50,48,51,48,52,48,53,48,54,48,55,48,56,48,57,49,48,49,49,49,50,49,51,49,52,49,53,49,54,49,55,49,56,49,57,50,48,50,49,50,50,50,51,50,52,50,53,50,54,50,55,50,56,50,57,51,48,51,49,51,50,51,51,51,52,51,53,51,54,51,55,51,56,51,57,52,48,52,49,52,50,52,51,52,52,52,53,52,54,52,55,52,56,52,57,53,48,53,49,53,50,53,51,53,52,53,53,53,54,53,55,53,56,53,57,54,48,54,49,54,50,54,51,54,52,54,53,54,54,54,55,54,56,54,57,55,48,55,49,55,50,55,51,55,52,55,53,55,54,55,55,55,56,55,57,56,48,56,49,56,50,56,51,56,52,56,53,56,54,56,55,56,56,56,57,57,48,57,49,57,50,57,51,57,52,57,53,57,54,57,55,57,56,57,57]
def qe (k n:Nat):au:=⟨0,(AV.v (.i .u8 0)::((iD k n).map fun c=>AV.v (u8 c)))++List.replicate (23-k) (AV.v (.i .u8 0)),false,some pQ⟩
theorem RR (n:Nat):IntKind.u32.wrap (n:Int)=((n%4294967296:Nat):Int):=by rw[IntKind.wrap_u32];omega
theorem w8 (n:Nat):IntKind.u8.wrap (n:Int)=((UInt8.ofNat n).toNat:Int):=by rw[su];simp
theorem i2 (n:Nat):(n:Int)*2=((n*2:Nat):Int):=by omega
theorem i1 (n:Nat):(n:Int)+1=((n+1:Nat):Int):=by omega
theorem i48 (n:Nat):(48:Int)+n=((48+n:Nat):Int):=by omega
theorem q2 (x:Nat):x%100*2%4294967296=x%100*2:=by omega
theorem q3 (x:Nat):(x%100*2+1)%4294967296=x%100*2+1:=by omega
theorem Zt: ∀n:Fin 100,Eh.getD (n.val*2) 0=UInt8.ofNat (48+n.val/10)/\Eh.getD (n.val*2+1) 0=UInt8.ofNat (48+n.val%10):=by decide+kernel
theorem O7 (x:Nat):Eh.getD (x%100*2+1) 0=UInt8.ofNat (48+x%10):=by
 have:=(Zt ⟨x%100,aD _ oC⟩).2;rw[this];congr 2;simp only;omega
theorem O8 (x:Nat):Eh.getD (x%100*2) 0=UInt8.ofNat (48+x/10%10):=by
 have:=(Zt ⟨x%100,aD _ oC⟩).1;rw[this];congr 2;simp only;omega
theorem Eg:[48,48,48,49,48,50,48,51,48,52,48,53,48,54,48,55,48,56,48,57,49,48,49,49,49,50,49,51,49,52,49,53,49,54,49,55,49,56,49,57,50,48,50,49,50,50,50,51,50,52,50,53,50,54,50,55,50,56,50,57,51,48,51,49,51,50,51,51,51,52,51,53,51,54,51,55,51,56,51,57,52,48,52,49,52,50,52,51,52,52,52,53,52,54,52,55,52,56,52,57,53,48,53,49,53,50,53,51,53,52,53,53,53,54,53,55,53,56,53,57,54,48,54,49,54,50,54,51,54,52,54,53,54,54,54,55,54,56,54,57,55,48,55,49,55,50,55,51,55,52,55,53,55,54,55,55,55,56,55,57,56,48,56,49,56,50,56,51,56,52,56,53,56,54,56,55,56,56,56,57,57,48,57,49,57,50,57,51,57,52,57,53,57,54,57,55,57,56,57,57]=Eh:=rfl
theorem uI:Eh.length=200:=rfl
theorem uz {a b:AV} {l m:List AV} (h:a=b) (g:l=m):a::l=b::m:=by rw[h,g]
theorem Ri {a b:Nat} (h:a=b):AV.v (.i .u8 ((UInt8.ofNat a).toNat:Int))=AV.v (.i .u8 ((UInt8.ofNat b).toNat:Int)):=by rw[h]
theorem Rg {x b:Nat} (h:x<100) (e:48+x/10=b):AV.v (.i .u8 ((Eh.getD (x*2%4294967296) 0).toNat:Int))=AV.v (.i .u8 ((UInt8.ofNat b).toNat:Int)):=by
 have:=O8 x;rw[aV h]at this;rw[aV (show x*2<4294967296 by omega),this,<-e];congr 5;omega
theorem Rh {x b:Nat} (h:x<100) (e:48+x%10=b):AV.v (.i .u8 ((Eh.getD ((x*2%4294967296+1)%4294967296) 0).toNat:Int))=AV.v (.i .u8 ((UInt8.ofNat b).toNat:Int)):=by
 have:=O7 x;rw[aV h]at this;rw[aV (show x*2<4294967296 by omega),aV (show x*2+1<4294967296 by omega),this,<-e]
theorem pY:z24=[.v (.i .u8 0), .v (.i .u8 0), .v (.i .u8 0), .v (.i .u8 0), .v (.i .u8 0), .v (.i .u8 0), .v (.i .u8 0), .v (.i .u8 0), .v (.i .u8 0), .v (.i .u8 0), .v (.i .u8 0), .v (.i .u8 0), .v (.i .u8 0), .v (.i .u8 0), .v (.i .u8 0), .v (.i .u8 0), .v (.i .u8 0), .v (.i .u8 0), .v (.i .u8 0), .v (.i .u8 0), .v (.i .u8 0), .v (.i .u8 0), .v (.i .u8 0), .v (.i .u8 0)]:=rfl
theorem Z9 (o nm u:Nat) (hu:u<1000):iB Tryz.prog 409 nm [(o,⟨0,z24,false,some pQ⟩)] [.rs o 0 1 3 1, .v (.i .u64 (u:Int))] (.tup []) [(o,some (qe 3 u))]:=by
 have h1:u%4294967296=u:=by omega
 refine iB.w mixed Tryz.call409 Tryz.func409 rfl (je.1 _ _ _ (by cbv)) (je.2 _ _ (by cbv)) (obs:=[⟨0,z24,false,some pQ⟩]) (args:=[.rs 0 0 1 3 1, .v (.i .u64 (u:Int))]) (fs:=[some (some (qe 3 u))]) (j:=none) (nw:=none) (v:= .tup []) (ns:=[o]) (obsA:=[⟨0,z24,false,some pQ⟩]) rfl ?_ (by simp) (by simp) rfl (by simp[aQ,au.aF,AV.aF,AV.aF.renL,cq,z24]) (by simp[aQ,AV.aF,AV.aF.renL,cq]) (by simp[AV.aF,AV.aF.renL]) (by simp[eK,outs,au.aF,AV.aF,AV.aF.renL,ax,gb,qe,iD])
 simp only[go_sem,seval,pY];repeat' first|simp only[go_sem,seval,true_or,or_true,false_or,or_false,ae,ga,dS,fL,fh,fj,dT,nu,oe,fB,fQ,cJ,aB,AV.aF,AV.aF.renL,ax,RR,w8,i2,i1,i48,h1,q2,q3,Eg,uI,O7,O8]|(refine ah ?_)|refine sB ?_|apply xX<;>intro hc|refine⟨oD,?_⟩|exact oD|fail
 all_goals first|decide|omega|skip
 all_goals (
  refine congrArg (fun l=>au.mk 0 l false (some pQ)) ?_
  simp only[iD,dD,aS,bH,List.nil_append,List.cons_append,u8];repeat' (first|rfl|refine uz ?_ ?_|fail)
  all_goals first|(refine Ri ?_;omega)|(refine Rg ?_ ?_<;>omega)|(refine Rh ?_ ?_<;>omega))
theorem fb4 (o nm u:Nat) (hu:u<10000):iB Tryz.prog 409 nm [(o,⟨0,z24,false,some pQ⟩)] [.rs o 0 1 4 1, .v (.i .u64 (u:Int))] (.tup []) [(o,some (qe 4 u))]:=by
 have h1:u%4294967296=u:=by omega
 refine iB.w mixed Tryz.call409 Tryz.func409 rfl (je.1 _ _ _ (by cbv)) (je.2 _ _ (by cbv)) (obs:=[⟨0,z24,false,some pQ⟩]) (args:=[.rs 0 0 1 4 1, .v (.i .u64 (u:Int))]) (fs:=[some (some (qe 4 u))]) (j:=none) (nw:=none) (v:= .tup []) (ns:=[o]) (obsA:=[⟨0,z24,false,some pQ⟩]) rfl ?_ (by simp) (by simp) rfl (by simp[aQ,au.aF,AV.aF,AV.aF.renL,cq,z24]) (by simp[aQ,AV.aF,AV.aF.renL,cq]) (by simp[AV.aF,AV.aF.renL]) (by simp[eK,outs,au.aF,AV.aF,AV.aF.renL,ax,gb,qe,iD])
 simp only[go_sem,seval,pY];repeat' first|simp only[go_sem,seval,true_or,or_true,false_or,or_false,ae,ga,dS,fL,fh,fj,dT,nu,oe,fB,fQ,cJ,aB,AV.aF,AV.aF.renL,ax,RR,w8,i2,i1,i48,h1,q2,q3,Eg,uI,O7,O8]|(refine ah ?_)|refine sB ?_|apply xX<;>intro hc|refine⟨oD,?_⟩|exact oD|fail
 all_goals first|decide|omega|skip
 all_goals (
  refine congrArg (fun l=>au.mk 0 l false (some pQ)) ?_
  simp only[iD,dD,aS,bH,List.nil_append,List.cons_append,u8];repeat' (first|rfl|refine uz ?_ ?_|fail)
  all_goals first|(refine Ri ?_;omega)|(refine Rg ?_ ?_<;>omega)|(refine Rh ?_ ?_<;>omega))
theorem fb5 (o nm u:Nat) (hu:u<100000):iB Tryz.prog 409 nm [(o,⟨0,z24,false,some pQ⟩)] [.rs o 0 1 5 1, .v (.i .u64 (u:Int))] (.tup []) [(o,some (qe 5 u))]:=by
 have h1:u%4294967296=u:=by omega
 refine iB.w mixed Tryz.call409 Tryz.func409 rfl (je.1 _ _ _ (by cbv)) (je.2 _ _ (by cbv)) (obs:=[⟨0,z24,false,some pQ⟩]) (args:=[.rs 0 0 1 5 1, .v (.i .u64 (u:Int))]) (fs:=[some (some (qe 5 u))]) (j:=none) (nw:=none) (v:= .tup []) (ns:=[o]) (obsA:=[⟨0,z24,false,some pQ⟩]) rfl ?_ (by simp) (by simp) rfl (by simp[aQ,au.aF,AV.aF,AV.aF.renL,cq,z24]) (by simp[aQ,AV.aF,AV.aF.renL,cq]) (by simp[AV.aF,AV.aF.renL]) (by simp[eK,outs,au.aF,AV.aF,AV.aF.renL,ax,gb,qe,iD])
 simp only[go_sem,seval,pY];repeat' first|simp only[go_sem,seval,true_or,or_true,false_or,or_false,ae,ga,dS,fL,fh,fj,dT,nu,oe,fB,fQ,cJ,aB,AV.aF,AV.aF.renL,ax,RR,w8,i2,i1,i48,h1,q2,q3,Eg,uI,O7,O8]|(refine ah ?_)|refine sB ?_|apply xX<;>intro hc|refine⟨oD,?_⟩|exact oD|fail
 all_goals first|decide|omega|skip
 all_goals (
  refine congrArg (fun l=>au.mk 0 l false (some pQ)) ?_
  simp only[iD,dD,aS,bH,List.nil_append,List.cons_append,u8];repeat' (first|rfl|refine uz ?_ ?_|fail)
  all_goals first|(refine Ri ?_;omega)|(refine Rg ?_ ?_<;>omega)|(refine Rh ?_ ?_<;>omega))
theorem fb6 (o nm u:Nat) (hu:u<1000000):iB Tryz.prog 409 nm [(o,⟨0,z24,false,some pQ⟩)] [.rs o 0 1 6 1, .v (.i .u64 (u:Int))] (.tup []) [(o,some (qe 6 u))]:=by
 have h1:u%4294967296=u:=by omega
 refine iB.w mixed Tryz.call409 Tryz.func409 rfl (je.1 _ _ _ (by cbv)) (je.2 _ _ (by cbv)) (obs:=[⟨0,z24,false,some pQ⟩]) (args:=[.rs 0 0 1 6 1, .v (.i .u64 (u:Int))]) (fs:=[some (some (qe 6 u))]) (j:=none) (nw:=none) (v:= .tup []) (ns:=[o]) (obsA:=[⟨0,z24,false,some pQ⟩]) rfl ?_ (by simp) (by simp) rfl (by simp[aQ,au.aF,AV.aF,AV.aF.renL,cq,z24]) (by simp[aQ,AV.aF,AV.aF.renL,cq]) (by simp[AV.aF,AV.aF.renL]) (by simp[eK,outs,au.aF,AV.aF,AV.aF.renL,ax,gb,qe,iD])
 simp only[go_sem,seval,pY];repeat' first|simp only[go_sem,seval,true_or,or_true,false_or,or_false,ae,ga,dS,fL,fh,fj,dT,nu,oe,fB,fQ,cJ,aB,AV.aF,AV.aF.renL,ax,RR,w8,i2,i1,i48,h1,q2,q3,Eg,uI,O7,O8]|(refine ah ?_)|refine sB ?_|apply xX<;>intro hc|refine⟨oD,?_⟩|exact oD|fail
 all_goals first|decide|omega|skip
 all_goals (
  refine congrArg (fun l=>au.mk 0 l false (some pQ)) ?_
  simp only[iD,dD,aS,bH,List.nil_append,List.cons_append,u8];repeat' (first|rfl|refine uz ?_ ?_|fail)
  all_goals first|(refine Ri ?_;omega)|(refine Rg ?_ ?_<;>omega)|(refine Rh ?_ ?_<;>omega))
theorem fb7 (o nm u:Nat) (hu:u<10000000):iB Tryz.prog 409 nm [(o,⟨0,z24,false,some pQ⟩)] [.rs o 0 1 7 1, .v (.i .u64 (u:Int))] (.tup []) [(o,some (qe 7 u))]:=by
 have h1:u%4294967296=u:=by omega
 refine iB.w mixed Tryz.call409 Tryz.func409 rfl (je.1 _ _ _ (by cbv)) (je.2 _ _ (by cbv)) (obs:=[⟨0,z24,false,some pQ⟩]) (args:=[.rs 0 0 1 7 1, .v (.i .u64 (u:Int))]) (fs:=[some (some (qe 7 u))]) (j:=none) (nw:=none) (v:= .tup []) (ns:=[o]) (obsA:=[⟨0,z24,false,some pQ⟩]) rfl ?_ (by simp) (by simp) rfl (by simp[aQ,au.aF,AV.aF,AV.aF.renL,cq,z24]) (by simp[aQ,AV.aF,AV.aF.renL,cq]) (by simp[AV.aF,AV.aF.renL]) (by simp[eK,outs,au.aF,AV.aF,AV.aF.renL,ax,gb,qe,iD])
 simp only[go_sem,seval,pY];repeat' first|simp only[go_sem,seval,true_or,or_true,false_or,or_false,ae,ga,dS,fL,fh,fj,dT,nu,oe,fB,fQ,cJ,aB,AV.aF,AV.aF.renL,ax,RR,w8,i2,i1,i48,h1,q2,q3,Eg,uI,O7,O8]|(refine ah ?_)|refine sB ?_|apply xX<;>intro hc|refine⟨oD,?_⟩|exact oD|fail
 all_goals first|decide|omega|skip
 all_goals (
  refine congrArg (fun l=>au.mk 0 l false (some pQ)) ?_
  simp only[iD,dD,aS,bH,List.nil_append,List.cons_append,u8];repeat' (first|rfl|refine uz ?_ ?_|fail)
  all_goals first|(refine Ri ?_;omega)|(refine Rg ?_ ?_<;>omega)|(refine Rh ?_ ?_<;>omega))
theorem fb8 (o nm u:Nat) (hu:u<100000000):iB Tryz.prog 409 nm [(o,⟨0,z24,false,some pQ⟩)] [.rs o 0 1 8 1, .v (.i .u64 (u:Int))] (.tup []) [(o,some (qe 8 u))]:=by
 have h1:u%4294967296=u:=by omega
 refine iB.w mixed Tryz.call409 Tryz.func409 rfl (je.1 _ _ _ (by cbv)) (je.2 _ _ (by cbv)) (obs:=[⟨0,z24,false,some pQ⟩]) (args:=[.rs 0 0 1 8 1, .v (.i .u64 (u:Int))]) (fs:=[some (some (qe 8 u))]) (j:=none) (nw:=none) (v:= .tup []) (ns:=[o]) (obsA:=[⟨0,z24,false,some pQ⟩]) rfl ?_ (by simp) (by simp) rfl (by simp[aQ,au.aF,AV.aF,AV.aF.renL,cq,z24]) (by simp[aQ,AV.aF,AV.aF.renL,cq]) (by simp[AV.aF,AV.aF.renL]) (by simp[eK,outs,au.aF,AV.aF,AV.aF.renL,ax,gb,qe,iD])
 simp only[go_sem,seval,pY];repeat' first|simp only[go_sem,seval,true_or,or_true,false_or,or_false,ae,ga,dS,fL,fh,fj,dT,nu,oe,fB,fQ,cJ,aB,AV.aF,AV.aF.renL,ax,RR,w8,i2,i1,i48,h1,q2,q3,Eg,uI,O7,O8]|(refine ah ?_)|refine sB ?_|apply xX<;>intro hc|refine⟨oD,?_⟩|exact oD|fail
 all_goals first|decide|omega|skip
 all_goals (
  refine congrArg (fun l=>au.mk 0 l false (some pQ)) ?_
  simp only[iD,dD,aS,bH,List.nil_append,List.cons_append,u8];repeat' (first|rfl|refine uz ?_ ?_|fail)
  all_goals first|(refine Ri ?_;omega)|(refine Rg ?_ ?_<;>omega)|(refine Rh ?_ ?_<;>omega))
theorem fb9 (o nm u:Nat) (hu:u<1000000000):iB Tryz.prog 409 nm [(o,⟨0,z24,false,some pQ⟩)] [.rs o 0 1 9 1, .v (.i .u64 (u:Int))] (.tup []) [(o,some (qe 9 u))]:=by
 have h1:u%4294967296=u:=by omega
 refine iB.w mixed Tryz.call409 Tryz.func409 rfl (je.1 _ _ _ (by cbv)) (je.2 _ _ (by cbv)) (obs:=[⟨0,z24,false,some pQ⟩]) (args:=[.rs 0 0 1 9 1, .v (.i .u64 (u:Int))]) (fs:=[some (some (qe 9 u))]) (j:=none) (nw:=none) (v:= .tup []) (ns:=[o]) (obsA:=[⟨0,z24,false,some pQ⟩]) rfl ?_ (by simp) (by simp) rfl (by simp[aQ,au.aF,AV.aF,AV.aF.renL,cq,z24]) (by simp[aQ,AV.aF,AV.aF.renL,cq]) (by simp[AV.aF,AV.aF.renL]) (by simp[eK,outs,au.aF,AV.aF,AV.aF.renL,ax,gb,qe,iD])
 simp only[go_sem,seval,pY];repeat' first|simp only[go_sem,seval,true_or,or_true,false_or,or_false,ae,ga,dS,fL,fh,fj,dT,nu,oe,fB,fQ,cJ,aB,AV.aF,AV.aF.renL,ax,RR,w8,i2,i1,i48,h1,q2,q3,Eg,uI,O7,O8]|(refine ah ?_)|refine sB ?_|apply xX<;>intro hc|refine⟨oD,?_⟩|exact oD|fail
 all_goals first|decide|omega|skip
 all_goals (
  refine congrArg (fun l=>au.mk 0 l false (some pQ)) ?_
  simp only[iD,dD,aS,bH,List.nil_append,List.cons_append,u8];repeat' (first|rfl|refine uz ?_ ?_|fail)
  all_goals first|(refine Ri ?_;omega)|(refine Rg ?_ ?_<;>omega)|(refine Rh ?_ ?_<;>omega))
theorem Yj (o nm u:Nat) (hu:u<4294967296):iB Tryz.prog 409 nm [(o,⟨0,z24,false,some pQ⟩)] [.rs o 0 1 10 1, .v (.i .u64 (u:Int))] (.tup []) [(o,some (qe 10 u))]:=by
 have h1:u%4294967296=u:=by omega
 refine iB.w mixed Tryz.call409 Tryz.func409 rfl (je.1 _ _ _ (by cbv)) (je.2 _ _ (by cbv)) (obs:=[⟨0,z24,false,some pQ⟩]) (args:=[.rs 0 0 1 10 1, .v (.i .u64 (u:Int))]) (fs:=[some (some (qe 10 u))]) (j:=none) (nw:=none) (v:= .tup []) (ns:=[o]) (obsA:=[⟨0,z24,false,some pQ⟩]) rfl ?_ (by simp) (by simp) rfl (by simp[aQ,au.aF,AV.aF,AV.aF.renL,cq,z24]) (by simp[aQ,AV.aF,AV.aF.renL,cq]) (by simp[AV.aF,AV.aF.renL]) (by simp[eK,outs,au.aF,AV.aF,AV.aF.renL,ax,gb,qe,iD])
 simp only[go_sem,seval,pY];repeat' first|simp only[go_sem,seval,true_or,or_true,false_or,or_false,ae,ga,dS,fL,fh,fj,dT,nu,oe,fB,fQ,cJ,aB,AV.aF,AV.aF.renL,ax,RR,w8,i2,i1,i48,h1,q2,q3,Eg,uI,O7,O8]|(refine ah ?_)|refine sB ?_|apply xX<;>intro hc|refine⟨oD,?_⟩|exact oD|fail
 all_goals first|decide|omega|skip
 all_goals (
  refine congrArg (fun l=>au.mk 0 l false (some pQ)) ?_
  simp only[iD,dD,aS,bH,List.nil_append,List.cons_append,u8];repeat' (first|rfl|refine uz ?_ ?_|fail)
  all_goals first|(refine Ri ?_;omega)|(refine Rg ?_ ?_<;>omega)|(refine Rh ?_ ?_<;>omega))
theorem ik (x n:Nat) (h0:0<n) (h:n<32):aA Tryz.prog 485 [.i .u32 x,E n] (.i .u32 (rr x n)):=by
 have e2: ∀ _:True,(if 32-n<=32 then 32-n else 32)=32-n:=fun _=>if_pos oO
 have e3: ∀ _:True,(32:Int)-(n:Int)=((32-n:Nat):Int):=fun _=>by omega
 have e4: ∀ _:True,(if n<=32 then n else 32)=n:=fun _=>if_pos oO
 refine eW Tryz.call485 Tryz.func485 ?_;repeat' first|simp only[go_sem,seval,e2 trivial,e3 trivial,e4 trivial,V5,YW]|refine sB ?_|apply xX<;>intro hc|refine⟨oD,?_⟩|exact oD|fail
 all_goals rfl
theorem zc:aA Tryz.prog 484 [] (.sl (wl om)):=by
 refine eW Tryz.call484 Tryz.func484 ?_;exact z0
def rV (l:List Nat) (x:Nat):List AV:=aq .u32 (l++x::List.replicate (63-l.length) 0)
theorem MT (l:List Nat) (x:Nat) (h:l.length<64):(rV l x).length=64:=by
 rw[rV,aP];simp;omega
theorem MS (l:List Nat) (x:Nat):(rV l x).getD l.length .u= .v (.i .u32 (x:Int)):=by
 rw[rV,cH (by simp)];simp
theorem MU (l:List Nat) (x y:Nat):List.take l.length (rV l x)++[AV.v (.i .u32 (y:Int))]++List.drop (l.length+1) (rV l x)=rV l y:=by
 rw[rV,dx (x:=y) (by simp) rfl,rV];simp
theorem UI (l:List Nat) (h:l.length<64):aq .u32 (l++List.replicate (64-l.length) 0)=rV l 0:=by
 obtain⟨k,hk⟩: ∃k,64-l.length=k+1:=⟨63-l.length,by omega⟩
 rw[rV,hk,List.replicate_succ,show 63-l.length=k by omega]
theorem UJ (l:List Nat) (x:Nat) (h:l.length<64):rV l x=aq .u32 ((l++[x])++List.replicate (64-(l++[x]).length) 0):=by
 rw[rV,eU,bm,List.length_singleton,show 64-(l.length+1)=63-l.length by omega];rfl
theorem w0:IntKind.u32.wrap 0=0:=rfl
def m8 (x c:Nat):Nat:=(x*256+c)%4294967296
theorem YR (x c:Nat):IntKind.u32.wrap (IntKind.u32.wrap ((x:Int)*256)+(c:Int))=((m8 x c:Nat):Int):=by
 rw[JF,JF,m8];omega
theorem YQ (a b c d:UInt8):m8 (m8 (m8 a.toNat b.toNat) c.toNat) d.toNat=num [a,b,c,d]:=by
 have ha:=a.toNat_lt;have hb:=b.toNat_lt;have hc:=c.toNat_lt;have hd:=d.toNat_lt;simp only[m8,num,List.length_cons,List.length_nil];omega
theorem VW {l:Bytes} {i:Nat} {a b c d:UInt8} (h:(l.drop (4*i)).take 4=[a,b,c,d]):l.getD (4*i) 0=a/\l.getD (4*i+1) 0=b/\l.getD (4*i+2) 0=c/\l.getD (4*i+3) 0=d:=by
 have hg: ∀k,k<4->l.getD (4*i+k) 0=[a,b,c,d].getD k 0:=fun k hk=>by
  rw[<-h];simp[aR,eA,hk]
 exact⟨hg 0 oC,hg 1 oC,hg 2 oC,hg 3 oC⟩
theorem KF (l:List Nat) {n:Nat} (h:l.length=n):chunk 1 n (wl l)=wl l:=by
 subst h;have:=qo (wl l)
 rwa[o5]at this
theorem E4 (l:List Nat):(aq .u32 l).all AV.one=true:=by
 unfold aq
 induction l with
 |nil=>rfl
 |cons c l ih=>rw[aS,List.all_cons,ih];rfl
theorem Fa (hf:Nat->Option au) (l:List Nat):aQ (view hf 8) (aq .u32 l)=some (wl l):=iX (fun _=>rfl) l
theorem Bz {blk:Bytes} (hb:blk.length=64):aA Tryz.prog 483 [.s blk] (.sl (wl (sched blk))):=by
 refine eW Tryz.call483 Tryz.func483 ?_;refine uZ ?_;refine af (α:=List Nat) (fun l=>16-l.length) (fun l=>⟨[(0, .v (.s blk)),(3, .rs 1001 0 0 64 1),(4,E' l.length)],[(1001,⟨0,aq .u32 (l++List.replicate (64-l.length) 0),false,none⟩)],_⟩) (fun l=>l.length<=16/\l=(List.range l.length).map (uV blk)) [] (fun _=>an _) ⟨by decide,rfl⟩ ?_ ?_
 ·(refine AS.Le.of (by first|decide|omega) ?_ ?_<;>simp[dM,dL,aK,aj,AV.bd,AV.bd.bdL,u8,ai,ak,ar])
  all_goals rfl
 ·rintro l ⟨hl,he⟩ R hR;have hL:(aq .u32 (l++List.replicate (64-l.length) 0)).length=64:=by rw[aP];simp;omega
  by_cases hlt:l.length<16
  ·obtain⟨i,hi⟩: ∃i,i=l.length:=⟨_,rfl⟩;obtain⟨a,b,c,d,h4,-⟩:=four blk (i:=i) oO;obtain⟨q0,q1,q2,q3⟩:=VW h4;have hV:uV blk i=m8 (m8 (m8 a.toNat b.toNat) c.toNat) d.toNat:=by rw[YQ,uV,h4]
   have hgo:=hR (l++[uV blk i]) ⟨by simp;omega,by
    rw[bm,List.length_singleton,nR,dD,<-he,<-hi];rfl⟩ (by simp;omega)
   rw[<-UJ l _ oO,bm,List.length_singleton]at hgo;rw[UI l oO];have hg:=MS l;have hp:=MU l;have hn:=fun x=>MT l x oO
   rw[hV]at hgo;rw[<-hi]at hg hp hgo⊢;have t0: ∀ _:True,((4:Int)*(i:Int)).toNat=4*i:=fun _=>by omega
   have t1: ∀ _:True,((4:Int)*(i:Int)+1).toNat=4*i+1:=fun _=>by omega
   have t2: ∀ _:True,((4:Int)*(i:Int)+2).toNat=4*i+2:=fun _=>by omega
   have t3: ∀ _:True,((4:Int)*(i:Int)+3).toNat=4*i+3:=fun _=>by omega
   clear hR he h4 hV hL;repeat' first|simp only[go_sem,seval,hb,hg,hp,hn,t0 trivial,t1 trivial,t2 trivial,t3 trivial,q0,q1,q2,q3,Xd,YR,w0,Int.add_zero,wc]|(refine ah ?_)|refine sB ?_|apply xX<;>intro hc|refine⟨oD,?_⟩|exact oD|fail
   refine hgo _ ?_
   (refine AS.Le.of (by first|decide|omega) ?_ ?_<;>simp[dM,dL,aK,aj,AV.bd,AV.bd.bdL,u8,ai,ak,ar])
   all_goals first|omega|(unfold rV;simp[ar])
  ·have hl16:l.length=16:=by omega
   have hs0:l=(List.range 16).map (uV blk):=by rw[<-hl16];exact he
   rw[hl16];rw[hl16]at hL;clear hR he hlt hl;refine uZ ?_;refine af (α:=List Nat) (fun l=>64-l.length) (fun l=>⟨[(3, .rs 1001 0 0 64 1),(6,E' l.length)],[(1001,⟨0,aq .u32 (l++List.replicate (64-l.length) 0),false,none⟩)],_⟩) (fun l=>16<=l.length/\l.length<=64/\Jq (64-l.length) l=sched blk) l (fun _=>an _) ⟨by omega,by omega,by rw[hl16,hs0];rfl⟩ ?_ ?_
   ·rw[hl16];exact lE
   ·clear hs0 hL hl16 l;rintro l ⟨hl1,hl2,he⟩ R hR;have hL:(aq .u32 (l++List.replicate (64-l.length) 0)).length=64:=by rw[aP];simp;omega
    obtain⟨i,hi⟩: ∃i,i=l.length:=⟨_,rfl⟩
    by_cases hlt:l.length<64
    ·have hgo:=hR (l++[BI l]) ⟨by simp;omega,by simp;omega,by
      have:64-l.length=(64-(l++[BI l]).length)+1:=by simp;omega
      rw[this]at he;exact he⟩ (by simp;omega)
     have hse:=BG l 64 (BI l) hlt;have hg: ∀k:Nat,0<k->k<=16->(aq .u32 (l++List.replicate (64-l.length) 0)).getD ((i:Int)-(k:Int)).toNat .u= .v (.i .u32 (l.getD (i-k) 0:Nat)):=fun k h0 h1=>by
      rw[show((i:Int)-(k:Int)).toNat=i-k by omega,cH (by simp;omega),Dh l _ _ oO]
     have g15:(aq .u32 (l++List.replicate (64-l.length) 0)).getD ((i:Int)-15).toNat .u= _:=hg 15 oC oC;have g2:(aq .u32 (l++List.replicate (64-l.length) 0)).getD ((i:Int)-2).toNat .u= _:=hg 2 oC oC;have g16:(aq .u32 (l++List.replicate (64-l.length) 0)).getD ((i:Int)-16).toNat .u= _:=hg 16 oC oC;have g7:(aq .u32 (l++List.replicate (64-l.length) 0)).getD ((i:Int)-7).toNat .u= _:=hg 7 oC oC;have hN:BI l=ad (ad (ad (l.getD (i-16) 0) (ot (ot (rr (l.getD (i-15) 0) 7) (rr (l.getD (i-15) 0) 18)) (l.getD (i-15) 0/8))) (l.getD (i-7) 0)) (ot (ot (rr (l.getD (i-2) 0) 17) (rr (l.getD (i-2) 0) 19)) (l.getD (i-2) 0/1024)):=by rw[hi];rfl
     rw[hN]at hgo hse;rw[<-hi]at hL hse g15 g2 g16 g7⊢;clear hR he hN hg;generalize l.getD (i-16) 0=w16 at*;generalize l.getD (i-15) 0=w15 at*;generalize l.getD (i-7) 0=w7 at*;generalize l.getD (i-2) 0=w2 at*;have r7:=ik w15 7 oC oC;have r18:=ik w15 18 oC oC;have r17:=ik w2 17 oC oC;have r19:=ik w2 19 oC oC;repeat' first|simp only[go_sem,seval,hL,g15,g2,g16,g7,ow,Ve]|refine cP r7 ?_|refine cP r18 ?_|refine cP r17 ?_|refine cP r19 ?_|refine sB ?_|apply xX<;>intro hc|refine⟨oD,?_⟩|exact oD|fail
     refine hgo _ ?_;rw[dx (x:=ad (ad (ad w16 (ot (ot (rr w15 7) (rr w15 18)) (w15/8))) w7) (ot (ot (rr w2 17) (rr w2 19)) (w2/1024))) (by rw[aP]at hL;omega) rfl,hse]
     (refine AS.Le.of (by first|decide|omega) ?_ ?_<;>simp[dM,dL,aK,aj,AV.bd,AV.bd.bdL,u8,ai,ak,ar])
     all_goals first|omega|skip
    ·have hl64:l.length=64:=by omega
     rw[hl64]at he hi hL⊢;have he:l=sched blk:=he;rw[eE,List.replicate_zero,jQ]at hL⊢;rw[<-he];have k1:List.take 64 (aq .u32 l)=aq .u32 l:=cd (by rw[aP];omega)
     have k3:(wl l).length=64:=by rw[o5,hl64]
     have k4:=KF l hl64;have k5:=E4 l;repeat' first|simp only[go_sem,seval,hL,k1,k3,k4,k5,iX,Fa,NG]|refine sB ?_|apply xX<;>intro hc|refine⟨oD,?_⟩|exact oD|fail
     all_goals skip
theorem Ky (n:Nat):UInt8.ofNat (IntKind.u8.wrap (n:Int)).toNat=UInt8.ofNat n:=by
 rw[su];apply B3;simp;omega
theorem Q8 (n:Nat):UInt8.ofNat (n%256)=UInt8.ofNat n:=by
 apply B3;simp
theorem FA {s:Bytes} (hs:s.length<1000000000):aA Tryz.prog 466 [.s s] (.s (pad s)):=by
 refine eW Tryz.call466 Tryz.func466 ?_;refine uZ ?_;refine af (α:=Nat) (fun c=>64-c) (fun c=>⟨[(0, .v (.s (s++128::zy c))),(3,E' s.length)],[],_⟩) (fun c=>c<=(119-s.length%64)%64) 0 (fun _=>an _) (aH _) ?_ ?_
 ·(refine AS.Le.of (by first|decide|omega) ?_ ?_<;>simp[dM,dL,aK,aj,AV.bd,AV.bd.bdL,u8,ai,ak,ar])
  all_goals rfl
 ·intro c hc R hR;have hl:(s++128::zy c).length=s.length+1+c:=by simp[F8];omega
  have hz:s++128::zy c++[0]=s++128::zy (c+1):=by
   rw[eU];congr 1;unfold zy;rw[Cm];rfl
  obtain⟨L,hLL⟩: ∃L,L=s++128::zy c:=⟨_,rfl⟩;rw[<-hLL]at hl hz⊢
  by_cases hlt:c=(119-s.length%64)%64
  ·have h5: ∀ _:True,(((s.length+1+c)%64:Nat):Int)=56:=fun _=>by omega
   have w1: ∀ _:True,IntKind.u64.wrap (s.length:Int)=(s.length:Int):=fun _=>by rw[zp];omega
   have w2: ∀ _:True,IntKind.u64.wrap ((s.length:Int)*8)=((s.length*8:Nat):Int):=fun _=>by rw[zp];omega
   clear hR;refine fx (aN @hl (aN (h5 trivial) (aN (w1 trivial) (w2 trivial)))) ?_;obtain⟨N,hN⟩: ∃N,N=s.length*8:=⟨_,rfl⟩;rw[<-hN];clear h5 w1 w2 hz;repeat' first|simp only[go_sem,seval,xD,oE,Ky,Q8,eg,Nat.reduceMul]|(refine ah ?_)|refine sB ?_|apply xX<;>intro hc|refine⟨oD,?_⟩|exact oD|fail
   rw[hLL,hlt,hN,pad];simp only[be,zy,eU,List.cons_append,List.nil_append,Nat.reducePow,Nat.pow_zero,iS]
  ·have h5: ∀ _:True,¬(((s.length+1+c)%64:Nat):Int)=56:=fun _=>by omega
   have hgo:=hR (c+1) oO oO;rw[<-hz]at hgo;clear hR hz;refine fx (aN @hl (h5 trivial)) ?_;refine hgo _ ?_
   (refine AS.Le.of (by first|decide|omega) ?_ ?_<;>simp[dM,dL,aK,aj,AV.bd,AV.bd.bdL,u8,ai,ak,ar])
   all_goals first|omega|skip
end Go.Proofs.YtfdjchnefpefbaaGreatDoor
