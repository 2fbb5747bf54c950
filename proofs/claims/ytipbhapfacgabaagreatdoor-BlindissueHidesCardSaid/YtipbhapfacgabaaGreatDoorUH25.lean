/- Part of the proof. -/
import Derived.Test.YtipbhapfacgabaaGreatDoorUH20
set_option linter.all false
set_option maxHeartbeats 16000000
set_option maxRecDepth 100000
namespace Go.Proofs.Tryz
open Go Go.Dom
variable {b k x:Nat} {el:Option TypeId}
def zy (n:Nat):Bytes:=List.replicate n 0
theorem O6 (n:Nat):(zy n).length=n:=DC
theorem mk0 (n:Nat):(List.replicate n [AV.v (.i .u8 0)]).flatten=aH (zy n):=by
 unfold zy
 induction n with
 |zero=>rfl
 |succ n ih=>rw[List.replicate_succ,List.flatten_cons,ih,List.replicate_succ];rfl
theorem Gb (l:Bytes):(aH l).all AV.one=true:=by
 unfold aH
 induction l with
 |nil=>rfl
 |cons c l ih=>rw[br,List.all_cons,ih];rfl
theorem nN (l:Bytes) (n:Nat):List.drop n (aH l)=aH (l.drop n):=by unfold aH;exact(tW ..).symm
theorem mM (l:Bytes) (n:Nat):List.take n (aH l)=aH (l.take n):=by unfold aH;exact(xu ..).symm
theorem sr (l:Bytes) (n:Nat):aH l++[AV.v (.i .u8 (IntKind.u8.wrap (n:Int)))]=aH (l++[UInt8.ofNat n]):=by
 rw[<-j6];congr 1
theorem Mm (l:Bytes):aH l++[AV.v (.i .u8 0)]=aH (l++[0]):=by rw[<-j6];rfl
theorem Mn (l:Bytes):aH l++[AV.v (.i .u8 128)]=aH (l++[128]):=by rw[<-j6];rfl
theorem Lm {hf:Nat->Option aC} {f n ver o m:Nat} {l:Bytes} {gr:Bool} (hm:o+m<=l.length) (h:hf n=some ⟨ver,aH l,gr,el⟩):
  view hf (f+2) (.rs n ver o m 1)=some (.sl (((l.drop o).take m).map u8)):=by
 have h1:aU (view hf (f+1)) (aH ((l.drop o).take m))=some (((l.drop o).take m).map u8):=by
  have:=iI hf f (((l.drop o).take m).map u8);rw[kP]at this;exact this
 have h2:(aH ((l.drop o).take m)).all AV.one=true:=Gb _;have h3:chunk 1 m (((l.drop o).take m).map u8)=((l.drop o).take m).map u8:=by
  have:=Gi (((l.drop o).take m).map u8)
  rwa[aR,da,lJ,pk oO]at this
 simp only[view,h,nN,mM,l9,eH,h1,h2,h3,hm,Option.map_some];simp
theorem Hr {hf:Nat->Option aC} {f n ver o m:Nat} {l:Bytes} {gr:Bool} (h:hf n=some ⟨ver,aH l,gr,el⟩):
  aX hf (f+2) (.rs n ver o m 1)=[n]:=by
 have h1: ∀l:Bytes,(aH l).flatMap (aX hf (f+1))=[]:=fun l=>by
  unfold aH
  induction l with
  |nil=>rfl
  |cons x r ih=>simp_all[aX]
 simp only[aX,h,nN,mM,h1]
theorem su (n:Nat):AV.byte (.v (.i .u8 (IntKind.u8.wrap (n:Int))))=UInt8.ofNat n:=by
 simp[AV.byte,PV.byte,xw];apply UInt8.toNat.inj;simp;omega
theorem Cl (n:Nat):AV.isByte (.v (.i .u8 (IntKind.u8.wrap (n:Int))))=True:=by
 simp[AV.isByte,PV.isByte,xw]
theorem QB (l:List Nat):(PV.agg (wl l)).flat=true:=by
 unfold wl
 induction l with
 |nil=>rfl
 |cons x l ih=>simp_all[PV.flat,PV.flat.flatL]
theorem Ti {P:Program} [ct P] {Q:AX->AS->Prop} {nx:Nat} {bf:Option (List Nat)} {nn:Nat} {d:Option Nat} {ops:List jV} {s:AS} {tr:List (Nat×List Nat×List Nat)} {K:List Fr} {nm:Nat} {f:FuncId} {n ver o m:Nat} {l:Bytes} {gr:Bool} {x r:PV}
  (he:qO P f [x, .sl (((l.drop o).take m).map u8)] r) (hr:r.flat=true) (hg:hget s.h n=some ⟨ver,aH l,gr,el⟩) (hm:o+m<=l.length) (hK:RW P Q nx bf nn ops (k+1) (s.s9 d (.v r) []) (zV bf k [n] [] tr) K):
  CR P Q nx bf nn nm (.v (.fn (.func f))) [.v x, .rs n ver o m 1] d ops k s tr K:=by
 refine gp he ?_ hr ?_
 ·simp[aU,Lm hm hg];rfl
 ·have:[AV.v x,AV.rs n ver o m 1].flatMap (aX (hget s.h) 9)=[n]:=by simp[Hr hg];rfl
  rw[this];exact hK
theorem q9 {s:Bytes} (hs:s.length<1000000000):aF 338 [.s s] (.s (nG s)):=by
 have hf:=MN;have t1: ∀ _:True,((s.length:Int)+72)=((s.length+72:Nat):Int):=fun _=>oO
 have e1:List.drop s.length (zy (s.length+72))=zy 72:=by
  unfold zy;rw[List.drop_replicate,Nat.add_sub_cancel_left]
 have e2:List.take s.length (s++zy 72)=s:=List.take_left' rfl;have e3:s.length<=(s++zy 72).length:=by simp
 have k1:(wl sX).length=8:=rfl;have k2:(aE .u32 sX).length=8:=rfl;have k3:List.take 8 (aE .u32 sX)=aE .u32 sX:=dc (by rw[bE];decide)
 have k4:List.drop 8 (aE .u32 sX)=[]:=jM (by rw[bE];decide)
 refine eW call338 func338 ?_;refine fq (aN (t1 oT) (aN @mk0 (aN @nN (aN @mM (aN @Sy (aN @j6 (aN @Mn (aN @O6 (aN @e1 @e2))))))))) ?_;refine aq (α:=Nat) (fun c=>64-c) (fun c=>⟨[(0, .v (.s s)),(3, .rs 1006 (1+c) 0 (s.length+1+c) 1)],[(1006,⟨1+c,aH (s++128::zy c),true,none⟩)],1015⟩) (fun c=>c<=(119-s.length%64)%64) 0 (fun _=>aB _) (aT _) ?_ ?_
 ·(refine AS.Le.of (by first|decide|omega) ?_ ?_<;>simp[dG,dF,aO,hget,AV.bd,AV.bd.bdL,u8,ar,au,az])
  all_goals rfl
 ·intro c hc R hR;have hl:(s++128::zy c).length=s.length+1+c:=by simp[O6];omega
  have hT:List.take (s.length+1+c) (s++128::zy c)=s++128::zy c:=by rw[<-hl];exact cq
  have hz:s++128::zy c++[0]=s++128::zy (c+1):=by
   rw[gZ];congr 1;unfold zy;rw[List.replicate_succ'];rfl
  by_cases hlt:c=(119-s.length%64)%64
  ·have h5: ∀ _:True,(((s.length+1+c)%64:Nat):Int)=56:=fun _=>oO
   have w1: ∀ _:True,IntKind.u64.wrap (s.length:Int)=(s.length:Int):=fun _=>by rw[FO];omega
   have w2: ∀ _:True,IntKind.u64.wrap ((s.length:Int)*8)=((s.length*8:Nat):Int):=fun _=>by rw[FO];omega
   clear hR;refine eJ (aN @hl (aN @hT (aN @Mm (aN @nN (aN @mM (aN (h5 oT) (aN (w1 oT) (w2 oT)))))))) ?_;obtain⟨N,hN⟩: ∃N,N=s.length*8:=⟨_,rfl⟩;obtain⟨M0,hM0⟩: ∃M,M=s++128::zy c:=⟨_,rfl⟩;rw[<-hN,<-hM0];obtain⟨m0,hm0⟩: ∃m,m=s.length+1+c:=⟨_,rfl⟩;rw[<-hm0];have hL0:M0.length=m0:=by rw[hM0,hm0,hl]
   have hT0:List.take m0 M0=M0:=by rw[hm0,hM0,hT]
   obtain⟨v0,hv0⟩: ∃v,v=1+c:=⟨_,rfl⟩;rw[<-hv0];have hb1:m0<2000000000:=oO;clear hl hT hc h5 w1 w2;refine aj ?_;repeat' first|simp only[go_sem,seval,hL0,hT0,sr,nN,mM]|refine oE ?_|apply xX<;>intro hc
   all_goals try refine⟨oO,?_⟩
   obtain⟨M1,hM1⟩: ∃x,x=M0++[UInt8.ofNat (N/72057594037927936)]:=⟨_,rfl⟩;obtain⟨m1,hm1⟩: ∃x,x=m0+1:=⟨_,rfl⟩;obtain⟨v1,hv1⟩: ∃x,x=v0+1:=⟨_,rfl⟩;rw[<-hM1,<-hm1,<-hv1];have hL1:M1.length=m1:=by rw[hM1,hm1,bU,hL0];rfl
   have hT1:List.take m1 M1=M1:=by rw[<-hL1];exact cq
   refine aj ?_;repeat' first|simp only[go_sem,seval,hL1,hT1,sr,nN,mM]|refine oE ?_|apply xX<;>intro hc
   all_goals try refine⟨oO,?_⟩
   obtain⟨M2,hM2⟩: ∃x,x=M1++[UInt8.ofNat (N/281474976710656)]:=⟨_,rfl⟩;obtain⟨m2,hm2⟩: ∃x,x=m1+1:=⟨_,rfl⟩;obtain⟨v2,hv2⟩: ∃x,x=v1+1:=⟨_,rfl⟩;rw[<-hM2,<-hm2,<-hv2];have hL2:M2.length=m2:=by rw[hM2,hm2,bU,hL1];rfl
   have hT2:List.take m2 M2=M2:=by rw[<-hL2];exact cq
   refine aj ?_;repeat' first|simp only[go_sem,seval,hL2,hT2,sr,nN,mM]|refine oE ?_|apply xX<;>intro hc
   all_goals try refine⟨oO,?_⟩
   obtain⟨M3,hM3⟩: ∃x,x=M2++[UInt8.ofNat (N/1099511627776)]:=⟨_,rfl⟩;obtain⟨m3,hm3⟩: ∃x,x=m2+1:=⟨_,rfl⟩;obtain⟨v3,hv3⟩: ∃x,x=v2+1:=⟨_,rfl⟩;rw[<-hM3,<-hm3,<-hv3];have hL3:M3.length=m3:=by rw[hM3,hm3,bU,hL2];rfl
   have hT3:List.take m3 M3=M3:=by rw[<-hL3];exact cq
   refine aj ?_;repeat' first|simp only[go_sem,seval,hL3,hT3,sr,nN,mM]|refine oE ?_|apply xX<;>intro hc
   all_goals try refine⟨oO,?_⟩
   obtain⟨M4,hM4⟩: ∃x,x=M3++[UInt8.ofNat (N/4294967296)]:=⟨_,rfl⟩;obtain⟨m4,hm4⟩: ∃x,x=m3+1:=⟨_,rfl⟩;obtain⟨v4,hv4⟩: ∃x,x=v3+1:=⟨_,rfl⟩;rw[<-hM4,<-hm4,<-hv4];have hL4:M4.length=m4:=by rw[hM4,hm4,bU,hL3];rfl
   have hT4:List.take m4 M4=M4:=by rw[<-hL4];exact cq
   refine aj ?_;repeat' first|simp only[go_sem,seval,hL4,hT4,sr,nN,mM]|refine oE ?_|apply xX<;>intro hc
   all_goals try refine⟨oO,?_⟩
   obtain⟨M5,hM5⟩: ∃x,x=M4++[UInt8.ofNat (N/16777216)]:=⟨_,rfl⟩;obtain⟨m5,hm5⟩: ∃x,x=m4+1:=⟨_,rfl⟩;obtain⟨v5,hv5⟩: ∃x,x=v4+1:=⟨_,rfl⟩;rw[<-hM5,<-hm5,<-hv5];have hL5:M5.length=m5:=by rw[hM5,hm5,bU,hL4];rfl
   have hT5:List.take m5 M5=M5:=by rw[<-hL5];exact cq
   refine aj ?_;repeat' first|simp only[go_sem,seval,hL5,hT5,sr,nN,mM]|refine oE ?_|apply xX<;>intro hc
   all_goals try refine⟨oO,?_⟩
   obtain⟨M6,hM6⟩: ∃x,x=M5++[UInt8.ofNat (N/65536)]:=⟨_,rfl⟩;obtain⟨m6,hm6⟩: ∃x,x=m5+1:=⟨_,rfl⟩;obtain⟨v6,hv6⟩: ∃x,x=v5+1:=⟨_,rfl⟩;rw[<-hM6,<-hm6,<-hv6];have hL6:M6.length=m6:=by rw[hM6,hm6,bU,hL5];rfl
   have hT6:List.take m6 M6=M6:=by rw[<-hL6];exact cq
   refine aj ?_;repeat' first|simp only[go_sem,seval,hL6,hT6,sr,nN,mM]|refine oE ?_|apply xX<;>intro hc
   all_goals try refine⟨oO,?_⟩
   obtain⟨M7,hM7⟩: ∃x,x=M6++[UInt8.ofNat (N/256)]:=⟨_,rfl⟩;obtain⟨m7,hm7⟩: ∃x,x=m6+1:=⟨_,rfl⟩;obtain⟨v7,hv7⟩: ∃x,x=v6+1:=⟨_,rfl⟩;rw[<-hM7,<-hm7,<-hv7];have hL7:M7.length=m7:=by rw[hM7,hm7,bU,hL6];rfl
   have hT7:List.take m7 M7=M7:=by rw[<-hL7];exact cq
   refine aj ?_;repeat' first|simp only[go_sem,seval,hL7,hT7,sr,nN,mM]|refine oE ?_|apply xX<;>intro hc
   all_goals try refine⟨oO,?_⟩
   obtain⟨M8,hM8⟩: ∃x,x=M7++[UInt8.ofNat (N/1)]:=⟨_,rfl⟩;obtain⟨m8,hm8⟩: ∃x,x=m7+1:=⟨_,rfl⟩;obtain⟨v8,hv8⟩: ∃x,x=v7+1:=⟨_,rfl⟩;rw[<-hM8,<-hm8,<-hv8];have hL8:M8.length=m8:=by rw[hM8,hm8,bU,hL7];rfl
   have hT8:List.take m8 M8=M8:=by rw[<-hL8];exact cq
   have hP:M8=pad s:=by
    rw[hM8,hM7,hM6,hM5,hM4,hM3,hM2,hM1,hM0,hlt,hN,pad];simp only[be,zy,gZ,List.cons_append,List.nil_append,Nat.reducePow,Nat.pow_zero,jO]
   clear hM8 hM7 hM6 hM5 hM4 hM3 hM2 hM1 hM0 hT0 hT1 hT2 hT3 hT4 hT5 hT6 hT7 hL0 hL1 hL2 hL3 hL4 hL5 hL6 hL7;subst hP;refine aj ?_;refine qN (aN @k1 (aN @k2 (aN @k3 (aN @k4 @Sj)))) @hf ?_;clear hT8;obtain⟨l,hl⟩: ∃l,l=pad s:=⟨_,rfl⟩;have hm6:l.length=l.length/64*64:=by rw[hl];exact VA s
   have hsum:nG s=(zF (l.length/64) l sX).flatMap XN:=by rw[hl];rfl
   rw[hsum];rw[<-hl]at hL8⊢;clear hsum hl hv1 hv2 hv3 hv4 hv5 hv6 hv7 hv8 hv0 hlt hN e1 e2 e3 t1;have hb8:m8<2000000008:=oO;have hm8:m8=m8/64*64:=oO;clear hb1 hm0 hm1 hm2 hm3 hm4 hm5 hm6 hm7;rw[hL8];refine aq (α:=Nat×Nat×List Nat) (fun p=>p.2.1) (fun p=>⟨[(3, .rs 1006 v8 p.1 p.2.1 1),(6, .p 1132 0 0)],[(1006,⟨v8,aH l,true,none⟩),(1132,⟨0,aE .u32 p.2.2,false,some 397⟩)],_⟩) (fun p=>p.1+p.2.1=m8/\p.2.1=p.2.1/64*64/\p.2.2.length=8/\zF (p.2.1/64) (l.drop p.1) p.2.2=zF (m8/64) l sX) (0,m8,sX) (fun _=>aB _) ⟨fG _,hm8,rfl,rfl⟩ ?_ ?_
   ·exact lE
   ·rintro⟨o,r,st⟩ ⟨ho,hr,hst,he⟩ R hR;have ho:o+r=m8:=ho;have hr:r=r/64*64:=hr;have hst:st.length=8:=hst;have he:zF (r/64) (l.drop o) st=zF (m8/64) l sX:=he;have q1:(aE .u32 st).length=8:=by rw[bE,hst]
    have q2:List.take 8 (aE .u32 st)=aE .u32 st:=dc oO;rcases kQ (r/64)with h0|h0
    ·have hr0:r=0:=oO;subst hr0;have he:st=zF (m8/64) l sX:=by rw[<-he];rfl
     rw[<-he];clear hR he h0 hr;obtain⟨a,b,c,d,e,f,g,i,rfl⟩:=Zx hst;have w8:wl [a,b,c,d,e,f,g,i]=[.i .u32 (a:Int), .i .u32 (b:Int), .i .u32 (c:Int), .i .u32 (d:Int), .i .u32 (e:Int), .i .u32 (f:Int), .i .u32 (g:Int), .i .u32 (i:Int)]:=rfl;refine eJ (aN @q1 (aN @q2 (aN @mX @k1))) ?_;rw[w8];refine aj ?_;refine fq (aN @Cl @su) ?_;refine aj ?_;refine fq (aN @Cl @su) ?_;refine aj ?_;refine fq (aN @Cl @su) ?_;refine aj ?_;refine fq (aN @Cl @su) ?_;refine aj ?_;refine fq (aN @Cl @su) ?_;refine aj ?_;refine fq (aN @Cl @su) ?_;refine aj ?_;refine fq (aN @Cl @su) ?_;refine aj ?_;refine fq (aN @Cl @su) ?_;refine aj ?_;exact oo (aN @Cl @su)
    ·obtain⟨r',rfl⟩: ∃r',r=r'+64:=⟨r-64,oO⟩;have f1:o+64+r'=m8:=oO;have f2:r'=r'/64*64:=oO;have hgo:=hR (o+64,r',CM st ((l.drop o).take 64)) ⟨f1,f2,sW _ hst,by
      rw[show(r'+64)/64=r'/64+1 by omega,zF,List.drop_drop]at he
      rw[gJ o 64];rw[gJ o 64]at he;exact he⟩ (by simp)
     have hblk:((l.drop o).take 64).length=64:=by rw[da,lJ];omega
     have ha:=LP hst hblk;have q3:(wl (CM st ((l.drop o).take 64))).length=8:=by rw[CZ,sW _ hst]
     have q4:List.drop 8 (aE .u32 st)=[]:=jM oO;have hfl:=QB (CM st ((l.drop o).take 64));clear hR he h0;repeat' first|simp only[go_sem,seval,q1,q2,q3,q4,mX,Sj]|(refine Ti (gr:=true) (el:=none) (ver:=v8) (l:=l) ha hfl (by simp[hget]) oO ?_)|refine oE ?_|apply xX<;>intro hc
     refine⟨by rw[bE];exact sW _ hst,rfl,oO,hgo _ ?_⟩
     (refine AS.Le.of (by first|decide|omega) ?_ ?_<;>simp[dG,dF,aO,hget,AV.bd,AV.bd.bdL,u8,ar,au,az])
     all_goals first|omega|skip
  ·have h5: ∀ _:True,¬(((s.length+1+c)%64:Nat):Int)=56:=fun _=>oO
   have hgo:=hR (c+1) oO oO;clear hR;refine eJ (aN @hl (aN @hT (aN @Mm (aN @nN (aN @mM (aN @hz (h5 oT))))))) ?_;refine hgo _ ?_
   (refine AS.Le.of (by first|decide|omega) ?_ ?_<;>simp[dG,dF,aO,hget,AV.bd,AV.bd.bdL,u8,ar,au,az])
   all_goals first|omega|skip
theorem ND:Zf prog 368:=by
 intro v w;have h1:(Tryz.f368.name== "runtime.NumGoroutine")=false:=by kernel_rfl
 have h2:Tryz.f368.body.isNone=true:=by kernel_rfl
 have h3:(Extern.findNext Tryz.f368).isNone=true:=by kernel_rfl
 have h4:Extern.find Tryz.f368=some Extern.AbiNoEscape.same:=by kernel_rfl
 have h3':Extern.findNext Tryz.f368=none:=by simpa using h3
 simp only[callFunc,bT,run_program,Result.andThen,func368,h1,h2,h3',h4,aA,bQ,ak];rfl
def bF (el:TypeId):aC:=⟨0,[.v .p0, .sn],false,some el⟩
def bS (el:TypeId) (b:Nat):aC:=⟨0,[.p b 0 0, .sn],false,some el⟩
def bB (el:TypeId) (b d ver:Nat) (bs:Bytes):aC:=⟨0,[.p b 0 0, .rs d ver 0 bs.length 1],false,some el⟩
def bD (ver:Nat) (bs:Bytes):aC:=⟨ver,aH bs,true,some 5⟩
theorem Gd (l:Bytes):(∀y,y∈aH l->y= .v (.i .u8 (y.byte.toNat:Int)))=True:=JB l
theorem Xz:liesAt prog prog.depth 325 (2/prog.cellsOf 325) 0 325 1=true:=by kernel_rfl
theorem EM:liesAt prog prog.depth 337 (2/prog.cellsOf 337) 0 325 1=true:=by kernel_rfl
theorem b1 (c:Nat):[AV.v (.i .u8 (IntKind.u8.wrap (c:Int)))]=aH [UInt8.ofNat c]:=rfl
theorem SH (el:TypeId) (hl:liesAt prog prog.depth el (2/prog.cellsOf el) 0 325 1=true) (b nm:Nat):jU prog 337 nm [(b,bF el)] [.p b 0 0] (.tup []) [(b,some (bS el b))]:=by
 have hbd':True:=trivial;refine jU.w mixed call337 func337 rfl (j5.1 _ _ _ (by cbv)) (j5.2 _ _ (by cbv)) (obs:=[bF el]) (args:=[.p 0 0 0]) (fs:=[some (some (bS el 0))]) (j:=none) (nw:=none) (v:= .tup []) (ns:=[b]) (obsA:=[bF el]) rfl ?_ (by simp) (by simp) rfl (by simp[aU,aC.ren,AV.ren,AV.ren.renL,cT,aI,hbd',bF,bS,bB,bD]) (by simp[aU,AV.ren,AV.ren.renL,cT,hbd']) (by simp[AV.ren,AV.ren.renL]) (by simp[fT,outs,aC.ren,AV.ren,AV.ren.renL,aI,gO,bF,bS,bB,bD])
 simp only[go_sem,seval,bF,bS,bB,bD];repeat' first|simp only[go_sem,seval,db,cQ,true_or,or_true,false_or,or_false,ai,iU,e7,iA,fN,gn,eN,pz,pI,gU,iF,dr,aK,AV.ren,AV.ren.renL,aI,bF,bB,bD,bS,hl]|refine Pd ND ?_|refine oE ?_|apply xX<;>intro hc
theorem SG (el:TypeId) (b d nm ver:Nat) (bs:Bytes) (hbd:b≠d):jU prog 337 nm [(b,bB el b d ver bs),(d,bD ver bs)] [.p b 0 0] (.tup []) []:=by
 have hbd':=hbd.symm;refine jU.w mixed call337 func337 rfl (j5.1 _ _ _ (by cbv)) (j5.2 _ _ (by cbv)) (obs:=[bB el 0 1 ver bs,bD ver bs]) (args:=[.p 0 0 0]) (fs:=[none,none]) (j:=none) (nw:=none) (v:= .tup []) (ns:=[b,d]) (obsA:=[bB el b d ver bs,bD ver bs]) rfl ?_ (by simp) (by simp[hbd]) rfl (by simp[aU,aC.ren,AV.ren,AV.ren.renL,cT,aI,hbd',bF,bB,bD]) (by simp[aU,AV.ren,AV.ren.renL,cT,hbd']) (by simp[AV.ren,AV.ren.renL]) (by simp[fT,outs,aC.ren,AV.ren,AV.ren.renL,aI,gO,bF,bB,bD])
 simp only[go_sem,seval,bF,bB,bD];repeat' first|simp only[go_sem,seval,db,cQ,true_or,or_true,false_or,or_false,ai,iU,e7,iA,fN,gn,eN,pz,pI,gU,iF,dr,aK,AV.ren,AV.ren.renL,aI,bF,bB,bD]|refine oE ?_|apply xX<;>intro hc
theorem YO (el:TypeId) (hl:liesAt prog prog.depth el (2/prog.cellsOf el) 0 325 1=true) (b nm:Nat) (c:Nat):jU prog 275 nm [(b,bF el)] [.p b 0 0, .v (.i .u8 (IntKind.u8.wrap (c:Int)))] (.v .if0) [(nm,some (bD 0 [UInt8.ofNat c])),(b,some (bB el b nm 0 [UInt8.ofNat c]))]:=by
 have hbd':True:=trivial;refine jU.w mixed call275 func275 rfl (j5.1 _ _ _ (by cbv)) (j5.2 _ _ (by cbv)) (obs:=[bF el]) (args:=[.p 0 0 0, .v (.i .u8 (IntKind.u8.wrap (c:Int)))]) (fs:=[some (some (bB el 0 1 0 [UInt8.ofNat c]))]) (j:=some 1010) (nw:=(some (bD 0 [UInt8.ofNat c]))) (v:= .v .if0) (ns:=[b]) (obsA:=[bF el]) rfl ?_ (by simp) (by simp) rfl (by simp[aU,aC.ren,AV.ren,AV.ren.renL,cT,aI,hbd',bF,bB,bD]) (by simp[aU,AV.ren,AV.ren.renL,cT,hbd']) (by simp[AV.ren,AV.ren.renL]) (by simp[fT,outs,aC.ren,AV.ren,AV.ren.renL,aI,gO,bF,bB,bD])
 simp only[go_sem,seval,bF,bB,bD];repeat' first|simp only[go_sem,seval,db,cQ,true_or,or_true,false_or,or_false,ai,iU,e7,iA,fN,gn,eN,pz,pI,gU,iF,dr,aK,AV.ren,AV.ren.renL,aI,bF,bB,bD,bS]|(refine aW (SH el hl 0 _) (by simp[hget,bF,bB,bD]) ?_)|refine oE ?_|apply xX<;>intro hc
 all_goals first|rfl|exact b1 c|skip
theorem wbB (el:TypeId) (b d nm ver:Nat) (bs:Bytes) (c:Nat) (hbd:b≠d) (hs:bs.length<1099511627776):jU prog 275 nm [(b,bB el b d ver bs),(d,bD ver bs)] [.p b 0 0, .v (.i .u8 (IntKind.u8.wrap (c:Int)))] (.v .if0) [(b,some (bB el b d (ver+1) (bs++[UInt8.ofNat c]))),(d,some (bD (ver+1) (bs++[UInt8.ofNat c])))]:=by
 have hbd':=hbd.symm;refine jU.w mixed call275 func275 rfl (j5.1 _ _ _ (by cbv)) (j5.2 _ _ (by cbv)) (obs:=[bB el 0 1 ver bs,bD ver bs]) (args:=[.p 0 0 0, .v (.i .u8 (IntKind.u8.wrap (c:Int)))]) (fs:=[some (some (bB el 0 1 (ver+1) (bs++[UInt8.ofNat c]))),some (some (bD (ver+1) (bs++[UInt8.ofNat c])))]) (j:=none) (nw:=none) (v:= .v .if0) (ns:=[b,d]) (obsA:=[bB el b d ver bs,bD ver bs]) rfl ?_ (by simp) (by simp[hbd]) rfl (by simp[aU,aC.ren,AV.ren,AV.ren.renL,cT,aI,hbd',bF,bB,bD]) (by simp[aU,AV.ren,AV.ren.renL,cT,hbd']) (by simp[AV.ren,AV.ren.renL]) (by simp[fT,outs,aC.ren,AV.ren,AV.ren.renL,aI,gO,bF,bB,bD])
 simp only[go_sem,seval,bF,bB,bD];repeat' first|simp only[go_sem,seval,db,cQ,true_or,or_true,false_or,or_false,ai,iU,e7,iA,fN,gn,eN,pz,pI,gU,iF,dr,aK,AV.ren,AV.ren.renL,aI,bF,bB,bD,bU,sr,mM,cq]|(refine aW (SG el 0 1 _ ver bs oC) (by simp[hget,bF,bB,bD]) ?_)|refine oE ?_|apply xX<;>intro hc
theorem wsF (el:TypeId) (hl:liesAt prog prog.depth el (2/prog.cellsOf el) 0 325 1=true) (b nm:Nat) (s:Bytes) (h0:s.length≠0) (hs:s.length<1099511627776):jU prog 274 nm [(b,bF el)] [.p b 0 0, .v (.s s)] (.tup [.v (.i .i64 (s:Bytes).length), .v .if0]) [(nm,some (bD 0 s)),(b,some (bB el b nm 0 s))]:=by
 have hbd':True:=trivial;refine jU.w mixed call274 func274 rfl (j5.1 _ _ _ (by cbv)) (j5.2 _ _ (by cbv)) (obs:=[bF el]) (args:=[.p 0 0 0, .v (.s s)]) (fs:=[some (some (bB el 0 1 0 s))]) (j:=some 1010) (nw:=(some (bD 0 s))) (v:= .tup [.v (.i .i64 (s:Bytes).length), .v .if0]) (ns:=[b]) (obsA:=[bF el]) rfl ?_ (by simp) (by simp) rfl (by simp[aU,aC.ren,AV.ren,AV.ren.renL,cT,aI,hbd',bF,bB,bD]) (by simp[aU,AV.ren,AV.ren.renL,cT,hbd']) (by simp[AV.ren,AV.ren.renL]) (by simp[fT,outs,aC.ren,AV.ren,AV.ren.renL,aI,gO,bF,bB,bD])
 simp only[go_sem,seval,bF,bB,bD];repeat' first|simp only[go_sem,seval,db,cQ,true_or,or_true,false_or,or_false,ai,iU,e7,iA,fN,gn,eN,pz,pI,gU,iF,dr,aK,AV.ren,AV.ren.renL,aI,bF,bB,bD,bS,h0]|(refine aW (SH el hl 0 _) (by simp[hget,bF,bB,bD]) ?_)|refine oE ?_|apply xX<;>intro hc
theorem Y9 (el:TypeId) (b d nm ver:Nat) (bs s:Bytes) (hbd:b≠d) (hs:bs.length+s.length<1099511627776):jU prog 274 nm [(b,bB el b d ver bs),(d,bD ver bs)] [.p b 0 0, .v (.s s)] (.tup [.v (.i .i64 (s:Bytes).length), .v .if0]) [(b,some (bB el b d (ver+1) (bs++s))),(d,some (bD (ver+1) (bs++s)))]:=by
 have hbd':=hbd.symm;refine jU.w mixed call274 func274 rfl (j5.1 _ _ _ (by cbv)) (j5.2 _ _ (by cbv)) (obs:=[bB el 0 1 ver bs,bD ver bs]) (args:=[.p 0 0 0, .v (.s s)]) (fs:=[some (some (bB el 0 1 (ver+1) (bs++s))),some (some (bD (ver+1) (bs++s)))]) (j:=none) (nw:=none) (v:= .tup [.v (.i .i64 (s:Bytes).length), .v .if0]) (ns:=[b,d]) (obsA:=[bB el b d ver bs,bD ver bs]) rfl ?_ (by simp) (by simp[hbd]) rfl (by simp[aU,aC.ren,AV.ren,AV.ren.renL,cT,aI,hbd',bF,bB,bD]) (by simp[aU,AV.ren,AV.ren.renL,cT,hbd']) (by simp[AV.ren,AV.ren.renL]) (by simp[fT,outs,aC.ren,AV.ren,AV.ren.renL,aI,gO,bF,bB,bD])
 simp only[go_sem,seval,bF,bB,bD];repeat' first|simp only[go_sem,seval,db,cQ,true_or,or_true,false_or,or_false,ai,iU,e7,iA,fN,gn,eN,pz,pI,gU,iF,dr,aK,AV.ren,AV.ren.renL,aI,bF,bB,bD,bU]|(refine aW (SG el 0 1 _ ver bs oC) (by simp[hget,bF,bB,bD]) ?_)|refine oE ?_|apply xX<;>intro hc
theorem ZX (el:TypeId) (b nm:Nat):jU prog 279 nm [(b,bF el)] [.p b 0 0] (.v (.i .i64 0)) []:=by
 have hbd':True:=trivial;refine jU.w mixed call279 func279 rfl (j5.1 _ _ _ (by cbv)) (j5.2 _ _ (by cbv)) (obs:=[bF el]) (args:=[.p 0 0 0]) (fs:=[none]) (j:=none) (nw:=none) (v:= .v (.i .i64 0)) (ns:=[b]) (obsA:=[bF el]) rfl ?_ (by simp) (by simp) rfl (by simp[aU,aC.ren,AV.ren,AV.ren.renL,cT,aI,hbd',bF,bB,bD]) (by simp[aU,AV.ren,AV.ren.renL,cT,hbd']) (by simp[AV.ren,AV.ren.renL]) (by simp[fT,outs,aC.ren,AV.ren,AV.ren.renL,aI,gO,bF,bB,bD])
 simp only[go_sem,seval,bF,bB,bD];repeat' first|simp only[go_sem,seval,db,cQ,true_or,or_true,false_or,or_false,ai,iU,e7,iA,fN,gn,eN,pz,pI,gU,iF,dr,aK,AV.ren,AV.ren.renL,aI,bF,bB,bD]|refine oE ?_|apply xX<;>intro hc
theorem ZW (el:TypeId) (b d nm ver:Nat) (bs:Bytes) (hbd:b≠d):jU prog 279 nm [(b,bB el b d ver bs),(d,bD ver bs)] [.p b 0 0] (.v (.i .i64 bs.length)) []:=by
 have hbd':=hbd.symm;refine jU.w mixed call279 func279 rfl (j5.1 _ _ _ (by cbv)) (j5.2 _ _ (by cbv)) (obs:=[bB el 0 1 ver bs,bD ver bs]) (args:=[.p 0 0 0]) (fs:=[none,none]) (j:=none) (nw:=none) (v:= .v (.i .i64 bs.length)) (ns:=[b,d]) (obsA:=[bB el b d ver bs,bD ver bs]) rfl ?_ (by simp) (by simp[hbd]) rfl (by simp[aU,aC.ren,AV.ren,AV.ren.renL,cT,aI,hbd',bF,bB,bD]) (by simp[aU,AV.ren,AV.ren.renL,cT,hbd']) (by simp[AV.ren,AV.ren.renL]) (by simp[fT,outs,aC.ren,AV.ren,AV.ren.renL,aI,gO,bF,bB,bD])
 simp only[go_sem,seval,bF,bB,bD];repeat' first|simp only[go_sem,seval,db,cQ,true_or,or_true,false_or,or_false,ai,iU,e7,iA,fN,gn,eN,pz,pI,gU,iF,dr,aK,AV.ren,AV.ren.renL,aI,bF,bB,bD]|refine oE ?_|apply xX<;>intro hc
theorem Ld (el:TypeId) (b d nm ver:Nat) (bs:Bytes) (hbd:b≠d) (h0:bs.length≠0) (hs:bs.length<1099511627776):jU prog 276 nm [(b,bB el b d ver bs),(d,bD ver bs)] [.p b 0 0] (.v (.s bs)) [(d,none)]:=by
 have hbd':=hbd.symm;refine jU.w mixed call276 func276 rfl (j5.1 _ _ _ (by cbv)) (j5.2 _ _ (by cbv)) (obs:=[bB el 0 1 ver bs,bD ver bs]) (args:=[.p 0 0 0]) (fs:=[none,some none]) (j:=none) (nw:=none) (v:= .v (.s bs)) (ns:=[b,d]) (obsA:=[bB el b d ver bs,bD ver bs]) rfl ?_ (by simp) (by simp[hbd]) rfl (by simp[aU,aC.ren,AV.ren,AV.ren.renL,cT,aI,hbd',bF,bB,bD]) (by simp[aU,AV.ren,AV.ren.renL,cT,hbd']) (by simp[AV.ren,AV.ren.renL]) (by simp[fT,outs,aC.ren,AV.ren,AV.ren.renL,aI,gO,bF,bB,bD])
 simp only[go_sem,seval,bF,bB,bD];repeat' first|simp only[go_sem,seval,db,cQ,true_or,or_true,false_or,or_false,ai,iU,e7,iA,fN,gn,eN,pz,pI,gU,iF,dr,aK,AV.ren,AV.ren.renL,aI,bF,bB,bD,kU,Gd]|refine oE ?_|apply xX<;>intro hc
abbrev FR:TypeId:=337
theorem lC (el:TypeId) (b d ver:Nat) (bs:Bytes) (n:Nat) (hb:b<n) (hd:d<n): ∀c∈(bB el b d ver bs).cells,c.bd n=true:=by
 intro c hc;simp[bB]at hc;rcases hc with rfl|rfl<;>simp[AV.bd,hb,hd]
theorem lD (ver:Nat) (bs:Bytes) (n:Nat): ∀c∈(bD ver bs).cells,c.bd n=true:=by
 intro c hc;have h:=au bs n;exact(h▸trivial: ∀y,y∈aH bs->y.bd n=true) c hc
theorem pQ (b d nm ver:Nat) (bs:Bytes) (N:Nat) (hbd:b≠d) (hs:bs.length<1000000000000) (hN:N<4611686018427387904):jU prog 280 nm [(b,bB FR b d ver bs),(d,bD ver bs)] [.p b 0 0, .v (.i .i64 (N:Int))] (.tup []) [(b,some (bB FR b d (ver+8) (bs++be 8 N))),(d,some (bD (ver+8) (bs++be 8 N)))]:=by
 have hbd':=hbd.symm;refine jU.w mixed call280 func280 rfl (j5.1 _ _ _ (by cbv)) (j5.2 _ _ (by cbv)) (obs:=[bB FR 0 1 ver bs,bD ver bs]) (args:=[.p 0 0 0, .v (.i .i64 (N:Int))]) (fs:=[some (some (bB FR 0 1 (ver+8) (bs++be 8 N))),some (some (bD (ver+8) (bs++be 8 N)))]) (j:=none) (nw:=none) (v:= .tup []) (ns:=[b,d]) (obsA:=[bB FR b d ver bs,bD ver bs]) rfl ?_ (by simp) (by simp[hbd]) rfl (by simp[aU,aC.ren,AV.ren,AV.ren.renL,cT,aI,hbd',bB,bD]) (by simp[aU,AV.ren,AV.ren.renL,cT,hbd']) (by simp[AV.ren,AV.ren.renL]) (by simp[fT,outs,aC.ren,AV.ren,AV.ren.renL,aI,gO,bB,bD])
 simp only[go_sem,seval];repeat' first|simp only[go_sem,seval,true_or,or_true,false_or,or_false,ai,iU,e7,iA,fN,gn,eN,pz,pI,gU,iF,dr,aK,AV.ren,AV.ren.renL,aI]|refine oE ?_|apply xX<;>intro hc
 refine aq (α:=Nat) (fun k=>8-k) (fun k=>⟨[(0, .p 0 0 0),(1,E' N),(4, .v (.i .i64 (56-8*(k:Int))))],[(0,bB FR 0 1 (ver+k) (bs++(be 8 N).take k)),(1,bD (ver+k) (bs++(be 8 N).take k))],_⟩) (fun k=>k<=8) 0 (fun _=>aB _) (aT _) ?_ ?_
 ·refine lG ?_;exact⟨lC _ _ _ _ _ _ oC oC,lD _ _ _⟩
 ·intro k hk R hR
  by_cases h8:k<8
  ·have hlen:(bs++(be 8 N).take k).length<1099511627776:=by
    rw[bU,da,cA];omega
   have hw:=fun nm=>wbB FR 0 1 nm (ver+k) (bs++(be 8 N).take k) (N/256^(7-k)) oC hlen
   have hgo:=hR (k+1) oO oO;rw[D7 N k h8,<-gZ,<-lk]at hgo;rw[gZ]at hgo hw;generalize hbb:bs++(be 8 N).take k=bb at hw hgo⊢;clear hR hlen hbb;rcases(by omega:k=0\/k=1\/k=2\/k=3\/k=4\/k=5\/k=6\/k=7)with rfl|rfl|rfl|rfl|rfl|rfl|rfl|rfl
   all_goals simp only[Nat.reduceSub,Nat.reducePow,Nat.pow_zero]at hw hgo
   repeat' first|simp only[go_sem,seval,true_or,or_true,false_or,or_false,ai,iU,e7,iA,fN,gn,eN,pz,pI,gU,iF,dr,aK,AV.ren,AV.ren.renL,aI]|(refine aW (hw _) (by simp[hget]) ?_)|refine oE ?_|apply xX<;>intro hc
   all_goals (refine hgo _ ?_)
   all_goals (refine AS.Le.of (by first|decide|omega) ?_ ?_<;>simp[dG,dF,aO,hget,AV.bd,AV.bd.bdL,u8,ar,au,az])
   all_goals exact⟨lC _ _ _ _ _ _ oC oC,lD _ _ _⟩
  ·have h:k=8:=oO;subst h;have e8:(be 8 N).take 8=be 8 N:=dc (by rw[cA];decide)
   rw[e8];repeat' first|simp only[go_sem,seval,true_or,or_true,false_or,or_false,ai,iU,e7,iA,fN,gn,eN,pz,pI,gU,iF,dr,aK,AV.ren,AV.ren.renL,aI,bB,bD]|refine oE ?_|apply xX<;>intro hc
theorem Uz (b nm:Nat) (N:Nat) (hN:N<4611686018427387904):jU prog 280 nm [(b,bF FR)] [.p b 0 0, .v (.i .i64 (N:Int))] (.tup []) [(nm,some (bD 7 (be 8 N))),(b,some (bB FR b nm 7 (be 8 N)))]:=by
 have hbd':True:=trivial;refine jU.w mixed call280 func280 rfl (j5.1 _ _ _ (by cbv)) (j5.2 _ _ (by cbv)) (obs:=[bF FR]) (args:=[.p 0 0 0, .v (.i .i64 (N:Int))]) (fs:=[some (some (bB FR 0 1 7 (be 8 N)))]) (j:=some 1010) (nw:=some (bD 7 (be 8 N))) (v:= .tup []) (ns:=[b]) (obsA:=[bF FR]) rfl ?_ (by simp) (by simp) rfl (by simp[aU,aC.ren,AV.ren,AV.ren.renL,cT,aI,hbd',bF,bB,bD]) (by simp[aU,AV.ren,AV.ren.renL,cT,hbd']) (by simp[AV.ren,AV.ren.renL]) (by simp[fT,outs,aC.ren,AV.ren,AV.ren.renL,aI,gO,bF,bB,bD])
 simp only[go_sem,seval];have hw0:=fun nm=>YO FR EM 0 nm (N/256^7)
 simp only[Nat.reducePow]at hw0;repeat' first|simp only[go_sem,seval,true_or,or_true,false_or,or_false,ai,iU,e7,iA,fN,gn,eN,pz,pI,gU,iF,dr,aK,AV.ren,AV.ren.renL,aI]|(refine aW (hw0 _) (by simp[hget]) ?_)|refine oE ?_|apply xX<;>intro hc
 refine aj ?_;repeat' first|simp only[go_sem,seval,true_or,or_true,false_or,or_false,ai,iU,e7,iA,fN,gn,eN,pz,pI,gU,iF,dr,aK,AV.ren,AV.ren.renL,aI]|(refine aW (hw0 _) (by simp[hget]) ?_)|refine oE ?_|apply xX<;>intro hc
 have e1:[UInt8.ofNat (N/72057594037927936)]=(be 8 N).take 1:=rfl;rw[e1];refine aq (α:=Nat) (fun k=>7-k) (fun k=>⟨[(0, .p 0 0 0),(1,E' N),(4, .v (.i .i64 (48-8*(k:Int))))],[(0,bB FR 0 1010 (0+k) ((be 8 N).take (k+1))),(1010,bD (0+k) ((be 8 N).take (k+1)))],1014⟩) (fun k=>k<=7) 0 (fun _=>fk rfl) (aT _) ?_ ?_
 ·refine lG ?_;exact⟨lC _ _ _ _ _ _ oC oC,lD _ _ _⟩
 ·intro k hk R hR
  by_cases h8:k<7
  ·have hlen:((be 8 N).take (k+1)).length<1099511627776:=by
    rw[da,cA];omega
   have hw:=fun nm=>wbB FR 0 1010 nm (0+k) ((be 8 N).take (k+1)) (N/256^(7-(k+1))) oC hlen
   have hgo:=hR (k+1) oO oO;rw[D7 N (k+1) oO,<-lk]at hgo;generalize hbb:(be 8 N).take (k+1)=bb at hw hgo⊢;clear hR hlen hbb e1;rcases(by omega:k=0\/k=1\/k=2\/k=3\/k=4\/k=5\/k=6)with rfl|rfl|rfl|rfl|rfl|rfl|rfl
   all_goals simp only[Nat.reduceSub,Nat.reduceAdd,Nat.reducePow,Nat.pow_zero]at hw hgo
   repeat' first|simp only[go_sem,seval,true_or,or_true,false_or,or_false,ai,iU,e7,iA,fN,gn,eN,pz,pI,gU,iF,dr,aK,AV.ren,AV.ren.renL,aI,Nat.reduceAdd]|(refine aW (hw _) (by simp[hget]) ?_)|refine oE ?_|apply xX<;>intro hc
   all_goals (refine hgo _ ?_)
   all_goals (refine AS.Le.of (by first|decide|omega) ?_ ?_<;>simp[dG,dF,aO,hget,AV.bd,AV.bd.bdL,u8,ar,au,az])
   all_goals exact⟨lC _ _ _ _ _ _ oC oC,lD _ _ _⟩
  ·have h:k=7:=oO;subst h;have e8:(be 8 N).take (7+1)=be 8 N:=dc (by rw[cA];decide)
   rw[e8];repeat' first|simp only[go_sem,seval,true_or,or_true,false_or,or_false,ai,iU,e7,iA,fN,gn,eN,pz,pI,gU,iF,dr,aK,AV.ren,AV.ren.renL,aI,bF,bB,bD]|refine oE ?_|apply xX<;>intro hc
def gM (n:Nat):Bytes:=if n<10 then[UInt8.ofNat (48+n)]else[UInt8.ofNat (48+n/10),UInt8.ofNat (48+n%10)]
theorem kV (n:Nat):(gM n).length<=2:=by unfold gM;split<;>simp
theorem Zu: ∀n:Fin 10,List.drop n.val (List.take (n.val+1) ([48,49,50,51,52,53,54,55,56,57,97,98,99,100,101,102,103,104,105,106,107,108,109,110,111,112,113,114,115,116,117,118,119,120,121,122]:Bytes))=gM n.val:=by decide+kernel
def Z4:Bytes:=(List.range 100).flatMap fun n=>[UInt8.ofNat (48+n/10),UInt8.ofNat (48+n%10)]
theorem Zv: ∀n:Fin 100,10<=n.val->List.drop (n.val*2) (List.take (n.val*2+2) Z4)=gM n.val:=by decide+kernel
theorem OJ (n:Nat) (hn:n<100):aF 383 [.i .i64 (n:Int)] (.s (gM n)):=by
 by_cases h:n<10
 ·have hb:=Zu ⟨n,h⟩;have t1: ∀ _:True,((n:Int)+1).toNat=n+1:=fun _=>oO
  have d1: ∀ _:True,((n:Int)<10)=True:=fun _=>by simp;omega
  refine eW call383 func383 ?_;repeat' first|simp only[go_sem,seval,t1 oT]|refine oE ?_|apply xX<;>intro hc
  all_goals first|omega|exact congrArg PV.s hb|skip
 ·have hb:=Zv ⟨n,hn⟩ (by simpa using h)
  have t1: ∀ _:True,((n:Int)*2+2).toNat=n*2+2:=fun _=>oO
  have t2: ∀ _:True,((n:Int)*2).toNat=n*2:=fun _=>oO
  refine eW call383 func383 ?_;repeat' first|simp only[go_sem,seval,t1 oT,t2 oT]|refine oE ?_|apply xX<;>intro hc
  all_goals first|omega|exact congrArg PV.s hb|skip
theorem lF (n:Nat) (hn:n<100):aF 270 [.i .i64 (n:Int)] (.s (gM n)):=by
 have h:=OJ n hn;have hF:aF 367 [.i .i64 (n:Int), .i .i64 10] (.s (gM n)):=by
  refine eW call367 func367 ?_;exact z1 @h
 have hI:aF 333 [.i .i64 (n:Int)] (.s (gM n)):=by
  refine eW call333 func333 ?_;exact z1 @hF
 refine eW call270 func270 ?_;exact z1 @hI
def Af:Nat->Nat->Bytes
 |0,_=>[]
 |k+1,n=>Af k (n/10)++[UInt8.ofNat (48+n%10)]
abbrev Wz:TypeId:=407
def z24:List AV:=List.replicate 24 (.v (.i .u8 0))
def FB:Bytes:=(List.range 100).flatMap fun n=>[UInt8.ofNat (48+n/10),UInt8.ofNat (48+n%10)]
def Y8 (k n:Nat):aC:=⟨0,(AV.v (.i .u8 0)::((Af k n).map fun c=>AV.v (u8 c)))++List.replicate (23-k) (AV.v (.i .u8 0)),false,some Wz⟩
theorem w32 (n:Nat):IntKind.u32.wrap (n:Int)=((n%4294967296:Nat):Int):=by rw[IntKind.wrap_u32];omega
theorem w8 (n:Nat):IntKind.u8.wrap (n:Int)=((UInt8.ofNat n).toNat:Int):=by rw[xw];simp
theorem i2 (n:Nat):(n:Int)*2=((n*2:Nat):Int):=oO
theorem i1 (n:Nat):(n:Int)+1=((n+1:Nat):Int):=oO
theorem i48 (n:Nat):(48:Int)+n=((48+n:Nat):Int):=oO
theorem q2 (x:Nat):x%100*2%4294967296=x%100*2:=oO
theorem q3 (x:Nat):(x%100*2+1)%4294967296=x%100*2+1:=oO
theorem dtF: ∀n:Fin 100,FB.getD (n.val*2) 0=UInt8.ofNat (48+n.val/10)/\FB.getD (n.val*2+1) 0=UInt8.ofNat (48+n.val%10):=by decide+kernel
theorem dt1 (x:Nat):FB.getD (x%100*2+1) 0=UInt8.ofNat (48+x%10):=by
 have:=(dtF ⟨x%100,aL _ oC⟩).2;rw[this];congr 2;simp only;omega
theorem dt2 (x:Nat):FB.getD (x%100*2) 0=UInt8.ofNat (48+x/10%10):=by
 have:=(dtF ⟨x%100,aL _ oC⟩).1;rw[this];congr 2;simp only;omega
theorem Z5:[48,48,48,49,48,50,48,51,48,52,48,53,48,54,48,55,48,56,48,57,49,48,49,49,49,50,49,51,49,52,49,53,49,54,49,55,49,56,49,57,50,48,50,49,50,50,50,51,50,52,50,53,50,54,50,55,50,56,50,57,51,48,51,49,51,50,51,51,51,52,51,53,51,54,51,55,51,56,51,57,52,48,52,49,52,50,52,51,52,52,52,53,52,54,52,55,52,56,52,57,53,48,53,49,53,50,53,51,53,52,53,53,53,54,53,55,53,56,53,57,54,48,54,49,54,50,54,51,54,52,54,53,54,54,54,55,54,56,54,57,55,48,55,49,55,50,55,51,55,52,55,53,55,54,55,55,55,56,55,57,56,48,56,49,56,50,56,51,56,52,56,53,56,54,56,55,56,56,56,57,57,48,57,49,57,50,57,51,57,52,57,53,57,54,57,55,57,56,57,57]=FB:=by decide+kernel
theorem Yh:FB.length=200:=by decide+kernel
theorem Xj {a b:AV} {l m:List AV} (h:a=b) (g:l=m):a::l=b::m:=by rw[h,g]
theorem dgE {a:Nat} (h:a=b):AV.v (.i .u8 ((UInt8.ofNat a).toNat:Int))=AV.v (.i .u8 ((UInt8.ofNat b).toNat:Int)):=by rw[h]
theorem dgA (h:x<100) (e:48+x/10=b):AV.v (.i .u8 ((FB.getD (x*2%4294967296) 0).toNat:Int))=AV.v (.i .u8 ((UInt8.ofNat b).toNat:Int)):=by
 have:=dt2 x;rw[bM h]at this;rw[bM (show x*2<4294967296 by omega),this,<-e];congr 5;omega
theorem dgB (h:x<100) (e:48+x%10=b):AV.v (.i .u8 ((FB.getD ((x*2%4294967296+1)%4294967296) 0).toNat:Int))=AV.v (.i .u8 ((UInt8.ofNat b).toNat:Int)):=by
 have:=dt1 x;rw[bM h]at this;rw[bM (show x*2<4294967296 by omega),bM (show x*2+1<4294967296 by omega),this,<-e]
theorem YV:z24=[.v (.i .u8 0), .v (.i .u8 0), .v (.i .u8 0), .v (.i .u8 0), .v (.i .u8 0), .v (.i .u8 0), .v (.i .u8 0), .v (.i .u8 0), .v (.i .u8 0), .v (.i .u8 0), .v (.i .u8 0), .v (.i .u8 0), .v (.i .u8 0), .v (.i .u8 0), .v (.i .u8 0), .v (.i .u8 0), .v (.i .u8 0), .v (.i .u8 0), .v (.i .u8 0), .v (.i .u8 0), .v (.i .u8 0), .v (.i .u8 0), .v (.i .u8 0), .v (.i .u8 0)]:=rfl
theorem fbA (hk:k=3\/k=4\/k=5\/k=6\/k=7\/k=8\/k=9\/k=10) (o nm u:Nat) (hu:u<10^k) (h32:u<4294967296):jU prog 385 nm [(o,⟨0,z24,false,some Wz⟩)] [.rs o 0 1 k 1, .v (.i .u64 (u:Int))] (.tup []) [(o,some (Y8 k u))]:=by
 have h1:u%4294967296=u:=oO;refine jU.w mixed call385 func385 rfl (j5.1 _ _ _ (by cbv)) (j5.2 _ _ (by cbv)) (obs:=[⟨0,z24,false,some Wz⟩]) (args:=[.rs 0 0 1 k 1, .v (.i .u64 (u:Int))]) (fs:=[some (some (Y8 k u))]) (j:=none) (nw:=none) (v:= .tup []) (ns:=[o]) (obsA:=[⟨0,z24,false,some Wz⟩]) rfl ?_ (by simp) (by simp) rfl (by simp[aU,aC.ren,AV.ren,AV.ren.renL,cT,z24]) (by simp[aU,AV.ren,AV.ren.renL,cT]) (by simp[AV.ren,AV.ren.renL]) (by rcases hk with rfl|rfl|rfl|rfl|rfl|rfl|rfl|rfl<;>simp[fT,outs,aC.ren,AV.ren,AV.ren.renL,aI,gO,Y8,Af])
 rcases hk with rfl|rfl|rfl|rfl|rfl|rfl|rfl|rfl
 all_goals
  simp only[Nat.reducePow]at hu;simp only[go_sem,seval,YV];repeat' first|simp only[go_sem,seval,true_or,or_true,false_or,or_false,ai,iU,e7,iA,fN,gn,eN,pz,pI,gU,iF,dr,aK,AV.ren,AV.ren.renL,aI,w32,w8,i2,i1,i48,h1,q2,q3,Z5,Yh,dt1,dt2]|(refine aj ?_)|refine oE ?_|apply xX<;>intro hc
  all_goals first|decide|omega|skip
  all_goals (
   refine congrArg (fun l=>aC.mk 0 l false (some Wz)) ?_
   simp only[Af,nk,br,bH,List.nil_append,List.cons_append,u8];repeat' (first|rfl|refine Xj ?_ ?_|fail)
   all_goals first|(refine dgE ?_;omega)|(refine dgA ?_ ?_<;>omega)|(refine dgB ?_ ?_<;>omega))
theorem US (L:Nat) (h:L<=64):aF 390 [E L] (E (Lib.l10 L)):=by
 unfold Lib.l10;refine eW call390 func390 ?_;repeat' first|simp only[go_sem,seval]|refine oE ?_|apply xX<;>intro hc
 all_goals (rw[Jd _ oC];first|rfl|(congr 1;omega))
theorem Sw (b:Bool):aF 391 [.b b] (E (if b then 1 else 0)):=by
 cases b
 ·refine eW call391 func391 ?_;exact z0
 ·refine eW call391 func391 ?_;exact z0
theorem VC: ∀q:Fin 20,([.i .u64 1, .i .u64 10, .i .u64 100, .i .u64 1000, .i .u64 10000, .i .u64 100000, .i .u64 1000000, .i .u64 10000000, .i .u64 100000000, .i .u64 1000000000, .i .u64 10000000000, .i .u64 100000000000, .i .u64 1000000000000, .i .u64 10000000000000, .i .u64 100000000000000, .i .u64 1000000000000000, .i .u64 10000000000000000, .i .u64 100000000000000000, .i .u64 1000000000000000000, .i .u64 10000000000000000000]:List PV).getD q.val .fn0= .i .u64 (10^q.val:Nat):=by
 intro q;rcases q with⟨q,hq⟩
 rcases(by omega:q=0\/q=1\/q=2\/q=3\/q=4\/q=5\/q=6\/q=7\/q=8\/q=9\/q=10\/q=11\/q=12\/q=13\/q=14\/q=15\/q=16\/q=17\/q=18\/q=19)with rfl|rfl|rfl|rfl|rfl|rfl|rfl|rfl|rfl|rfl|rfl|rfl|rfl|rfl|rfl|rfl|rfl|rfl|rfl|rfl<;>rfl
theorem Q9 (u:Nat) (h1:1<=u) (h2:u<(2^64)):aF 384 [.i .u64 (u:Int)] (E (Lib.nDigits u)):=by
 obtain⟨e1,e2⟩:=Lib.numDigits_eq u h1 h2;have hb:=DX u h2;have hbl:Lib.bitLen u<=64:=by unfold Lib.bitLen;exact Lib.bitLen_le u 64 (aB _) h2
 have hl:=US (Lib.bitLen u) hbl;have hp:=VC ⟨Lib.l10 (Lib.bitLen u),oO⟩;simp only at hp;have hp: ∀ _:True,_:=fun _=>hp
 have hp2:=cW (n:=10) oC e2
 by_cases hq:10^Lib.l10 (Lib.bitLen u)<=u
 ·rw[ah hq]at e1;rw[<-e1];have hd: ∀ _:True,decide ((u:Int)>=((10^Lib.l10 (Lib.bitLen u):Nat):Int))=true:=fun _=>aS (by exact_mod_cast hq)
  have hc2:=Sw true;generalize Lib.l10 (Lib.bitLen u)=q at*;generalize 10^q=p at*;refine eW call384 func384 ?_;exact zW (aN (hp oT) (hd oT)) @hb @hl @hc2 oT
 ·rw[af hq]at e1;rw[<-e1];have hd: ∀ _:True,decide ((u:Int)>=((10^Lib.l10 (Lib.bitLen u):Nat):Int))=false:=fun _=>b9 (by intro h;exact hq (by exact_mod_cast h))
  have hc2:=Sw false;generalize Lib.l10 (Lib.bitLen u)=q at*;generalize 10^q=p at*;refine eW call384 func384 ?_;exact zW (aN (hp oT) (hd oT)) @hb @hl @hc2 oT
theorem MB (k n:Nat):(Af k n).length=k:=by
 induction k generalizing n with
 |zero=>rfl
 |succ k ih=>simp[Af,ih]
theorem Qr: ∀(k n:Nat),Lib.nDigits n=k->Af k n=Lib.decDigits n:=by
 intro k
 induction k with
 |zero=>intro n h;have:=Lib.nDigits_pos n;omega
 |succ k ih=>
  intro n h
  by_cases hn:n<10
  ·rw[Lib.nDigits_small hn]at h;obtain rfl:k=0:=oO;rw[Lib.decDigits_one hn];simp[Af,bM hn]
  ·rw[Lib.nDigits_big hn]at h;rw[Af,ih (n/10) oO]
   conv=>rhs;rw[Lib.decDigits,dif_neg hn]
theorem Ts (n:Nat) (h1:100<=n) (h2:n<4294967296):aF 367 [.i .i64 (n:Int), .i .i64 10] (.s (Lib.decDigits n)):=by
 obtain⟨k,hk⟩: ∃k,Lib.nDigits n=k:=⟨_,rfl⟩;have hlt:=Lib.lt_pow_nDigits n;rw[<-Qr k n hk];have q: ∀j,10^j<=n->n<10^(j+1)->k=j+1:=fun j a b=>by rw[<-hk];exact Lib.nDigits_unique j n a b
 have hk8:k=3\/k=4\/k=5\/k=6\/k=7\/k=8\/k=9\/k=10:=by
  rcases(by omega:n<1000\/1000<=n/\n<10000\/10000<=n/\n<100000\/100000<=n/\n<1000000\/1000000<=n/\n<10000000\/10000000<=n/\n<100000000\/100000000<=n/\n<1000000000\/1000000000<=n/\n<10000000000)with g|g|g|g|g|g|g|g
  ·have:=q 2 oO oO;omega
  ·have:=q 3 oO oO;omega
  ·have:=q 4 oO oO;omega
  ·have:=q 5 oO oO;omega
  ·have:=q 6 oO oO;omega
  ·have:=q 7 oO oO;omega
  ·have:=q 8 oO oO;omega
  ·have:=q 9 oO oO;omega
 have hn:=Q9 n oO oO;have hf:=fun nm=>fbA hk8 1009 nm n (by rw[<-hk];exact hlt) h2
 have hd:=MB k n;rw[hk]at hn;clear q hlt;rcases hk8 with rfl|rfl|rfl|rfl|rfl|rfl|rfl|rfl
 all_goals
  refine eW call367 func367 ?_;repeat' first|simp only[go_sem,seval,<-YV,Y8,Af,u8,nk,List.nil_append,List.cons_append]|refine cP hn ?_|(refine aW (hf _) (by simp[hget]) ?_)|refine oE ?_|apply xX<;>intro hc
theorem Qs (n:Nat) (h:n<100):gM n=Lib.decDigits n:=by
 unfold gM
 by_cases g:n<10
 ·rw[ah g,Lib.decDigits_one g]
 ·rw[af g,Lib.decDigits_two g h]
theorem Lz (n:Nat) (h2:n<4294967296):aF 270 [.i .i64 (n:Int)] (.s (Lib.decDigits n)):=by
 by_cases h:n<100
 ·rw[<-Qs n h];exact lF n h
 have hF:=Ts n oO h2;have hI:aF 333 [.i .i64 (n:Int)] (.s (Lib.decDigits n)):=by
  refine eW call333 func333 ?_;exact z1 @hF
 refine eW call270 func270 ?_;exact z1 @hI
