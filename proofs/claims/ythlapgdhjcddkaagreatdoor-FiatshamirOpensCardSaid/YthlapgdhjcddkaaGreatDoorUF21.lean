/- Part of the proof. -/
import Derived.Test.YthlapgdhjcddkaaGreatDoorUF19
set_option linter.all false
set_option maxHeartbeats 16000000
set_option maxRecDepth 100000
namespace Go.Proofs.Tryz
open Go Go.Dom
variable {b k x:Nat} {el:Option TypeId}
def zy (n:Nat):Bytes:=List.replicate n 0
theorem IH (n:Nat):(zy n).length=n:=EI
theorem mk0 (n:Nat):(List.replicate n [AV.v (.i .u8 0)]).flatten=aM (zy n):=by
 unfold zy
 induction n with
 |zero=>rfl
 |succ n ih=>rw[List.replicate_succ,List.flatten_cons,ih,List.replicate_succ];rfl
theorem Hr (l:Bytes):(aM l).all AV.one=true:=by
 unfold aM
 induction l with
 |nil=>rfl
 |cons c l ih=>rw[b8,List.all_cons,ih];rfl
theorem po (l:Bytes) (n:Nat):List.drop n (aM l)=aM (l.drop n):=by unfold aM;exact(vL ..).symm
theorem oe (l:Bytes) (n:Nat):List.take n (aM l)=aM (l.take n):=by unfold aM;exact(yS ..).symm
theorem ui (l:Bytes) (n:Nat):aM l++[AV.v (.i .u8 (IntKind.u8.wrap (n:Int)))]=aM (l++[UInt8.ofNat n]):=by
 rw[<-kW];congr 1
theorem MU (l:Bytes):aM l++[AV.v (.i .u8 0)]=aM (l++[0]):=by rw[<-kW];rfl
theorem MV (l:Bytes):aM l++[AV.v (.i .u8 128)]=aM (l++[128]):=by rw[<-kW];rfl
theorem LU {hf:Nat->Option aI} {f n ver o m:Nat} {l:Bytes} {gr:Bool} (hm:o+m<=l.length) (h:hf n=some ⟨ver,aM l,gr,el⟩):
  view hf (f+2) (.rs n ver o m 1)=some (.sl (((l.drop o).take m).map u8)):=by
 have h1:bA (view hf (f+1)) (aM ((l.drop o).take m))=some (((l.drop o).take m).map u8):=by
  have:=iW hf f (((l.drop o).take m).map u8);rw[iK]at this;exact this
 have h2:(aM ((l.drop o).take m)).all AV.one=true:=Hr _;have h3:chunk 1 m (((l.drop o).take m).map u8)=((l.drop o).take m).map u8:=by
  have:=zQ (((l.drop o).take m).map u8)
  rwa[au,bQ,mc,oS oO]at this
 simp only[view,h,po,oe,ny,dr,h1,h2,h3,hm,Option.map_some];simp
theorem IE {hf:Nat->Option aI} {f n ver o m:Nat} {l:Bytes} {gr:Bool} (h:hf n=some ⟨ver,aM l,gr,el⟩):
  aW hf (f+2) (.rs n ver o m 1)=[n]:=by
 have h1: ∀l:Bytes,(aM l).flatMap (aW hf (f+1))=[]:=fun l=>by
  unfold aM
  induction l with
  |nil=>rfl
  |cons x r ih=>simp_all[aW]
 simp only[aW,h,po,oe,h1]
theorem qx (n:Nat):AV.byte (.v (.i .u8 (IntKind.u8.wrap (n:Int))))=UInt8.ofNat n:=by
 simp[AV.byte,PV.byte,sE];apply zf;simp;omega
theorem An (n:Nat):AV.isByte (.v (.i .u8 (IntKind.u8.wrap (n:Int))))=True:=by
 simp[AV.isByte,PV.isByte,sE]
theorem SA (l:List Nat):(PV.agg (wl l)).flat=true:=by
 unfold wl
 induction l with
 |nil=>rfl
 |cons x l ih=>simp_all[PV.flat,PV.flat.flatL]
theorem Vt {P:Program} [cW P] {Q:AX->AS->Prop} {nx:Nat} {bf:Option (List Nat)} {nn:Nat} {d:Option Nat} {ops:List j9} {s:AS} {tr:List (Nat×List Nat×List Nat)} {K:List Fr} {nm:Nat} {f:FuncId} {n ver o m:Nat} {l:Bytes} {gr:Bool} {x r:PV}
  (he:qG P f [x, .sl (((l.drop o).take m).map u8)] r) (hr:r.flat=true) (hg:az s.h n=some ⟨ver,aM l,gr,el⟩) (hm:o+m<=l.length) (hK:RW P Q nx bf nn ops (k+1) (s.sM d (.v r) []) (xJ bf k [n] [] tr) K):
  CR P Q nx bf nn nm (.v (.fn (.func f))) [.v x, .rs n ver o m 1] d ops k s tr K:=by
 refine lO he ?_ hr ?_
 ·simp[bA,LU hm hg];rfl
 ·have:[AV.v x,AV.rs n ver o m 1].flatMap (aW (az s.h) 9)=[n]:=by simp[IE hg];rfl
  rw[this];exact hK
theorem sZ {s:Bytes} (hs:s.length<1000000000):aH 253 [.s s] (.s (mJ s)):=by
 have hf:=NL;have t1: ∀ _:True,((s.length:Int)+72)=((s.length+72:Nat):Int):=fun _=>oO
 have e1:List.drop s.length (zy (s.length+72))=zy 72:=by
  unfold zy;rw[List.drop_replicate,Nat.add_sub_cancel_left]
 have e2:List.take s.length (s++zy 72)=s:=List.take_left' rfl;have e3:s.length<=(s++zy 72).length:=by simp
 have k1:(wl pK).length=8:=rfl;have k2:(aF .u32 pK).length=8:=rfl;have k3:List.take 8 (aF .u32 pK)=aF .u32 pK:=cQ (by rw[bH];decide)
 have k4:List.drop 8 (aF .u32 pK)=[]:=gG (by rw[bH];decide)
 refine eW call253 func253 ?_;refine dh (aN (t1 oT) (aN @mk0 (aN @po (aN @oe (aN @UG (aN @kW (aN @MV (aN @IH (aN @e1 @e2))))))))) ?_;refine ah (α:=Nat) (fun c=>64-c) (fun c=>⟨[(0, .v (.s s)),(3, .rs 1006 (1+c) 0 (s.length+1+c) 1)],[(1006,⟨1+c,aM (s++128::zy c),true,none⟩)],1015⟩) (fun c=>c<=(119-s.length%64)%64) 0 (fun _=>aA _) (aD _) ?_ ?_
 ·(refine AS.Le.of (by first|decide|omega) ?_ ?_<;>simp[cU,cT,aO,az,AV.bd,AV.bd.bdL,u8,aj,ak,an])
  all_goals rfl
 ·intro c hc R hR;have hl:(s++128::zy c).length=s.length+1+c:=by simp[IH];omega
  have hT:List.take (s.length+1+c) (s++128::zy c)=s++128::zy c:=by rw[<-hl];exact bm
  have hz:s++128::zy c++[0]=s++128::zy (c+1):=by
   rw[eg];congr 1;unfold zy;rw[Ew];rfl
  by_cases hlt:c=(119-s.length%64)%64
  ·have h5: ∀ _:True,(((s.length+1+c)%64:Nat):Int)=56:=fun _=>oO
   have w1: ∀ _:True,IntKind.u64.wrap (s.length:Int)=(s.length:Int):=fun _=>by rw[BT];omega
   have w2: ∀ _:True,IntKind.u64.wrap ((s.length:Int)*8)=((s.length*8:Nat):Int):=fun _=>by rw[BT];omega
   clear hR;refine dw (aN @hl (aN @hT (aN @MU (aN @po (aN @oe (aN (h5 oT) (aN (w1 oT) (w2 oT)))))))) ?_;obtain⟨N,hN⟩: ∃N,N=s.length*8:=⟨_,rfl⟩;obtain⟨M0,hM0⟩: ∃M,M=s++128::zy c:=⟨_,rfl⟩;rw[<-hN,<-hM0];obtain⟨m0,hm0⟩: ∃m,m=s.length+1+c:=⟨_,rfl⟩;rw[<-hm0];have hL0:M0.length=m0:=by rw[hM0,hm0,hl]
   have hT0:List.take m0 M0=M0:=by rw[hm0,hM0,hT]
   obtain⟨v0,hv0⟩: ∃v,v=1+c:=⟨_,rfl⟩;rw[<-hv0];have hb1:m0<2000000000:=oO;clear hl hT hc h5 w1 w2;refine aq ?_;repeat' first|simp only[go_sem,seval,hL0,hT0,ui,po,oe]|refine oE ?_|apply xX<;>intro hc
   all_goals try refine⟨oO,?_⟩
   obtain⟨M1,hM1⟩: ∃x,x=M0++[UInt8.ofNat (N/72057594037927936)]:=⟨_,rfl⟩;obtain⟨m1,hm1⟩: ∃x,x=m0+1:=⟨_,rfl⟩;obtain⟨v1,hv1⟩: ∃x,x=v0+1:=⟨_,rfl⟩;rw[<-hM1,<-hm1,<-hv1];have hL1:M1.length=m1:=by rw[hM1,hm1,bR,hL0];rfl
   have hT1:List.take m1 M1=M1:=by rw[<-hL1];exact bm
   refine aq ?_;repeat' first|simp only[go_sem,seval,hL1,hT1,ui,po,oe]|refine oE ?_|apply xX<;>intro hc
   all_goals try refine⟨oO,?_⟩
   obtain⟨M2,hM2⟩: ∃x,x=M1++[UInt8.ofNat (N/281474976710656)]:=⟨_,rfl⟩;obtain⟨m2,hm2⟩: ∃x,x=m1+1:=⟨_,rfl⟩;obtain⟨v2,hv2⟩: ∃x,x=v1+1:=⟨_,rfl⟩;rw[<-hM2,<-hm2,<-hv2];have hL2:M2.length=m2:=by rw[hM2,hm2,bR,hL1];rfl
   have hT2:List.take m2 M2=M2:=by rw[<-hL2];exact bm
   refine aq ?_;repeat' first|simp only[go_sem,seval,hL2,hT2,ui,po,oe]|refine oE ?_|apply xX<;>intro hc
   all_goals try refine⟨oO,?_⟩
   obtain⟨M3,hM3⟩: ∃x,x=M2++[UInt8.ofNat (N/1099511627776)]:=⟨_,rfl⟩;obtain⟨m3,hm3⟩: ∃x,x=m2+1:=⟨_,rfl⟩;obtain⟨v3,hv3⟩: ∃x,x=v2+1:=⟨_,rfl⟩;rw[<-hM3,<-hm3,<-hv3];have hL3:M3.length=m3:=by rw[hM3,hm3,bR,hL2];rfl
   have hT3:List.take m3 M3=M3:=by rw[<-hL3];exact bm
   refine aq ?_;repeat' first|simp only[go_sem,seval,hL3,hT3,ui,po,oe]|refine oE ?_|apply xX<;>intro hc
   all_goals try refine⟨oO,?_⟩
   obtain⟨M4,hM4⟩: ∃x,x=M3++[UInt8.ofNat (N/4294967296)]:=⟨_,rfl⟩;obtain⟨m4,hm4⟩: ∃x,x=m3+1:=⟨_,rfl⟩;obtain⟨v4,hv4⟩: ∃x,x=v3+1:=⟨_,rfl⟩;rw[<-hM4,<-hm4,<-hv4];have hL4:M4.length=m4:=by rw[hM4,hm4,bR,hL3];rfl
   have hT4:List.take m4 M4=M4:=by rw[<-hL4];exact bm
   refine aq ?_;repeat' first|simp only[go_sem,seval,hL4,hT4,ui,po,oe]|refine oE ?_|apply xX<;>intro hc
   all_goals try refine⟨oO,?_⟩
   obtain⟨M5,hM5⟩: ∃x,x=M4++[UInt8.ofNat (N/16777216)]:=⟨_,rfl⟩;obtain⟨m5,hm5⟩: ∃x,x=m4+1:=⟨_,rfl⟩;obtain⟨v5,hv5⟩: ∃x,x=v4+1:=⟨_,rfl⟩;rw[<-hM5,<-hm5,<-hv5];have hL5:M5.length=m5:=by rw[hM5,hm5,bR,hL4];rfl
   have hT5:List.take m5 M5=M5:=by rw[<-hL5];exact bm
   refine aq ?_;repeat' first|simp only[go_sem,seval,hL5,hT5,ui,po,oe]|refine oE ?_|apply xX<;>intro hc
   all_goals try refine⟨oO,?_⟩
   obtain⟨M6,hM6⟩: ∃x,x=M5++[UInt8.ofNat (N/65536)]:=⟨_,rfl⟩;obtain⟨m6,hm6⟩: ∃x,x=m5+1:=⟨_,rfl⟩;obtain⟨v6,hv6⟩: ∃x,x=v5+1:=⟨_,rfl⟩;rw[<-hM6,<-hm6,<-hv6];have hL6:M6.length=m6:=by rw[hM6,hm6,bR,hL5];rfl
   have hT6:List.take m6 M6=M6:=by rw[<-hL6];exact bm
   refine aq ?_;repeat' first|simp only[go_sem,seval,hL6,hT6,ui,po,oe]|refine oE ?_|apply xX<;>intro hc
   all_goals try refine⟨oO,?_⟩
   obtain⟨M7,hM7⟩: ∃x,x=M6++[UInt8.ofNat (N/256)]:=⟨_,rfl⟩;obtain⟨m7,hm7⟩: ∃x,x=m6+1:=⟨_,rfl⟩;obtain⟨v7,hv7⟩: ∃x,x=v6+1:=⟨_,rfl⟩;rw[<-hM7,<-hm7,<-hv7];have hL7:M7.length=m7:=by rw[hM7,hm7,bR,hL6];rfl
   have hT7:List.take m7 M7=M7:=by rw[<-hL7];exact bm
   refine aq ?_;repeat' first|simp only[go_sem,seval,hL7,hT7,ui,po,oe]|refine oE ?_|apply xX<;>intro hc
   all_goals try refine⟨oO,?_⟩
   obtain⟨M8,hM8⟩: ∃x,x=M7++[UInt8.ofNat (N/1)]:=⟨_,rfl⟩;obtain⟨m8,hm8⟩: ∃x,x=m7+1:=⟨_,rfl⟩;obtain⟨v8,hv8⟩: ∃x,x=v7+1:=⟨_,rfl⟩;rw[<-hM8,<-hm8,<-hv8];have hL8:M8.length=m8:=by rw[hM8,hm8,bR,hL7];rfl
   have hT8:List.take m8 M8=M8:=by rw[<-hL8];exact bm
   have hP:M8=pad s:=by
    rw[hM8,hM7,hM6,hM5,hM4,hM3,hM2,hM1,hM0,hlt,hN,pad];simp only[be,zy,eg,List.cons_append,List.nil_append,Nat.reducePow,Nat.pow_zero,jx]
   clear hM8 hM7 hM6 hM5 hM4 hM3 hM2 hM1 hM0 hT0 hT1 hT2 hT3 hT4 hT5 hT6 hT7 hL0 hL1 hL2 hL3 hL4 hL5 hL6 hL7;subst hP;refine aq ?_;refine gR (aN @k1 (aN @k2 (aN @k3 (aN @k4 @QH)))) @hf ?_;clear hT8;obtain⟨l,hl⟩: ∃l,l=pad s:=⟨_,rfl⟩;have hm6:l.length=l.length/64*64:=by rw[hl];exact Pe s
   have hsum:mJ s=(o9 (l.length/64) l pK).flatMap XL:=by rw[hl];rfl
   rw[hsum];rw[<-hl]at hL8⊢;clear hsum hl hv1 hv2 hv3 hv4 hv5 hv6 hv7 hv8 hv0 hlt hN e1 e2 e3 t1;have hb8:m8<2000000008:=oO;have hm8:m8=m8/64*64:=oO;clear hb1 hm0 hm1 hm2 hm3 hm4 hm5 hm6 hm7;rw[hL8];refine ah (α:=Nat×Nat×List Nat) (fun p=>p.2.1) (fun p=>⟨[(3, .rs 1006 v8 p.1 p.2.1 1),(6, .p 1132 0 0)],[(1006,⟨v8,aM l,true,none⟩),(1132,⟨0,aF .u32 p.2.2,false,some 348⟩)],_⟩) (fun p=>p.1+p.2.1=m8/\p.2.1=p.2.1/64*64/\p.2.2.length=8/\o9 (p.2.1/64) (l.drop p.1) p.2.2=o9 (m8/64) l pK) (0,m8,pK) (fun _=>aA _) ⟨eX _,hm8,rfl,rfl⟩ ?_ ?_
   ·exact lE
   ·rintro⟨o,r,st⟩ ⟨ho,hr,hst,he⟩ R hR;have ho:o+r=m8:=ho;have hr:r=r/64*64:=hr;have hst:st.length=8:=hst;have he:o9 (r/64) (l.drop o) st=o9 (m8/64) l pK:=he;have q1:(aF .u32 st).length=8:=by rw[bH,hst]
    have q2:List.take 8 (aF .u32 st)=aF .u32 st:=cQ oO;rcases kH (r/64)with h0|h0
    ·have hr0:r=0:=oO;subst hr0;have he:st=o9 (m8/64) l pK:=by rw[<-he];rfl
     rw[<-he];clear hR he h0 hr;obtain⟨a,b,c,d,e,f,g,i,rfl⟩:=YQ hst;have w8:wl [a,b,c,d,e,f,g,i]=[.i .u32 (a:Int), .i .u32 (b:Int), .i .u32 (c:Int), .i .u32 (d:Int), .i .u32 (e:Int), .i .u32 (f:Int), .i .u32 (g:Int), .i .u32 (i:Int)]:=rfl;refine dw (aN @q1 (aN @q2 (aN @ko @k1))) ?_;rw[w8];refine aq ?_;refine dh (aN @An @qx) ?_;refine aq ?_;refine dh (aN @An @qx) ?_;refine aq ?_;refine dh (aN @An @qx) ?_;refine aq ?_;refine dh (aN @An @qx) ?_;refine aq ?_;refine dh (aN @An @qx) ?_;refine aq ?_;refine dh (aN @An @qx) ?_;refine aq ?_;refine dh (aN @An @qx) ?_;refine aq ?_;refine dh (aN @An @qx) ?_;refine aq ?_;exact fz (aN @An @qx)
    ·obtain⟨r',rfl⟩: ∃r',r=r'+64:=⟨r-64,oO⟩;have f1:o+64+r'=m8:=oO;have f2:r'=r'/64*64:=oO;have hgo:=hR (o+64,r',sL st ((l.drop o).take 64)) ⟨f1,f2,pJ _ hst,by
      rw[show(r'+64)/64=r'/64+1 by omega,o9,yL]at he
      rw[iM o 64];rw[iM o 64]at he;exact he⟩ (by simp)
     have hblk:((l.drop o).take 64).length=64:=by rw[bQ,mc];omega
     have ha:=Mt hst hblk;have q3:(wl (sL st ((l.drop o).take 64))).length=8:=by rw[rv,pJ _ hst]
     have q4:List.drop 8 (aF .u32 st)=[]:=gG oO;have hfl:=SA (sL st ((l.drop o).take 64));clear hR he h0;repeat' first|simp only[go_sem,seval,q1,q2,q3,q4,ko,QH]|(refine Vt (gr:=true) (el:=none) (ver:=v8) (l:=l) ha hfl (by simp[az]) oO ?_)|refine oE ?_|apply xX<;>intro hc
     refine⟨by rw[bH];exact pJ _ hst,rfl,oO,hgo _ ?_⟩
     (refine AS.Le.of (by first|decide|omega) ?_ ?_<;>simp[cU,cT,aO,az,AV.bd,AV.bd.bdL,u8,aj,ak,an])
     all_goals first|omega|skip
  ·have h5: ∀ _:True,¬(((s.length+1+c)%64:Nat):Int)=56:=fun _=>oO
   have hgo:=hR (c+1) oO oO;clear hR;refine dw (aN @hl (aN @hT (aN @MU (aN @po (aN @oe (aN @hz (h5 oT))))))) ?_;refine hgo _ ?_
   (refine AS.Le.of (by first|decide|omega) ?_ ?_<;>simp[cU,cT,aO,az,AV.bd,AV.bd.bdL,u8,aj,ak,an])
   all_goals first|omega|skip
def BI:Nat->Nat->Bytes
 |0,_=>[]
 |k+1,n=>BI k (n/10)++[UInt8.ofNat (48+n%10)]
abbrev YZ:TypeId:=376
def z24:List AV:=List.replicate 24 (.v (.i .u8 0))
def GU:Bytes:=(List.range 100).flatMap fun n=>[UInt8.ofNat (48+n/10),UInt8.ofNat (48+n%10)]
def o24 (k n:Nat):aI:=⟨0,(AV.v (.i .u8 0)::((BI k n).map fun c=>AV.v (u8 c)))++List.replicate (23-k) (AV.v (.i .u8 0)),false,some YZ⟩
theorem w32 (n:Nat):IntKind.u32.wrap (n:Int)=((n%4294967296:Nat):Int):=by rw[IntKind.wrap_u32];omega
theorem w8 (n:Nat):IntKind.u8.wrap (n:Int)=((UInt8.ofNat n).toNat:Int):=by rw[sE];simp
theorem i2 (n:Nat):(n:Int)*2=((n*2:Nat):Int):=oO
theorem i1 (n:Nat):(n:Int)+1=((n+1:Nat):Int):=oO
theorem i48 (n:Nat):(48:Int)+n=((48+n:Nat):Int):=oO
theorem q2 (x:Nat):x%100*2%4294967296=x%100*2:=oO
theorem q3 (x:Nat):(x%100*2+1)%4294967296=x%100*2+1:=oO
theorem dtF: ∀n:Fin 100,GU.getD (n.val*2) 0=UInt8.ofNat (48+n.val/10)/\GU.getD (n.val*2+1) 0=UInt8.ofNat (48+n.val%10):=by decide+kernel
theorem dt1 (x:Nat):GU.getD (x%100*2+1) 0=UInt8.ofNat (48+x%10):=by
 have:=(dtF ⟨x%100,aV _ oC⟩).2;rw[this];congr 2;simp only;omega
theorem dt2 (x:Nat):GU.getD (x%100*2) 0=UInt8.ofNat (48+x/10%10):=by
 have:=(dtF ⟨x%100,aV _ oC⟩).1;rw[this];congr 2;simp only;omega
theorem acR:[48,48,48,49,48,50,48,51,48,52,48,53,48,54,48,55,48,56,48,57,49,48,49,49,49,50,49,51,49,52,49,53,49,54,49,55,49,56,49,57,50,48,50,49,50,50,50,51,50,52,50,53,50,54,50,55,50,56,50,57,51,48,51,49,51,50,51,51,51,52,51,53,51,54,51,55,51,56,51,57,52,48,52,49,52,50,52,51,52,52,52,53,52,54,52,55,52,56,52,57,53,48,53,49,53,50,53,51,53,52,53,53,53,54,53,55,53,56,53,57,54,48,54,49,54,50,54,51,54,52,54,53,54,54,54,55,54,56,54,57,55,48,55,49,55,50,55,51,55,52,55,53,55,54,55,55,55,56,55,57,56,48,56,49,56,50,56,51,56,52,56,53,56,54,56,55,56,56,56,57,57,48,57,49,57,50,57,51,57,52,57,53,57,54,57,55,57,56,57,57]=GU:=by decide+kernel
theorem aaL:GU.length=200:=by decide+kernel
theorem ZK {a b:AV} {l m:List AV} (h:a=b) (g:l=m):a::l=b::m:=by rw[h,g]
theorem dgE {a:Nat} (h:a=b):AV.v (.i .u8 ((UInt8.ofNat a).toNat:Int))=AV.v (.i .u8 ((UInt8.ofNat b).toNat:Int)):=by rw[h]
theorem dgA (h:x<100) (e:48+x/10=b):AV.v (.i .u8 ((GU.getD (x*2%4294967296) 0).toNat:Int))=AV.v (.i .u8 ((UInt8.ofNat b).toNat:Int)):=by
 have:=dt2 x;rw[bV h]at this;rw[bV (show x*2<4294967296 by omega),this,<-e];congr 5;omega
theorem dgB (h:x<100) (e:48+x%10=b):AV.v (.i .u8 ((GU.getD ((x*2%4294967296+1)%4294967296) 0).toNat:Int))=AV.v (.i .u8 ((UInt8.ofNat b).toNat:Int)):=by
 have:=dt1 x;rw[bV h]at this;rw[bV (show x*2<4294967296 by omega),bV (show x*2+1<4294967296 by omega),this,<-e]
theorem abq:z24=[.v (.i .u8 0), .v (.i .u8 0), .v (.i .u8 0), .v (.i .u8 0), .v (.i .u8 0), .v (.i .u8 0), .v (.i .u8 0), .v (.i .u8 0), .v (.i .u8 0), .v (.i .u8 0), .v (.i .u8 0), .v (.i .u8 0), .v (.i .u8 0), .v (.i .u8 0), .v (.i .u8 0), .v (.i .u8 0), .v (.i .u8 0), .v (.i .u8 0), .v (.i .u8 0), .v (.i .u8 0), .v (.i .u8 0), .v (.i .u8 0), .v (.i .u8 0), .v (.i .u8 0)]:=rfl
theorem fbA (hk:k=3\/k=4\/k=5\/k=6\/k=7\/k=8\/k=9\/k=10) (o nm u:Nat) (hu:u<10^k) (h32:u<4294967296):jS prog 358 nm [(o,⟨0,z24,false,some YZ⟩)] [.rs o 0 1 k 1, .v (.i .u64 (u:Int))] (.tup []) [(o,some (o24 k u))]:=by
 have h1:u%4294967296=u:=oO;refine jS.w mixed call358 func358 rfl (jq.1 _ _ _ (by cbv)) (jq.2 _ _ (by cbv)) (obs:=[⟨0,z24,false,some YZ⟩]) (args:=[.rs 0 0 1 k 1, .v (.i .u64 (u:Int))]) (fs:=[some (some (o24 k u))]) (j:=none) (nw:=none) (v:= .tup []) (ns:=[o]) (obsA:=[⟨0,z24,false,some YZ⟩]) rfl ?_ (by simp) (by simp) rfl (by simp[bA,aI.aR,AV.aR,AV.aR.renL,dq,z24]) (by simp[bA,AV.aR,AV.aR.renL,dq]) (by simp[AV.aR,AV.aR.renL]) (by rcases hk with rfl|rfl|rfl|rfl|rfl|rfl|rfl|rfl<;>simp[fh,outs,aI.aR,AV.aR,AV.aR.renL,aG,ie,o24,BI])
 rcases hk with rfl|rfl|rfl|rfl|rfl|rfl|rfl|rfl
 all_goals
  simp only[Nat.reducePow]at hu;simp only[go_sem,seval,abq];repeat' first|simp only[go_sem,seval,true_or,or_true,false_or,or_false,ar,gX,ey,gM,fp,fH,eA,nT,om,fO,gS,dE,aK,AV.aR,AV.aR.renL,aG,w32,w8,i2,i1,i48,h1,q2,q3,acR,aaL,dt1,dt2]|(refine aq ?_)|refine oE ?_|apply xX<;>intro hc
  all_goals first|decide|omega|skip
  all_goals (
   refine congrArg (fun l=>aI.mk 0 l false (some YZ)) ?_
   simp only[BI,mR,b8,cb,List.nil_append,List.cons_append,u8];repeat' (first|rfl|refine ZK ?_ ?_|fail)
   all_goals first|(refine dgE ?_;omega)|(refine dgA ?_ ?_<;>omega)|(refine dgB ?_ ?_<;>omega))
def cF (n:Nat):Bytes:=if n<10 then[UInt8.ofNat (48+n)]else[UInt8.ofNat (48+n/10),UInt8.ofNat (48+n%10)]
theorem dA (n:Nat):(cF n).length<=2:=by unfold cF;split<;>simp
theorem acm: ∀n:Fin 10,List.drop n.val (List.take (n.val+1) ([48,49,50,51,52,53,54,55,56,57,97,98,99,100,101,102,103,104,105,106,107,108,109,110,111,112,113,114,115,116,117,118,119,120,121,122]:Bytes))=cF n.val:=by decide+kernel
def acQ:Bytes:=(List.range 100).flatMap fun n=>[UInt8.ofNat (48+n/10),UInt8.ofNat (48+n%10)]
theorem acn: ∀n:Fin 100,10<=n.val->List.drop (n.val*2) (List.take (n.val*2+2) acQ)=cF n.val:=by decide+kernel
theorem Ql (n:Nat) (hn:n<100):aH 356 [.i .i64 (n:Int)] (.s (cF n)):=by
 by_cases h:n<10
 ·have hb:=acm ⟨n,h⟩;have t1: ∀ _:True,((n:Int)+1).toNat=n+1:=fun _=>oO
  have d1: ∀ _:True,((n:Int)<10)=True:=fun _=>by simp;omega
  refine eW call356 func356 ?_;repeat' first|simp only[go_sem,seval,t1 oT]|refine oE ?_|apply xX<;>intro hc
  all_goals first|omega|exact congrArg PV.s hb|skip
 ·have hb:=acn ⟨n,hn⟩ (by simpa using h)
  have t1: ∀ _:True,((n:Int)*2+2).toNat=n*2+2:=fun _=>oO
  have t2: ∀ _:True,((n:Int)*2).toNat=n*2:=fun _=>oO
  refine eW call356 func356 ?_;repeat' first|simp only[go_sem,seval,t1 oT,t2 oT]|refine oE ?_|apply xX<;>intro hc
  all_goals first|omega|exact congrArg PV.s hb|skip
theorem jf (n:Nat) (hn:n<100):aH 153 [.i .i64 (n:Int)] (.s (cF n)):=by
 have h:=Ql n hn;have hF:aH 317 [.i .i64 (n:Int), .i .i64 10] (.s (cF n)):=by
  refine eW call317 func317 ?_;exact z1 @h
 have hI:aH 248 [.i .i64 (n:Int)] (.s (cF n)):=by
  refine eW call248 func248 ?_;exact z1 @hF
 refine eW call153 func153 ?_;exact z1 @hI
theorem WW (L:Nat) (h:L<=64):aH 388 [E L] (E (Lib.l10 L)):=by
 unfold Lib.l10;refine eW call388 func388 ?_;repeat' first|simp only[go_sem,seval]|refine oE ?_|apply xX<;>intro hc
 all_goals (rw[J9 _ oC];first|rfl|(congr 1;omega))
theorem UC (b:Bool):aH 390 [.b b] (E (if b then 1 else 0)):=by
 cases b
 ·refine eW call390 func390 ?_;exact z0
 ·refine eW call390 func390 ?_;exact z0
theorem XN: ∀q:Fin 20,([.i .u64 1, .i .u64 10, .i .u64 100, .i .u64 1000, .i .u64 10000, .i .u64 100000, .i .u64 1000000, .i .u64 10000000, .i .u64 100000000, .i .u64 1000000000, .i .u64 10000000000, .i .u64 100000000000, .i .u64 1000000000000, .i .u64 10000000000000, .i .u64 100000000000000, .i .u64 1000000000000000, .i .u64 10000000000000000, .i .u64 100000000000000000, .i .u64 1000000000000000000, .i .u64 10000000000000000000]:List PV).getD q.val .fn0= .i .u64 (10^q.val:Nat):=by
 intro q;rcases q with⟨q,hq⟩
 rcases(by omega:q=0\/q=1\/q=2\/q=3\/q=4\/q=5\/q=6\/q=7\/q=8\/q=9\/q=10\/q=11\/q=12\/q=13\/q=14\/q=15\/q=16\/q=17\/q=18\/q=19)with rfl|rfl|rfl|rfl|rfl|rfl|rfl|rfl|rfl|rfl|rfl|rfl|rfl|rfl|rfl|rfl|rfl|rfl|rfl|rfl<;>rfl
theorem Tg (u:Nat) (h1:1<=u) (h2:u<(2^64)):aH 357 [.i .u64 (u:Int)] (E (Lib.nDigits u)):=by
 obtain⟨e1,e2⟩:=Lib.numDigits_eq u h1 h2;have hb:=Fa u h2;have hbl:Lib.bitLen u<=64:=by unfold Lib.bitLen;exact Lib.bitLen_le u 64 (aA _) h2
 have hl:=WW (Lib.bitLen u) hbl;have hp:=XN ⟨Lib.l10 (Lib.bitLen u),oO⟩;simp only at hp;have hp: ∀ _:True,_:=fun _=>hp
 have hp2:=dp (n:=10) oC e2
 by_cases hq:10^Lib.l10 (Lib.bitLen u)<=u
 ·rw[af hq]at e1;rw[<-e1];have hd: ∀ _:True,decide ((u:Int)>=((10^Lib.l10 (Lib.bitLen u):Nat):Int))=true:=fun _=>aQ (by exact_mod_cast hq)
  have hc2:=UC true;generalize Lib.l10 (Lib.bitLen u)=q at*;generalize 10^q=p at*;refine eW call357 func357 ?_;exact ry (aN (hp oT) (hd oT)) @hb @hl @hc2 oT
 ·rw[aa hq]at e1;rw[<-e1];have hd: ∀ _:True,decide ((u:Int)>=((10^Lib.l10 (Lib.bitLen u):Nat):Int))=false:=fun _=>aS (by intro h;exact hq (by exact_mod_cast h))
  have hc2:=UC false;generalize Lib.l10 (Lib.bitLen u)=q at*;generalize 10^q=p at*;refine eW call357 func357 ?_;exact ry (aN (hp oT) (hd oT)) @hb @hl @hc2 oT
theorem Nq (k n:Nat):(BI k n).length=k:=by
 induction k generalizing n with
 |zero=>rfl
 |succ k ih=>simp[BI,ih]
theorem Sm: ∀(k n:Nat),Lib.nDigits n=k->BI k n=Lib.decDigits n:=by
 intro k
 induction k with
 |zero=>intro n h;have:=Lib.nDigits_pos n;omega
 |succ k ih=>
  intro n h
  by_cases hn:n<10
  ·rw[Lib.nDigits_small hn]at h;obtain rfl:k=0:=oO;rw[Lib.decDigits_one hn];simp[BI,bV hn]
  ·rw[Lib.nDigits_big hn]at h;rw[BI,ih (n/10) oO]
   conv=>rhs;rw[Lib.decDigits,dif_neg hn]
theorem VB (n:Nat) (h1:100<=n) (h2:n<4294967296):aH 317 [.i .i64 (n:Int), .i .i64 10] (.s (Lib.decDigits n)):=by
 obtain⟨k,hk⟩: ∃k,Lib.nDigits n=k:=⟨_,rfl⟩;have hlt:=Lib.lt_pow_nDigits n;rw[<-Sm k n hk];have q: ∀j,10^j<=n->n<10^(j+1)->k=j+1:=fun j a b=>by rw[<-hk];exact Lib.nDigits_unique j n a b
 have hk8:k=3\/k=4\/k=5\/k=6\/k=7\/k=8\/k=9\/k=10:=by
  rcases(by omega:n<1000\/1000<=n/\n<10000\/10000<=n/\n<100000\/100000<=n/\n<1000000\/1000000<=n/\n<10000000\/10000000<=n/\n<100000000\/100000000<=n/\n<1000000000\/1000000000<=n/\n<10000000000)with g|g|g|g|g|g|g|g
  ·have:=q 2 oO oO;omega
  ·have:=q 3 oO oO;omega
  ·have:=q 4 oO oO;omega
  ·have:=q 5 oO oO;omega
  ·have:=q 6 oO oO;omega
  ·have:=q 7 oO oO;omega
  ·have:=q 8 oO oO;omega
  ·have:=q 9 oO oO;omega
 have hn:=Tg n oO oO;have hf:=fun nm=>fbA hk8 1009 nm n (by rw[<-hk];exact hlt) h2
 have hd:=Nq k n;rw[hk]at hn;clear q hlt;rcases hk8 with rfl|rfl|rfl|rfl|rfl|rfl|rfl|rfl
 all_goals
  refine eW call317 func317 ?_;repeat' first|simp only[go_sem,seval,<-abq,o24,BI,u8,mR,List.nil_append,List.cons_append]|refine cP hn ?_|(refine bK (hf _) (by simp[az]) ?_)|refine oE ?_|apply xX<;>intro hc
theorem Sn (n:Nat) (h:n<100):cF n=Lib.decDigits n:=by
 unfold cF
 by_cases g:n<10
 ·rw[af g,Lib.decDigits_one g]
 ·rw[aa g,Lib.decDigits_two g h]
theorem Mf (n:Nat) (h2:n<4294967296):aH 153 [.i .i64 (n:Int)] (.s (Lib.decDigits n)):=by
 by_cases h:n<100
 ·rw[<-Sn n h];exact jf n h
 have hF:=VB n oO h2;have hI:aH 248 [.i .i64 (n:Int)] (.s (Lib.decDigits n)):=by
  refine eW call248 func248 ?_;exact z1 @hF
 refine eW call153 func153 ?_;exact z1 @hI
