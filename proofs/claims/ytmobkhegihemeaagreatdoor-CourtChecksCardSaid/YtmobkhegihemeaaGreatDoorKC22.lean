/-
  Part of the proof, part KC22. Own work.
-/
import Derived.Test.YtmobkhegihemeaaGreatDoorKC21
set_option linter.all false
namespace Go.Proofs.YtmobkhegihemeaaGreatDoor
open Go Go.Dom
set_option maxRecDepth 100000
set_option maxHeartbeats 16000000
def zy (n:Nat):Bytes:=List.replicate n 0
theorem LG (n:Nat):(zy n).length=n:=ux
theorem Xn (n:Nat):(List.replicate n [AV.v (.i .u8 0)]).flatten=aC (zy n):=by
 unfold zy
 induction n with
 |zero=>rfl
 |succ n ih=>rw[List.replicate_succ,List.flatten_cons,ih,List.replicate_succ];rfl
theorem Dn (l:Bytes):(aC l).all AV.one=true:=by
 unfold aC
 induction l with
 |nil=>rfl
 |cons c l ih=>rw[ba,List.all_cons,ih];rfl
theorem mE (l:Bytes) (n:Nat):List.drop n (aC l)=aC (l.drop n):=by unfold aC;exact(qZ ..).symm
theorem lA (l:Bytes) (n:Nat):List.take n (aC l)=aC (l.take n):=by unfold aC;exact(ua ..).symm
theorem qd (l:Bytes) (n:Nat):aC l++[AV.v (.i .u8 (IntKind.u8.wrap (n:Int)))]=aC (l++[UInt8.ofNat n]):=by
 rw[←jj];congr 1
theorem I1 (l:Bytes):aC l++[AV.v (.i .u8 0)]=aC (l++[0]):=by rw[←jj];rfl
theorem I2 (l:Bytes):aC l++[AV.v (.i .u8 128)]=aC (l++[128]):=by rw[←jj];rfl
theorem H4 {hf:Nat→Option ax} {f n ver o m:Nat} {l:Bytes} {gr:Bool} {el:Option TypeId} (hm:o+m≤l.length) (h:hf n=some ⟨ver,aC l,gr,el⟩):
  view hf (f+2) (.rs n ver o m 1)=some (.sl (((l.drop o).take m).map u8)):=by
 have h1:aQ (view hf (f+1)) (aC ((l.drop o).take m))=some (((l.drop o).take m).map u8):=by
  have:=eF hf f (((l.drop o).take m).map u8);rw[jE]at this;exact this
 have h2:(aC ((l.drop o).take m)).all AV.one=true:=Dn _;have h3:chunk 1 m (((l.drop o).take m).map u8)=((l.drop o).take m).map u8:=by
  have:=mU (((l.drop o).take m).map u8)
  rwa[aH,cG,nF,oO (by omega)]at this
 simp only[view,h,mE,lA,kO,dP,h1,h2,h3,hm,Option.map_some];simp
theorem Ey {hf:Nat→Option ax} {f n ver o m:Nat} {l:Bytes} {gr:Bool} {el:Option TypeId} (h:hf n=some ⟨ver,aC l,gr,el⟩):
  aN hf (f+2) (.rs n ver o m 1)=[n]:=by
 have h1: ∀l:Bytes,(aC l).flatMap (aN hf (f+1))=[]:=fun l=>by
  unfold aC
  induction l with
  |nil=>rfl
  |cons x r ih=>simp_all[aN]
 simp only[aN,h,mE,lA,h1]
theorem qe (n:Nat):AV.byte (.v (.i .u8 (IntKind.u8.wrap (n:Int))))=UInt8.ofNat n:=by
 simp[AV.byte,PV.byte,uI];apply UInt8.toNat.inj;simp;omega
theorem zH (n:Nat):AV.isByte (.v (.i .u8 (IntKind.u8.wrap (n:Int))))=True:=by
 simp[AV.isByte,PV.isByte,uI]
theorem Nf (l:List Nat):(PV.agg (wl l)).flat=true:=by
 unfold wl
 induction l with
 |nil=>rfl
 |cons x l ih=>simp_all[PV.flat,PV.flat.flatL]
theorem PQ {P:Program} [bT P] {Q:AX→AS→Prop} {nx:Nat} {bf:Option (List Nat)} {nn:Nat} {d:Option Nat} {ops:List iK} {k:Nat} {s:AS} {tr:List (Nat×List Nat×List Nat)} {K:List Fr} {nm:Nat} {f:FuncId} {n ver o m:Nat} {l:Bytes} {gr:Bool} {el:Option TypeId} {x r:PV}
  (he:aD P f [x, .sl (((l.drop o).take m).map u8)] r) (hr:r.flat=true) (hg:ar s.h n=some ⟨ver,aC l,gr,el⟩) (hm:o+m≤l.length) (hK:RW P Q nx bf nn ops (k+1) (s.sM d (.v r) []) (yY bf k [n] [] tr) K):
  CR P Q nx bf nn nm (.v (.fn (.func f))) [.v x, .rs n ver o m 1] d ops k s tr K:=by
 refine tJ he ?_ hr ?_
 ·simp[aQ,H4 hm hg];rfl
 ·have:[AV.v x,AV.rs n ver o m 1].flatMap (aN (ar s.h) 9)=[n]:=by simp[Ey hg];rfl
  rw[this];exact hK
theorem rK {s:Bytes} (hs:s.length<1000000000):aD Tryz.prog 335 [.s s] (.s (mP s)):=by
 have hf:=Jy;have t1: ∀ _:True,((s.length:Int)+72)=((s.length+72:Nat):Int):=fun _=>by omega
 have e1:List.drop s.length (zy (s.length+72))=zy 72:=by
  unfold zy;rw[List.drop_replicate,Nat.add_sub_cancel_left]
 have e2:List.take s.length (s++zy 72)=s:=List.take_left' rfl;have e3:s.length≤(s++zy 72).length:=by simp
 have k1:(wl qN).length=8:=rfl;have k2:(aB .u32 qN).length=8:=rfl;have k3:List.take 8 (aB .u32 qN)=aB .u32 qN:=bM (by rw[aV];decide)
 have k4:List.drop 8 (aB .u32 qN)=[]:=gS (by rw[aV];decide)
 refine eW Tryz.call335 Tryz.func335 ?_;repeat' first|simp only[go_sem,seval,t1 trivial,Xn,mE,lA,O4,jj,I2,LG,e1,e2]|refine sB ?_|(first|apply pX|apply bX)<;>intro hc|refine⟨oD,?_⟩|exact oD|fail
 refine aj (α:=Nat) (fun c=>64-c) (fun c=>⟨[(0, .v (.s s)),(3, .rs 1006 (1+c) 0 (s.length+1+c) 1)],[(1006,⟨1+c,aC (s++128::zy c),true,none⟩)],1015⟩) (fun c=>c≤(119-s.length%64)%64) 0 (fun _=>au _) (aL _) ?_ ?_
 ·(refine AS.Le.of (by first|decide|omega) ?_ ?_<;>simp[cl,cj,aF,ar,AV.bd,AV.bd.bdL,u8,ah,ai,aq])
  all_goals rfl
 ·intro c hc R hR;have hl:(s++128::zy c).length=s.length+1+c:=by simp[LG];omega
  have hT:List.take (s.length+1+c) (s++128::zy c)=s++128::zy c:=by rw[←hl];exact cM
  have hz:s++128::zy c++[0]=s++128::zy (c+1):=by
   rw[gF];congr 1;unfold zy;rw[List.replicate_succ'];rfl
  by_cases hlt:c=(119-s.length%64)%64
  ·have h5: ∀ _:True,(((s.length+1+c)%64:Nat):Int)=56:=fun _=>by omega
   have w1: ∀ _:True,IntKind.u64.wrap (s.length:Int)=(s.length:Int):=fun _=>by rw[C5];omega
   have w2: ∀ _:True,IntKind.u64.wrap ((s.length:Int)*8)=((s.length*8:Nat):Int):=fun _=>by rw[C5];omega
   clear hR;repeat' first|simp only[go_sem,seval,hl,hT,I1,mE,lA,h5 trivial,w1 trivial,w2 trivial]|refine sB ?_|(first|apply pX|apply bX)<;>intro hc|refine⟨oD,?_⟩|exact oD|fail
   obtain⟨N,hN⟩: ∃N,N=s.length*8:=⟨_,rfl⟩;obtain⟨M0,hM0⟩: ∃M,M=s++128::zy c:=⟨_,rfl⟩;rw[←hN,←hM0];obtain⟨m0,hm0⟩: ∃m,m=s.length+1+c:=⟨_,rfl⟩;rw[←hm0];have hL0:M0.length=m0:=by rw[hM0,hm0,hl]
   have hT0:List.take m0 M0=M0:=by rw[hm0,hM0,hT]
   obtain⟨v0,hv0⟩: ∃v,v=1+c:=⟨_,rfl⟩;rw[←hv0];have hb1:m0<2000000000:=by omega
   clear hl hT hc h5 w1 w2;refine ae ?_;repeat' first|simp only[go_sem,seval,hL0,hT0,qd,mE,lA]|refine sB ?_|(first|apply pX|apply bX)<;>intro hc|refine⟨oD,?_⟩|exact oD|fail
   all_goals try refine⟨by omega,?_⟩
   obtain⟨M1,hM1⟩: ∃x,x=M0++[UInt8.ofNat (N/72057594037927936)]:=⟨_,rfl⟩;obtain⟨m1,hm1⟩: ∃x,x=m0+1:=⟨_,rfl⟩;obtain⟨v1,hv1⟩: ∃x,x=v0+1:=⟨_,rfl⟩;rw[←hM1,←hm1,←hv1];have hL1:M1.length=m1:=by rw[hM1,hm1,bC,hL0];rfl
   have hT1:List.take m1 M1=M1:=by rw[←hL1];exact cM
   refine ae ?_;repeat' first|simp only[go_sem,seval,hL1,hT1,qd,mE,lA]|refine sB ?_|(first|apply pX|apply bX)<;>intro hc|refine⟨oD,?_⟩|exact oD|fail
   all_goals try refine⟨by omega,?_⟩
   obtain⟨M2,hM2⟩: ∃x,x=M1++[UInt8.ofNat (N/281474976710656)]:=⟨_,rfl⟩;obtain⟨m2,hm2⟩: ∃x,x=m1+1:=⟨_,rfl⟩;obtain⟨v2,hv2⟩: ∃x,x=v1+1:=⟨_,rfl⟩;rw[←hM2,←hm2,←hv2];have hL2:M2.length=m2:=by rw[hM2,hm2,bC,hL1];rfl
   have hT2:List.take m2 M2=M2:=by rw[←hL2];exact cM
   refine ae ?_;repeat' first|simp only[go_sem,seval,hL2,hT2,qd,mE,lA]|refine sB ?_|(first|apply pX|apply bX)<;>intro hc|refine⟨oD,?_⟩|exact oD|fail
   all_goals try refine⟨by omega,?_⟩
   obtain⟨M3,hM3⟩: ∃x,x=M2++[UInt8.ofNat (N/1099511627776)]:=⟨_,rfl⟩;obtain⟨m3,hm3⟩: ∃x,x=m2+1:=⟨_,rfl⟩;obtain⟨v3,hv3⟩: ∃x,x=v2+1:=⟨_,rfl⟩;rw[←hM3,←hm3,←hv3];have hL3:M3.length=m3:=by rw[hM3,hm3,bC,hL2];rfl
   have hT3:List.take m3 M3=M3:=by rw[←hL3];exact cM
   refine ae ?_;repeat' first|simp only[go_sem,seval,hL3,hT3,qd,mE,lA]|refine sB ?_|(first|apply pX|apply bX)<;>intro hc|refine⟨oD,?_⟩|exact oD|fail
   all_goals try refine⟨by omega,?_⟩
   obtain⟨M4,hM4⟩: ∃x,x=M3++[UInt8.ofNat (N/4294967296)]:=⟨_,rfl⟩;obtain⟨m4,hm4⟩: ∃x,x=m3+1:=⟨_,rfl⟩;obtain⟨v4,hv4⟩: ∃x,x=v3+1:=⟨_,rfl⟩;rw[←hM4,←hm4,←hv4];have hL4:M4.length=m4:=by rw[hM4,hm4,bC,hL3];rfl
   have hT4:List.take m4 M4=M4:=by rw[←hL4];exact cM
   refine ae ?_;repeat' first|simp only[go_sem,seval,hL4,hT4,qd,mE,lA]|refine sB ?_|(first|apply pX|apply bX)<;>intro hc|refine⟨oD,?_⟩|exact oD|fail
   all_goals try refine⟨by omega,?_⟩
   obtain⟨M5,hM5⟩: ∃x,x=M4++[UInt8.ofNat (N/16777216)]:=⟨_,rfl⟩;obtain⟨m5,hm5⟩: ∃x,x=m4+1:=⟨_,rfl⟩;obtain⟨v5,hv5⟩: ∃x,x=v4+1:=⟨_,rfl⟩;rw[←hM5,←hm5,←hv5];have hL5:M5.length=m5:=by rw[hM5,hm5,bC,hL4];rfl
   have hT5:List.take m5 M5=M5:=by rw[←hL5];exact cM
   refine ae ?_;repeat' first|simp only[go_sem,seval,hL5,hT5,qd,mE,lA]|refine sB ?_|(first|apply pX|apply bX)<;>intro hc|refine⟨oD,?_⟩|exact oD|fail
   all_goals try refine⟨by omega,?_⟩
   obtain⟨M6,hM6⟩: ∃x,x=M5++[UInt8.ofNat (N/65536)]:=⟨_,rfl⟩;obtain⟨m6,hm6⟩: ∃x,x=m5+1:=⟨_,rfl⟩;obtain⟨v6,hv6⟩: ∃x,x=v5+1:=⟨_,rfl⟩;rw[←hM6,←hm6,←hv6];have hL6:M6.length=m6:=by rw[hM6,hm6,bC,hL5];rfl
   have hT6:List.take m6 M6=M6:=by rw[←hL6];exact cM
   refine ae ?_;repeat' first|simp only[go_sem,seval,hL6,hT6,qd,mE,lA]|refine sB ?_|(first|apply pX|apply bX)<;>intro hc|refine⟨oD,?_⟩|exact oD|fail
   all_goals try refine⟨by omega,?_⟩
   obtain⟨M7,hM7⟩: ∃x,x=M6++[UInt8.ofNat (N/256)]:=⟨_,rfl⟩;obtain⟨m7,hm7⟩: ∃x,x=m6+1:=⟨_,rfl⟩;obtain⟨v7,hv7⟩: ∃x,x=v6+1:=⟨_,rfl⟩;rw[←hM7,←hm7,←hv7];have hL7:M7.length=m7:=by rw[hM7,hm7,bC,hL6];rfl
   have hT7:List.take m7 M7=M7:=by rw[←hL7];exact cM
   refine ae ?_;repeat' first|simp only[go_sem,seval,hL7,hT7,qd,mE,lA]|refine sB ?_|(first|apply pX|apply bX)<;>intro hc|refine⟨oD,?_⟩|exact oD|fail
   all_goals try refine⟨by omega,?_⟩
   obtain⟨M8,hM8⟩: ∃x,x=M7++[UInt8.ofNat (N/1)]:=⟨_,rfl⟩;obtain⟨m8,hm8⟩: ∃x,x=m7+1:=⟨_,rfl⟩;obtain⟨v8,hv8⟩: ∃x,x=v7+1:=⟨_,rfl⟩;rw[←hM8,←hm8,←hv8];have hL8:M8.length=m8:=by rw[hM8,hm8,bC,hL7];rfl
   have hT8:List.take m8 M8=M8:=by rw[←hL8];exact cM
   have hP:M8=pad s:=by
    rw[hM8,hM7,hM6,hM5,hM4,hM3,hM2,hM1,hM0,hlt,hN,pad];simp only[be,zy,gF,List.cons_append,List.nil_append,Nat.reducePow,Nat.pow_zero,iY]
   clear hM8 hM7 hM6 hM5 hM4 hM3 hM2 hM1 hM0 hT0 hT1 hT2 hT3 hT4 hT5 hT6 hT7 hL0 hL1 hL2 hL3 hL4 hL5 hL6 hL7;subst hP;refine ae ?_;repeat' first|simp only[go_sem,seval,k1,k2,k3,k4,OU]|refine cP hf ?_|refine sB ?_|(first|apply pX|apply bX)<;>intro hc|refine⟨oD,?_⟩|exact oD|fail
   clear hT8;obtain⟨l,hl⟩: ∃l,l=pad s:=⟨_,rfl⟩;have hm6:l.length=l.length/64*64:=by rw[hl];exact RT s
   have hsum:mP s=(xh (l.length/64) l qN).flatMap TV:=by rw[hl];rfl
   rw[hsum];rw[←hl]at hL8⊢;clear hsum hl hv1 hv2 hv3 hv4 hv5 hv6 hv7 hv8 hv0 hlt hN e1 e2 e3 t1;have hb8:m8<2000000008:=by omega
   have hm8:m8=m8/64*64:=by omega
   clear hb1 hm0 hm1 hm2 hm3 hm4 hm5 hm6 hm7;rw[hL8];refine aj (α:=Nat×Nat×List Nat) (fun p=>p.2.1) (fun p=>⟨[(3, .rs 1006 v8 p.1 p.2.1 1),(6, .p 1132 0 0)],[(1006,⟨v8,aC l,true,none⟩),(1132,⟨0,aB .u32 p.2.2,false,some 393⟩)],_⟩) (fun p=>p.1+p.2.1=m8∧p.2.1=p.2.1/64*64∧p.2.2.length=8∧xh (p.2.1/64) (l.drop p.1) p.2.2=xh (m8/64) l qN) (0,m8,qN) (fun _=>au _) ⟨cW _,hm8,rfl,rfl⟩ ?_ ?_
   ·exact lE
   ·rintro⟨o,r,st⟩ ⟨ho,hr,hst,he⟩ R hR;have ho:o+r=m8:=ho;have hr:r=r/64*64:=hr;have hst:st.length=8:=hst;have he:xh (r/64) (l.drop o) st=xh (m8/64) l qN:=he;have q1:(aB .u32 st).length=8:=by rw[aV,hst]
    have q2:List.take 8 (aB .u32 st)=aB .u32 st:=bM (by omega)
    rcases jR (r/64)with h0|h0
    ·have hr0:r=0:=by omega
     subst hr0;have he:st=xh (m8/64) l qN:=by rw[←he];rfl
     rw[←he];clear hR he h0 hr;obtain⟨a,b,c,d,e,f,g,i,rfl⟩:=Vt hst;have w8:wl [a,b,c,d,e,f,g,i]=[.i .u32 (a:Int), .i .u32 (b:Int), .i .u32 (c:Int), .i .u32 (d:Int), .i .u32 (e:Int), .i .u32 (f:Int), .i .u32 (g:Int), .i .u32 (i:Int)]:=rfl;repeat' first|simp only[go_sem,seval,q1,q2,lJ,k1]|refine sB ?_|(first|apply pX|apply bX)<;>intro hc|refine⟨oD,?_⟩|exact oD|fail
     rw[w8];refine ae ?_;repeat' first|simp only[go_sem,seval,zH,qe]|refine sB ?_|(first|apply pX|apply bX)<;>intro hc|refine⟨oD,?_⟩|exact oD|fail
     refine ae ?_;repeat' first|simp only[go_sem,seval,zH,qe]|refine sB ?_|(first|apply pX|apply bX)<;>intro hc|refine⟨oD,?_⟩|exact oD|fail
     refine ae ?_;repeat' first|simp only[go_sem,seval,zH,qe]|refine sB ?_|(first|apply pX|apply bX)<;>intro hc|refine⟨oD,?_⟩|exact oD|fail
     refine ae ?_;repeat' first|simp only[go_sem,seval,zH,qe]|refine sB ?_|(first|apply pX|apply bX)<;>intro hc|refine⟨oD,?_⟩|exact oD|fail
     refine ae ?_;repeat' first|simp only[go_sem,seval,zH,qe]|refine sB ?_|(first|apply pX|apply bX)<;>intro hc|refine⟨oD,?_⟩|exact oD|fail
     refine ae ?_;repeat' first|simp only[go_sem,seval,zH,qe]|refine sB ?_|(first|apply pX|apply bX)<;>intro hc|refine⟨oD,?_⟩|exact oD|fail
     refine ae ?_;repeat' first|simp only[go_sem,seval,zH,qe]|refine sB ?_|(first|apply pX|apply bX)<;>intro hc|refine⟨oD,?_⟩|exact oD|fail
     refine ae ?_;repeat' first|simp only[go_sem,seval,zH,qe]|refine sB ?_|(first|apply pX|apply bX)<;>intro hc|refine⟨oD,?_⟩|exact oD|fail
     refine ae ?_;repeat' first|simp only[go_sem,seval,zH,qe]|refine sB ?_|(first|apply pX|apply bX)<;>intro hc|refine⟨oD,?_⟩|exact oD|fail
     all_goals rfl
    ·obtain⟨r',rfl⟩: ∃r',r=r'+64:=⟨r-64,by omega⟩
     have f1:o+64+r'=m8:=by omega
     have f2:r'=r'/64*64:=by omega
     have hgo:=hR (o+64,r',Ae st ((l.drop o).take 64)) ⟨f1,f2,qM _ hst,by
      rw[show(r'+64)/64=r'/64+1 by omega,xh,List.drop_drop]at he
      rw[fP o 64];rw[fP o 64]at he;exact he⟩ (by simp)
     have hblk:((l.drop o).take 64).length=64:=by rw[cG,nF];omega
     have ha:=Iw hst hblk;have q3:(wl (Ae st ((l.drop o).take 64))).length=8:=by rw[Ap,qM _ hst]
     have q4:List.drop 8 (aB .u32 st)=[]:=gS (by omega)
     have hfl:=Nf (Ae st ((l.drop o).take 64));clear hR he h0;repeat' first|simp only[go_sem,seval,q1,q2,q3,q4,lJ,OU]|(refine PQ (gr:=true) (el:=none) (ver:=v8) (l:=l) ha hfl (by simp[ar]) (by omega) ?_)|refine sB ?_|(first|apply pX|apply bX)<;>intro hc|refine⟨oD,?_⟩|exact oD|fail
     refine⟨by rw[aV];exact qM _ hst,rfl,by omega,hgo _ ?_⟩
     (refine AS.Le.of (by first|decide|omega) ?_ ?_<;>simp[cl,cj,aF,ar,AV.bd,AV.bd.bdL,u8,ah,ai,aq])
     all_goals first|omega|skip
  ·have h5: ∀ _:True,¬(((s.length+1+c)%64:Nat):Int)=56:=fun _=>by omega
   have hgo:=hR (c+1) (by omega) (by omega)
   clear hR;repeat' first|simp only[go_sem,seval,hl,hT,I1,mE,lA,hz,h5 trivial]|refine sB ?_|(first|apply pX|apply bX)<;>intro hc|refine⟨oD,?_⟩|exact oD|fail
   refine hgo _ ?_
   (refine AS.Le.of (by first|decide|omega) ?_ ?_<;>simp[cl,cj,aF,ar,AV.bd,AV.bd.bdL,u8,ah,ai,aq])
   all_goals first|omega|skip
def il:Nat→Nat→Bytes
 |0,_=>[]
 |k+1,n=>il k (n/10)++[UInt8.ofNat (48+n%10)]
abbrev oW:TypeId:=374
def oX:List AV:=[.v (.i .u8 0), .v (.i .u8 0), .v (.i .u8 0), .v (.i .u8 0), .v (.i .u8 0), .v (.i .u8 0), .v (.i .u8 0), .v (.i .u8 0), .v (.i .u8 0), .v (.i .u8 0), .v (.i .u8 0), .v (.i .u8 0), .v (.i .u8 0), .v (.i .u8 0), .v (.i .u8 0), .v (.i .u8 0), .v (.i .u8 0), .v (.i .u8 0), .v (.i .u8 0), .v (.i .u8 0), .v (.i .u8 0), .v (.i .u8 0), .v (.i .u8 0), .v (.i .u8 0)]
def CO:Bytes:=[48,48,48,49,48,50,48,51,48,52,48,53,48,54,48,55,48,56,48,57,49,48,49,49,49,50,49,51,49,52,49,53,49,54,49,55,49,56,49,57,50,48,50,49,50,50,50,51,50,52,50,53,50,54,50,55,50,56,50,57,51,48,51,49,51,50,51,51,51,52,51,53,51,54,51,55,51,56,51,57,52,48,52,49,52,50,52,51,52,52,52,53,52,54,52,55,52,56,52,57,53,48,53,49,53,50,53,51,53,52,53,53,53,54,53,55,53,56,53,57,54,48,54,49,54,50,54,51,54,52,54,53,54,54,54,55,54,56,54,57,55,48,55,49,55,50,55,51,55,52,55,53,55,54,55,55,55,56,55,57,56,48,56,49,56,50,56,51,56,52,56,53,56,54,56,55,56,56,56,57,57,48,57,49,57,50,57,51,57,52,57,53,57,54,57,55,57,56,57,57]
def o8 (k n:Nat):ax:=⟨0,(AV.v (.i .u8 0)::((il k n).map fun c=>AV.v (u8 c)))++List.replicate (23-k) (AV.v (.i .u8 0)),false,some oW⟩
theorem PK (n:Nat):IntKind.u32.wrap (n:Int)=((n%4294967296:Nat):Int):=by rw[IntKind.wrap_u32];omega
theorem w8 (n:Nat):IntKind.u8.wrap (n:Int)=((UInt8.ofNat n).toNat:Int):=by rw[uI];simp
theorem i2 (n:Nat):(n:Int)*2=((n*2:Nat):Int):=by omega
theorem i1 (n:Nat):(n:Int)+1=((n+1:Nat):Int):=by omega
theorem i48 (n:Nat):(48:Int)+n=((48+n:Nat):Int):=by omega
theorem q2 (x:Nat):x%100*2%4294967296=x%100*2:=by omega
theorem q3 (x:Nat):(x%100*2+1)%4294967296=x%100*2+1:=by omega
theorem Wk: ∀n:Fin 100,CO.getD (n.val*2) 0=UInt8.ofNat (48+n.val/10)∧CO.getD (n.val*2+1) 0=UInt8.ofNat (48+n.val%10):=by decide+kernel
theorem MX (x:Nat):CO.getD (x%100*2+1) 0=UInt8.ofNat (48+x%10):=by
 have:=(Wk ⟨x%100,aG _ (by decide)⟩).2
 rw[this];congr 2;simp only;omega
theorem MY (x:Nat):CO.getD (x%100*2) 0=UInt8.ofNat (48+x/10%10):=by
 have:=(Wk ⟨x%100,aG _ (by decide)⟩).1
 rw[this];congr 2;simp only;omega
theorem CN:[48,48,48,49,48,50,48,51,48,52,48,53,48,54,48,55,48,56,48,57,49,48,49,49,49,50,49,51,49,52,49,53,49,54,49,55,49,56,49,57,50,48,50,49,50,50,50,51,50,52,50,53,50,54,50,55,50,56,50,57,51,48,51,49,51,50,51,51,51,52,51,53,51,54,51,55,51,56,51,57,52,48,52,49,52,50,52,51,52,52,52,53,52,54,52,55,52,56,52,57,53,48,53,49,53,50,53,51,53,52,53,53,53,54,53,55,53,56,53,57,54,48,54,49,54,50,54,51,54,52,54,53,54,54,54,55,54,56,54,57,55,48,55,49,55,50,55,51,55,52,55,53,55,54,55,55,55,56,55,57,56,48,56,49,56,50,56,51,56,52,56,53,56,54,56,55,56,56,56,57,57,48,57,49,57,50,57,51,57,52,57,53,57,54,57,55,57,56,57,57]=CO:=rfl
theorem tj:CO.length=200:=rfl
theorem sU {a b:AV} {l m:List AV} (h:a=b) (g:l=m):a::l=b::m:=by rw[h,g]
theorem Ph {a b:Nat} (h:a=b):AV.v (.i .u8 ((UInt8.ofNat a).toNat:Int))=AV.v (.i .u8 ((UInt8.ofNat b).toNat:Int)):=by rw[h]
theorem Pf {x b:Nat} (h:x<100) (e:48+x/10=b):AV.v (.i .u8 ((CO.getD (x*2%4294967296) 0).toNat:Int))=AV.v (.i .u8 ((UInt8.ofNat b).toNat:Int)):=by
 have:=MY x;rw[bA h]at this;rw[bA (show x*2<4294967296 by omega),this,←e];congr 5;omega
theorem Pg {x b:Nat} (h:x<100) (e:48+x%10=b):AV.v (.i .u8 ((CO.getD ((x*2%4294967296+1)%4294967296) 0).toNat:Int))=AV.v (.i .u8 ((UInt8.ofNat b).toNat:Int)):=by
 have:=MX x;rw[bA h]at this;rw[bA (show x*2<4294967296 by omega),bA (show x*2+1<4294967296 by omega),this,←e]
theorem oY:oX=[.v (.i .u8 0), .v (.i .u8 0), .v (.i .u8 0), .v (.i .u8 0), .v (.i .u8 0), .v (.i .u8 0), .v (.i .u8 0), .v (.i .u8 0), .v (.i .u8 0), .v (.i .u8 0), .v (.i .u8 0), .v (.i .u8 0), .v (.i .u8 0), .v (.i .u8 0), .v (.i .u8 0), .v (.i .u8 0), .v (.i .u8 0), .v (.i .u8 0), .v (.i .u8 0), .v (.i .u8 0), .v (.i .u8 0), .v (.i .u8 0), .v (.i .u8 0), .v (.i .u8 0)]:=rfl
theorem W0 (o nm u:Nat) (hu:u<1000):ik Tryz.prog 342 nm [(o,⟨0,oX,false,some oW⟩)] [.rs o 0 1 3 1, .v (.i .u64 (u:Int))] (.tup []) [(o,some (o8 3 u))]:=by
 have h1:u%4294967296=u:=by omega
 refine ik.w mixed Tryz.call342 Tryz.func342 rfl (iL.1 _ _ _ (by cbv)) (iL.2 _ _ (by cbv)) (obs:=[⟨0,oX,false,some oW⟩]) (args:=[.rs 0 0 1 3 1, .v (.i .u64 (u:Int))]) (fs:=[some (some (o8 3 u))]) (j:=none) (nw:=none) (v:= .tup []) (ns:=[o]) (obsA:=[⟨0,oX,false,some oW⟩]) rfl ?_ (by simp) (by simp) rfl (by simp[aQ,ax.aI,AV.aI,AV.aI.renL,cf,oX]) (by simp[aQ,AV.aI,AV.aI.renL,cf]) (by simp[AV.aI,AV.aI.renL]) (by simp[eH,outs,ax.aI,AV.aI,AV.aI.renL,aA,fV,o8,il])
 simp only[go_sem,seval,oY];repeat' first|simp only[go_sem,seval,true_or,or_true,false_or,or_false,af,fU,dH,fG,eY,eZ,dJ,mR,nM,ft,fK,cJ,aE,AV.aI,AV.aI.renL,aA,PK,w8,i2,i1,i48,h1,q2,q3,CN,tj,MX,MY]|(refine ae ?_)|refine sB ?_|(first|apply pX|apply bX)<;>intro hc|refine⟨oD,?_⟩|exact oD|fail
 all_goals first|decide|omega|skip
 all_goals (
  refine congrArg (fun l=>ax.mk 0 l false (some oW)) ?_
  simp only[il,eB,ba,bG,List.nil_append,List.cons_append,u8];repeat' (first|rfl|refine sU ?_ ?_|fail)
  all_goals first|(refine Ph ?_;omega)|(refine Pf ?_ ?_<;>omega)|(refine Pg ?_ ?_<;>omega))
theorem W5 (o nm u:Nat) (hu:u<10000):ik Tryz.prog 342 nm [(o,⟨0,oX,false,some oW⟩)] [.rs o 0 1 4 1, .v (.i .u64 (u:Int))] (.tup []) [(o,some (o8 4 u))]:=by
 have h1:u%4294967296=u:=by omega
 refine ik.w mixed Tryz.call342 Tryz.func342 rfl (iL.1 _ _ _ (by cbv)) (iL.2 _ _ (by cbv)) (obs:=[⟨0,oX,false,some oW⟩]) (args:=[.rs 0 0 1 4 1, .v (.i .u64 (u:Int))]) (fs:=[some (some (o8 4 u))]) (j:=none) (nw:=none) (v:= .tup []) (ns:=[o]) (obsA:=[⟨0,oX,false,some oW⟩]) rfl ?_ (by simp) (by simp) rfl (by simp[aQ,ax.aI,AV.aI,AV.aI.renL,cf,oX]) (by simp[aQ,AV.aI,AV.aI.renL,cf]) (by simp[AV.aI,AV.aI.renL]) (by simp[eH,outs,ax.aI,AV.aI,AV.aI.renL,aA,fV,o8,il])
 simp only[go_sem,seval,oY];repeat' first|simp only[go_sem,seval,true_or,or_true,false_or,or_false,af,fU,dH,fG,eY,eZ,dJ,mR,nM,ft,fK,cJ,aE,AV.aI,AV.aI.renL,aA,PK,w8,i2,i1,i48,h1,q2,q3,CN,tj,MX,MY]|(refine ae ?_)|refine sB ?_|(first|apply pX|apply bX)<;>intro hc|refine⟨oD,?_⟩|exact oD|fail
 all_goals first|decide|omega|skip
 all_goals (
  refine congrArg (fun l=>ax.mk 0 l false (some oW)) ?_
  simp only[il,eB,ba,bG,List.nil_append,List.cons_append,u8];repeat' (first|rfl|refine sU ?_ ?_|fail)
  all_goals first|(refine Ph ?_;omega)|(refine Pf ?_ ?_<;>omega)|(refine Pg ?_ ?_<;>omega))
theorem W6 (o nm u:Nat) (hu:u<100000):ik Tryz.prog 342 nm [(o,⟨0,oX,false,some oW⟩)] [.rs o 0 1 5 1, .v (.i .u64 (u:Int))] (.tup []) [(o,some (o8 5 u))]:=by
 have h1:u%4294967296=u:=by omega
 refine ik.w mixed Tryz.call342 Tryz.func342 rfl (iL.1 _ _ _ (by cbv)) (iL.2 _ _ (by cbv)) (obs:=[⟨0,oX,false,some oW⟩]) (args:=[.rs 0 0 1 5 1, .v (.i .u64 (u:Int))]) (fs:=[some (some (o8 5 u))]) (j:=none) (nw:=none) (v:= .tup []) (ns:=[o]) (obsA:=[⟨0,oX,false,some oW⟩]) rfl ?_ (by simp) (by simp) rfl (by simp[aQ,ax.aI,AV.aI,AV.aI.renL,cf,oX]) (by simp[aQ,AV.aI,AV.aI.renL,cf]) (by simp[AV.aI,AV.aI.renL]) (by simp[eH,outs,ax.aI,AV.aI,AV.aI.renL,aA,fV,o8,il])
 simp only[go_sem,seval,oY];repeat' first|simp only[go_sem,seval,true_or,or_true,false_or,or_false,af,fU,dH,fG,eY,eZ,dJ,mR,nM,ft,fK,cJ,aE,AV.aI,AV.aI.renL,aA,PK,w8,i2,i1,i48,h1,q2,q3,CN,tj,MX,MY]|(refine ae ?_)|refine sB ?_|(first|apply pX|apply bX)<;>intro hc|refine⟨oD,?_⟩|exact oD|fail
 all_goals first|decide|omega|skip
 all_goals (
  refine congrArg (fun l=>ax.mk 0 l false (some oW)) ?_
  simp only[il,eB,ba,bG,List.nil_append,List.cons_append,u8];repeat' (first|rfl|refine sU ?_ ?_|fail)
  all_goals first|(refine Ph ?_;omega)|(refine Pf ?_ ?_<;>omega)|(refine Pg ?_ ?_<;>omega))
theorem W7 (o nm u:Nat) (hu:u<1000000):ik Tryz.prog 342 nm [(o,⟨0,oX,false,some oW⟩)] [.rs o 0 1 6 1, .v (.i .u64 (u:Int))] (.tup []) [(o,some (o8 6 u))]:=by
 have h1:u%4294967296=u:=by omega
 refine ik.w mixed Tryz.call342 Tryz.func342 rfl (iL.1 _ _ _ (by cbv)) (iL.2 _ _ (by cbv)) (obs:=[⟨0,oX,false,some oW⟩]) (args:=[.rs 0 0 1 6 1, .v (.i .u64 (u:Int))]) (fs:=[some (some (o8 6 u))]) (j:=none) (nw:=none) (v:= .tup []) (ns:=[o]) (obsA:=[⟨0,oX,false,some oW⟩]) rfl ?_ (by simp) (by simp) rfl (by simp[aQ,ax.aI,AV.aI,AV.aI.renL,cf,oX]) (by simp[aQ,AV.aI,AV.aI.renL,cf]) (by simp[AV.aI,AV.aI.renL]) (by simp[eH,outs,ax.aI,AV.aI,AV.aI.renL,aA,fV,o8,il])
 simp only[go_sem,seval,oY];repeat' first|simp only[go_sem,seval,true_or,or_true,false_or,or_false,af,fU,dH,fG,eY,eZ,dJ,mR,nM,ft,fK,cJ,aE,AV.aI,AV.aI.renL,aA,PK,w8,i2,i1,i48,h1,q2,q3,CN,tj,MX,MY]|(refine ae ?_)|refine sB ?_|(first|apply pX|apply bX)<;>intro hc|refine⟨oD,?_⟩|exact oD|fail
 all_goals first|decide|omega|skip
 all_goals (
  refine congrArg (fun l=>ax.mk 0 l false (some oW)) ?_
  simp only[il,eB,ba,bG,List.nil_append,List.cons_append,u8];repeat' (first|rfl|refine sU ?_ ?_|fail)
  all_goals first|(refine Ph ?_;omega)|(refine Pf ?_ ?_<;>omega)|(refine Pg ?_ ?_<;>omega))
theorem W8 (o nm u:Nat) (hu:u<10000000):ik Tryz.prog 342 nm [(o,⟨0,oX,false,some oW⟩)] [.rs o 0 1 7 1, .v (.i .u64 (u:Int))] (.tup []) [(o,some (o8 7 u))]:=by
 have h1:u%4294967296=u:=by omega
 refine ik.w mixed Tryz.call342 Tryz.func342 rfl (iL.1 _ _ _ (by cbv)) (iL.2 _ _ (by cbv)) (obs:=[⟨0,oX,false,some oW⟩]) (args:=[.rs 0 0 1 7 1, .v (.i .u64 (u:Int))]) (fs:=[some (some (o8 7 u))]) (j:=none) (nw:=none) (v:= .tup []) (ns:=[o]) (obsA:=[⟨0,oX,false,some oW⟩]) rfl ?_ (by simp) (by simp) rfl (by simp[aQ,ax.aI,AV.aI,AV.aI.renL,cf,oX]) (by simp[aQ,AV.aI,AV.aI.renL,cf]) (by simp[AV.aI,AV.aI.renL]) (by simp[eH,outs,ax.aI,AV.aI,AV.aI.renL,aA,fV,o8,il])
 simp only[go_sem,seval,oY];repeat' first|simp only[go_sem,seval,true_or,or_true,false_or,or_false,af,fU,dH,fG,eY,eZ,dJ,mR,nM,ft,fK,cJ,aE,AV.aI,AV.aI.renL,aA,PK,w8,i2,i1,i48,h1,q2,q3,CN,tj,MX,MY]|(refine ae ?_)|refine sB ?_|(first|apply pX|apply bX)<;>intro hc|refine⟨oD,?_⟩|exact oD|fail
 all_goals first|decide|omega|skip
 all_goals (
  refine congrArg (fun l=>ax.mk 0 l false (some oW)) ?_
  simp only[il,eB,ba,bG,List.nil_append,List.cons_append,u8];repeat' (first|rfl|refine sU ?_ ?_|fail)
  all_goals first|(refine Ph ?_;omega)|(refine Pf ?_ ?_<;>omega)|(refine Pg ?_ ?_<;>omega))
theorem W9 (o nm u:Nat) (hu:u<100000000):ik Tryz.prog 342 nm [(o,⟨0,oX,false,some oW⟩)] [.rs o 0 1 8 1, .v (.i .u64 (u:Int))] (.tup []) [(o,some (o8 8 u))]:=by
 have h1:u%4294967296=u:=by omega
 refine ik.w mixed Tryz.call342 Tryz.func342 rfl (iL.1 _ _ _ (by cbv)) (iL.2 _ _ (by cbv)) (obs:=[⟨0,oX,false,some oW⟩]) (args:=[.rs 0 0 1 8 1, .v (.i .u64 (u:Int))]) (fs:=[some (some (o8 8 u))]) (j:=none) (nw:=none) (v:= .tup []) (ns:=[o]) (obsA:=[⟨0,oX,false,some oW⟩]) rfl ?_ (by simp) (by simp) rfl (by simp[aQ,ax.aI,AV.aI,AV.aI.renL,cf,oX]) (by simp[aQ,AV.aI,AV.aI.renL,cf]) (by simp[AV.aI,AV.aI.renL]) (by simp[eH,outs,ax.aI,AV.aI,AV.aI.renL,aA,fV,o8,il])
 simp only[go_sem,seval,oY];repeat' first|simp only[go_sem,seval,true_or,or_true,false_or,or_false,af,fU,dH,fG,eY,eZ,dJ,mR,nM,ft,fK,cJ,aE,AV.aI,AV.aI.renL,aA,PK,w8,i2,i1,i48,h1,q2,q3,CN,tj,MX,MY]|(refine ae ?_)|refine sB ?_|(first|apply pX|apply bX)<;>intro hc|refine⟨oD,?_⟩|exact oD|fail
 all_goals first|decide|omega|skip
 all_goals (
  refine congrArg (fun l=>ax.mk 0 l false (some oW)) ?_
  simp only[il,eB,ba,bG,List.nil_append,List.cons_append,u8];repeat' (first|rfl|refine sU ?_ ?_|fail)
  all_goals first|(refine Ph ?_;omega)|(refine Pf ?_ ?_<;>omega)|(refine Pg ?_ ?_<;>omega))
theorem Xa (o nm u:Nat) (hu:u<1000000000):ik Tryz.prog 342 nm [(o,⟨0,oX,false,some oW⟩)] [.rs o 0 1 9 1, .v (.i .u64 (u:Int))] (.tup []) [(o,some (o8 9 u))]:=by
 have h1:u%4294967296=u:=by omega
 refine ik.w mixed Tryz.call342 Tryz.func342 rfl (iL.1 _ _ _ (by cbv)) (iL.2 _ _ (by cbv)) (obs:=[⟨0,oX,false,some oW⟩]) (args:=[.rs 0 0 1 9 1, .v (.i .u64 (u:Int))]) (fs:=[some (some (o8 9 u))]) (j:=none) (nw:=none) (v:= .tup []) (ns:=[o]) (obsA:=[⟨0,oX,false,some oW⟩]) rfl ?_ (by simp) (by simp) rfl (by simp[aQ,ax.aI,AV.aI,AV.aI.renL,cf,oX]) (by simp[aQ,AV.aI,AV.aI.renL,cf]) (by simp[AV.aI,AV.aI.renL]) (by simp[eH,outs,ax.aI,AV.aI,AV.aI.renL,aA,fV,o8,il])
 simp only[go_sem,seval,oY];repeat' first|simp only[go_sem,seval,true_or,or_true,false_or,or_false,af,fU,dH,fG,eY,eZ,dJ,mR,nM,ft,fK,cJ,aE,AV.aI,AV.aI.renL,aA,PK,w8,i2,i1,i48,h1,q2,q3,CN,tj,MX,MY]|(refine ae ?_)|refine sB ?_|(first|apply pX|apply bX)<;>intro hc|refine⟨oD,?_⟩|exact oD|fail
 all_goals first|decide|omega|skip
 all_goals (
  refine congrArg (fun l=>ax.mk 0 l false (some oW)) ?_
  simp only[il,eB,ba,bG,List.nil_append,List.cons_append,u8];repeat' (first|rfl|refine sU ?_ ?_|fail)
  all_goals first|(refine Ph ?_;omega)|(refine Pf ?_ ?_<;>omega)|(refine Pg ?_ ?_<;>omega))
theorem Vu (o nm u:Nat) (hu:u<4294967296):ik Tryz.prog 342 nm [(o,⟨0,oX,false,some oW⟩)] [.rs o 0 1 10 1, .v (.i .u64 (u:Int))] (.tup []) [(o,some (o8 10 u))]:=by
 have h1:u%4294967296=u:=by omega
 refine ik.w mixed Tryz.call342 Tryz.func342 rfl (iL.1 _ _ _ (by cbv)) (iL.2 _ _ (by cbv)) (obs:=[⟨0,oX,false,some oW⟩]) (args:=[.rs 0 0 1 10 1, .v (.i .u64 (u:Int))]) (fs:=[some (some (o8 10 u))]) (j:=none) (nw:=none) (v:= .tup []) (ns:=[o]) (obsA:=[⟨0,oX,false,some oW⟩]) rfl ?_ (by simp) (by simp) rfl (by simp[aQ,ax.aI,AV.aI,AV.aI.renL,cf,oX]) (by simp[aQ,AV.aI,AV.aI.renL,cf]) (by simp[AV.aI,AV.aI.renL]) (by simp[eH,outs,ax.aI,AV.aI,AV.aI.renL,aA,fV,o8,il])
 simp only[go_sem,seval,oY];repeat' first|simp only[go_sem,seval,true_or,or_true,false_or,or_false,af,fU,dH,fG,eY,eZ,dJ,mR,nM,ft,fK,cJ,aE,AV.aI,AV.aI.renL,aA,PK,w8,i2,i1,i48,h1,q2,q3,CN,tj,MX,MY]|(refine ae ?_)|refine sB ?_|(first|apply pX|apply bX)<;>intro hc|refine⟨oD,?_⟩|exact oD|fail
 all_goals first|decide|omega|skip
 all_goals (
  refine congrArg (fun l=>ax.mk 0 l false (some oW)) ?_
  simp only[il,eB,ba,bG,List.nil_append,List.cons_append,u8];repeat' (first|rfl|refine sU ?_ ?_|fail)
  all_goals first|(refine Ph ?_;omega)|(refine Pf ?_ ?_<;>omega)|(refine Pg ?_ ?_<;>omega))
end Go.Proofs.YtmobkhegihemeaaGreatDoor
