/- Part of the proof. -/
import Derived.Test.YtnhhajlcpjgkjaaGreatDoorUB19
set_option linter.all false
set_option maxHeartbeats 16000000
set_option maxRecDepth 100000
namespace Go.Proofs.Tryz
open Go Go.Dom
variable {el:Option TypeId}
def wl (l:List Nat):List PV:=l.map fun n:Nat=>PV.i .u32 n
theorem PT (l:List Nat):List.map AV.v (wl l)=aF .u32 l:=by simp[wl,aF]
theorem qV (l:List Nat):(wl l).length=l.length:=aG ..
theorem jx {g:AV->Option PV} (hg: ∀n:Nat,g (.v (.i .u32 (n:Int)))=some (.i .u32 n)) (l:List Nat):bc g (aF .u32 l)=some (wl l):=by
 unfold aF wl
 induction l with
 |nil=>rfl
 |cons x l ih=>rw[bV,bV,bc,hg,ih]
theorem YN: ∀n:Fin 32,0<n.val->mN .u64 (IntKind.u64.wrap (-(n.val:Int))) 31=((32-n.val:Nat):Int):=by decide+kernel
theorem Uz (x n:Nat) (h0:0<n) (h:n<32):aE 536 [.i .u32 x,E (-(n:Int))] (.i .u32 (rr x n)):=by
 have e1:=YN ⟨n,h⟩ h0;simp only at e1;have e2: ∀ _:True,(if 32-n<=32 then 32-n else 32)=32-n:=fun _=>ah oO
 have e3: ∀ _:True,(32:Int)-((32-n:Nat):Int)=(n:Int):=fun _=>oO
 have e4: ∀ _:True,(if n<=32 then n else 32)=n:=fun _=>ah oO
 refine eW call536 func536 ?_;refine eJ (aN @e1 (aN (e2 oT) (aN (e3 oT) (aN (e4 oT) (aN @YH @o_r))))) ?_;rw[rr,Ok]
theorem kV (x n:Nat) (h0:0<n) (h:n<32):aE 523 [.i .u32 x,E n] (.i .u32 (rr x n)):=by
 have hr:=Uz x n h0 h;have e:(0:Int)-(n:Int)= -(n:Int):=oO;refine eW call523 func523 ?_;exact jE @e @hr
theorem Nn:aE 492 [] (.agg (wl oY)):=by
 refine eW call492 func492 ?_;exact z0
theorem CL:aE 521 [] (.agg (wl qf)):=by
 refine eW call521 func521 ?_;exact z0
theorem Z5 (a b c d:UInt8):BY (BY (BY (wY a.toNat 24) (wY b.toNat 16)) (wY c.toNat 8)) d.toNat=num [a,b,c,d]:=by
 have ha:=a.toNat_lt;have hb:=b.toNat_lt;have hc:=c.toNat_lt;have hd:=d.toNat_lt;have e1:wY a.toNat 24=a.toNat*2^24:=by unfold wY;omega
 have e2:wY b.toNat 16=b.toNat*2^16:=by unfold wY;omega
 have e3:wY c.toNat 8=c.toNat*2^8:=by unfold wY;omega
 have f1:BY (wY a.toNat 24) (wY b.toNat 16)=a.toNat*2^24+b.toNat*2^16:=by
  rw[BY,e1,e2,bE oO,bE oO,FG oO]
 have f2:BY (BY (wY a.toNat 24) (wY b.toNat 16)) (wY c.toNat 8)=(a.toNat*2^8+b.toNat)*2^16+c.toNat*2^8:=by
  rw[BY,f1,e3,bE oO,bE oO,show a.toNat*2^24+b.toNat*2^16=(a.toNat*2^8+b.toNat)*2^16 by omega,FG oO]
 rw[BY,f2,bE oO,bE oO,show(a.toNat*2^8+b.toNat)*2^16+c.toNat*2^8=((a.toNat*2^8+b.toNat)*2^8+c.toNat)*2^8 by omega,FG oO]
 simp[num];omega
theorem four (l:Bytes) {i:Nat} (h:4*i+4<=l.length): ∃a b c d,(l.drop (4*i)).take 4=[a,b,c,d]/\((l.map u8).take (4*i+4)).drop (4*i)=[u8 a,u8 b,u8 c,u8 d]:=by
 have hl:((l.drop (4*i)).take 4).length=4:=by simp;omega
 have e:((l.map u8).take (4*i+4)).drop (4*i)=((l.drop (4*i)).take 4).map u8:=by
  rw[<-yA,<-uH,uW];congr 2;omega
 generalize (l.drop (4*i)).take 4=m at hl e
 match m,hl with
 |[a,b,c,d],_=>exact⟨a,b,c,d,rfl,e⟩
theorem aaS (a:Nat):IntKind.u32.wrap ((a:Int)*16777216)=((wY a 24:Nat):Int):=YH a 24
theorem aaR (a:Nat):IntKind.u32.wrap ((a:Int)*65536)=((wY a 16:Nat):Int):=YH a 16
theorem mk8 (a:Nat):IntKind.u32.wrap ((a:Int)*256)=((wY a 8:Nat):Int):=YH a 8
theorem ZY (c:UInt8):IntKind.u32.wrap ((c.toNat:Nat):Int)=((c.toNat:Nat):Int):=by
 have:=c.toNat_lt;rw[LY];omega
theorem Dz (l:List Nat) (n x:Nat) (h:l.length<n):(l++List.replicate (n-l.length) 0).set l.length x=(l++[x])++List.replicate (n-(l++[x]).length) 0:=by
 obtain⟨k,hk⟩: ∃k,n-l.length=k+1:=⟨n-l.length-1,oO⟩;rw[hk,List.replicate_succ,List.set_append_right _ _ (aD _),ic,List.set_cons_zero];have:n-(l++[x]).length=k:=by simp;omega
 rw[this];simp
theorem Fp (l:List Nat) (k i:Nat) (h:i<l.length):(l++List.replicate k 0).getD i 0=l.getD i 0:=by
 simp[b9,uT h]
def zz (n:Nat):List Nat:=List.replicate n 0
theorem J0:(aF .u32 (zz 64)).length=64:=by rw[bC];rfl
theorem Gl {blk:Bytes} (hb:blk.length=64):aE 522 [.sl (blk.map u8)] (.agg (wl (sched blk))):=by
 have lb:(blk.map u8).length=64:=by rw[aG,hb]
 refine eW call522 func522 ?_;refine qi ?_;refine ak (α:=List Nat) (fun l=>16-l.length) (fun l=>⟨[(0, .v (.sl (blk.map u8))),(2, .p 1000 0 0),(3, .p 1001 0 0),(9,E' l.length)],[(1000,⟨0,aF .u32 (zz 64),false,some 502⟩),(1001,⟨0,aF .u32 (l++List.replicate (64-l.length) 0),false,some 502⟩)],_⟩) (fun l=>l.length<=16/\l=(List.range l.length).map (xB blk)) [] (fun _=>aD _) ⟨by decide,rfl⟩ ?_ ?_
 ·refine lG ?_;all_goals exact⟨rfl,rfl⟩
 ·rintro l ⟨hl,he⟩ R hR;have hL:(aF .u32 (l++List.replicate (64-l.length) 0)).length=64:=by rw[bC];simp;omega
  obtain⟨i,hi⟩: ∃i,i=l.length:=⟨_,rfl⟩
  by_cases hlt:l.length<16
  ·obtain⟨a,b,c,d,h4,h5⟩:=four blk (i:=i) oO;have hV:xB blk i=BY (BY (BY (wY a.toNat 24) (wY b.toNat 16)) (wY c.toNat 8)) d.toNat:=by rw[Z5,xB,h4]
   have hgo:=hR (l++[xB blk i]) ⟨by simp;omega,by
    rw[bU,List.length_singleton,List.range_succ,mj,<-he,<-hi];rfl⟩ (by simp;omega)
   have hse:=Dz l 64 (xB blk i) oO;rw[hV]at hgo hse;have t1: ∀ _:True,((4:Int)*(i:Int)).toNat=4*i:=fun _=>oO
   have t2: ∀ _:True,((4:Int)*(i:Int)+4).toNat=4*i+4:=fun _=>oO
   have hcl: ∀x∈blk.map u8,x.cells.length=1:=fun x hx=>by obtain⟨c,-,rfl⟩:=cE.1 hx;rfl
   rw[<-hi]at hL⊢;clear hR he h4 hV;refine eJ (aN @lb (aN @hL (aN (t1 oT) (aN (t2 oT) (aN @h5 (aN @aaS (aN @aaR (aN @mk8 (aN @ZY @o_r))))))))) ?_;refine⟨⟨oO,hcl⟩,oO,oO,?_⟩;refine xF ?_;refine hgo _ ?_;rw[<-hi]at hse;rw[eB (x:=BY (BY (BY (wY a.toNat 24) (wY b.toNat 16)) (wY c.toNat 8)) d.toNat) (by rw[bC]at hL;omega) rfl,hse]
   (refine AS.Le.of (by first|decide|omega) ?_ ?_<;>simp[dw,du,aS,aC,AV.bd,AV.bd.bdL,u8,an,ar,aA])
   all_goals first|omega|skip
  ·have hl16:l.length=16:=oO;have hs0:l=(List.range 16).map (xB blk):=by rw[<-hl16];exact he
   rw[hl16];rw[hl16]at hL;clear hR he hlt hl hi;refine qi ?_;refine ak (α:=List Nat) (fun l=>64-l.length) (fun l=>⟨[(2, .p 1000 0 0),(3, .p 1001 0 0),(6,E' l.length)],[(1000,⟨0,aF .u32 (zz 64),false,some 502⟩),(1001,⟨0,aF .u32 (l++List.replicate (64-l.length) 0),false,some 502⟩)],_⟩) (fun l=>16<=l.length/\l.length<=64/\LQ (64-l.length) l=sched blk) l (fun _=>aD _) ⟨oO,oO,by rw[hl16,hs0];rfl⟩ ?_ ?_
   ·rw[hl16];exact lE
   ·clear hs0 hL hl16 i l;rintro l ⟨hl1,hl2,he⟩ R hR;have hL:(aF .u32 (l++List.replicate (64-l.length) 0)).length=64:=by rw[bC];simp;omega
    obtain⟨i,hi⟩: ∃i,i=l.length:=⟨_,rfl⟩
    by_cases hlt:l.length<64
    ·have hgo:=hR (l++[DA l]) ⟨by simp;omega,by simp;omega,by
      have:64-l.length=(64-(l++[DA l]).length)+1:=by simp;omega
      rw[this]at he;exact he⟩ (by simp;omega)
     have hse:=Dz l 64 (DA l) hlt;have hg: ∀k:Nat,0<k->k<=16->(aF .u32 (l++List.replicate (64-l.length) 0)).getD ((i:Int)-(k:Int)).toNat .u= .v (.i .u32 (l.getD (i-k) 0:Nat)):=fun k h0 h1=>by
      rw[show((i:Int)-(k:Int)).toNat=i-k by omega,dF (by simp;omega),Fp l _ _ oO]
     have g15:(aF .u32 (l++List.replicate (64-l.length) 0)).getD ((i:Int)-15).toNat .u= _:=hg 15 oC oC;have g2:(aF .u32 (l++List.replicate (64-l.length) 0)).getD ((i:Int)-2).toNat .u= _:=hg 2 oC oC;have g16:(aF .u32 (l++List.replicate (64-l.length) 0)).getD ((i:Int)-16).toNat .u= _:=hg 16 oC oC;have g7:(aF .u32 (l++List.replicate (64-l.length) 0)).getD ((i:Int)-7).toNat .u= _:=hg 7 oC oC;have hN:DA l=ad (ad (ad (l.getD (i-16) 0) (qk (qk (rr (l.getD (i-15) 0) 7) (rr (l.getD (i-15) 0) 18)) (l.getD (i-15) 0/8))) (l.getD (i-7) 0)) (qk (qk (rr (l.getD (i-2) 0) 17) (rr (l.getD (i-2) 0) 19)) (l.getD (i-2) 0/1024)):=by rw[hi];rfl
     rw[hN]at hgo hse;rw[<-hi]at hL hse g15 g2 g16 g7⊢;clear hR he hN hg;generalize l.getD (i-16) 0=w16 at*;generalize l.getD (i-15) 0=w15 at*;generalize l.getD (i-7) 0=w7 at*;generalize l.getD (i-2) 0=w2 at*;have r7:=kV w15 7 oC oC;have r18:=kV w15 18 oC oC;have r17:=kV w2 17 oC oC;have r19:=kV w2 19 oC oC;refine Ey (aN @hL (aN @g15 (aN @g2 (aN @g16 (aN @g7 (aN @qo @Xx)))))) @r7 @r18 @r17 @r19 ?_;refine hgo _ ?_;rw[eB (x:=ad (ad (ad w16 (qk (qk (rr w15 7) (rr w15 18)) (w15/8))) w7) (qk (qk (rr w2 17) (rr w2 19)) (w2/1024))) (by rw[bC]at hL;omega) rfl,hse]
     (refine AS.Le.of (by first|decide|omega) ?_ ?_<;>simp[dw,du,aS,aC,AV.bd,AV.bd.bdL,u8,an,ar,aA])
     all_goals first|omega|skip
    ·have hl64:l.length=64:=oO;rw[hl64]at he hi hL⊢;have he:l=sched blk:=he;rw[ic,List.replicate_zero,iM]at hL⊢;rw[<-he];have k1:List.take 64 (aF .u32 l)=aF .u32 l:=cZ (by rw[bC];omega)
     have k2:List.drop 64 (aF .u32 (zz 64))=[]:=iu (by rw[J0];decide)
     have k3:(wl l).length=64:=by rw[qV,hl64]
     repeat' first|simp only[go_sem,seval,hL,k1,k2,k3,jx,PT,J0]|refine oE ?_|apply xX<;>intro hc
     all_goals skip
theorem Xu {l:List Nat} (h:l.length=8): ∃a b c d e f g i,l=[a,b,c,d,e,f,g,i]:=by
 match l,h with
 |[a,b,c,d,e,f,g,i],_=>exact⟨_,_,_,_,_,_,_,_,rfl⟩
theorem ic8 (a b c d e f g h:Nat):aF .u32 [a,b,c,d,e,f,g,h]=[.v (.i .u32 (a:Int)), .v (.i .u32 (b:Int)), .v (.i .u32 (c:Int)), .v (.i .u32 (d:Int)), .v (.i .u32 (e:Int)), .v (.i .u32 (f:Int)), .v (.i .u32 (g:Int)), .v (.i .u32 (h:Int))]:=rfl
theorem TY (k w a b c d e f g h:Nat):Pu k w [a,b,c,d,e,f,g,h]=[ad (Pw k w [a,b,c,d,e,f,g,h]) (W7 [a,b,c,d,e,f,g,h]),a,b,c,ad d (Pw k w [a,b,c,d,e,f,g,h]),e,f,g]:=rfl
theorem TZ (k w a b c d e f g h:Nat):Pw k w [a,b,c,d,e,f,g,h]=ad (ad (ad (ad h (qk (qk (rr e 6) (rr e 11)) (rr e 25))) (qk (L3 e f) (L3 (YL e) g))) k) w:=rfl
theorem T0 (a b c d e f g h:Nat):W7 [a,b,c,d,e,f,g,h]=ad (qk (qk (rr a 2) (rr a 13)) (rr a 22)) (qk (qk (L3 a b) (L3 a c)) (L3 b c)):=rfl
theorem VR (e:Nat):IntKind.u32.wrap ((@BitVec.toNat 32 (@HXor.hXor (BitVec 32) (BitVec 32) (BitVec 32) (@instHXorOfXorOp (BitVec (IntKind.bits .u32)) (@BitVec.instXorOp (IntKind.bits .u32))) (BitVec.ofInt 32 (if IntKind.u32.signed=true then-1 else IntKind.u32.max)) (BitVec.ofNat 32 e)):Nat):Int)=((YL e:Nat):Int):=by
 have h:=n_r e;rw[gI]at h;exact h
theorem Ml {st:List Nat} (hs:st.length=8) {blk:Bytes} (hb:blk.length=64):aE 493 [.agg (wl st), .sl (blk.map u8)] (.agg (wl (rW st blk))):=by
 have hc:=CL;have hd:=Gl hb;have k0:(wl st).length=8:=by rw[qV,hs]
 have k1:(wl qf).length=64:=rfl;have k2:(wl (sched blk)).length=64:=by rw[qV,mD]
 have k3:(aF .u32 st).length=8:=by rw[bC,hs]
 have k4:List.take 64 (aF .u32 (sched blk))=aF .u32 (sched blk):=cZ (by rw[bC,mD];omega)
 have k5:List.take 64 (aF .u32 qf)=aF .u32 qf:=cZ (by rw[bC];decide)
 have k6:List.take 8 (aF .u32 st)=aF .u32 st:=cZ (by rw[bC];omega)
 have k7:(aF .u32 (sched blk)).length=64:=by rw[bC,mD]
 have k8:(aF .u32 qf).length=64:=by rw[bC];rfl
 refine eW call493 func493 ?_;refine GJ (aN @k0 (aN @k1 (aN @k2 (aN @k3 (aN @k4 (aN @k5 (aN @k6 (aN @k7 (aN @k8 (aN @PT @jx)))))))))) @hc @hd ?_;refine ak (α:=List Nat×Nat) (fun p=>64-p.2) (fun p=>⟨[(2, .p 1000 0 0),(4, .p 1001 0 0),(5, .p 1005 0 0),(6, .p 1006 0 0),(7, .p 1010 0 0),(22,E' p.2)],[(1000,⟨0,aF .u32 st,false,none⟩),(1001,⟨0,[.v (.i .u32 0), .v (.i .u32 0), .v (.i .u32 0), .v (.i .u32 0), .v (.i .u32 0), .v (.i .u32 0), .v (.i .u32 0), .v (.i .u32 0)],false,some 481⟩),(1005,⟨0,aF .u32 qf,false,some 502⟩),(1006,⟨0,aF .u32 (sched blk),false,some 502⟩),(1010,⟨0,aF .u32 p.1,false,some 481⟩)],_⟩) (fun p=>p.1.length=8/\p.2<=64/\wD (sched blk) (64-p.2) p.1=wD (sched blk) 64 st) (st,0) (fun _=>aD _) ⟨hs,aO _,rfl⟩ ?_ ?_
 ·exact lE
 ·rintro⟨v,i⟩ ⟨hv,hi,he⟩ R hR;obtain⟨a,b,c,d,e,f,g,h,rfl⟩:=Xu hv
  by_cases hlt:i<64
  ·have hgo:=hR (Pu (qf.getD i 0) ((sched blk).getD i 0) [a,b,c,d,e,f,g,h],i+1) ⟨rfl,hlt,by
    rw[show 64-i=(64-(i+1))+1 by omega,wD,show 63-(64-(i+1))=i by omega]at he;exact he⟩ (by simp;omega)
   have gk:(aF .u32 qf).getD i .u= .v (.i .u32 (qf.getD i 0:Nat)):=dF (by exact hlt)
   have gw:(aF .u32 (sched blk)).getD i .u= .v (.i .u32 ((sched blk).getD i 0:Nat)):=dF (by rw[mD];exact hlt)
   have r6:=kV e 6 oC oC;have r11:=kV e 11 oC oC;have r25:=kV e 25 oC oC;have r2:=kV a 2 oC oC;have r13:=kV a 13 oC oC;have r22:=kV a 22 oC oC;simp only[TY,TZ,T0,ic8]at hgo⊢;generalize qf.getD i 0=ki at hgo gk;generalize (sched blk).getD i 0=wi at hgo gw;clear hR he hv;refine aab (aN @k7 (aN @k8 (aN @gk (aN @gw (aN @qo (aN @Xx (aN @a_r @VR))))))) @r6 @r11 @r25 @r2 @r13 @r22 oT ?_;refine hgo _ ?_
   (refine AS.Le.of (by first|decide|omega) ?_ ?_<;>simp[dw,du,aS,aC,AV.bd,AV.bd.bdL,u8,an,ar,aA])
   all_goals first|omega|(erw [VR e];simp only[a_r,Xx,qo,and_self])
  ·have hl:i=64:=oO;subst hl;have he:[a,b,c,d,e,f,g,h]=wD (sched blk) 64 st:=he;have hw:rW st blk=List.zipWith ad [a,b,c,d,e,f,g,h] st:=by rw[rW,<-he]
   rw[hw];clear hR he hv hw;obtain⟨s0,s1,s2,s3,s4,s5,s6,s7,rfl⟩:=Xu hs;simp only[ic8];repeat' first|simp only[go_sem,seval,k7,k8,qo]|refine oE ?_|apply xX<;>intro hc
   all_goals refine aj ?_
   repeat' first|simp only[go_sem,seval,k7,k8,qo]|refine oE ?_|apply xX<;>intro hc
   all_goals refine aj ?_
   repeat' first|simp only[go_sem,seval,k7,k8,qo]|refine oE ?_|apply xX<;>intro hc
   all_goals refine aj ?_
   repeat' first|simp only[go_sem,seval,k7,k8,qo]|refine oE ?_|apply xX<;>intro hc
   all_goals refine aj ?_
   repeat' first|simp only[go_sem,seval,k7,k8,qo]|refine oE ?_|apply xX<;>intro hc
   all_goals refine aj ?_
   repeat' first|simp only[go_sem,seval,k7,k8,qo]|refine oE ?_|apply xX<;>intro hc
   all_goals refine aj ?_
   repeat' first|simp only[go_sem,seval,k7,k8,qo]|refine oE ?_|apply xX<;>intro hc
   all_goals refine aj ?_
   repeat' first|simp only[go_sem,seval,k7,k8,qo]|refine oE ?_|apply xX<;>intro hc
   all_goals refine aj ?_
   repeat' first|simp only[go_sem,seval,k7,k8,qo]|refine oE ?_|apply xX<;>intro hc
   all_goals refine aj ?_
   exact fP (aN @k7 (aN @k8 @qo))
def zy (n:Nat):Bytes:=List.replicate n 0
theorem Ik (n:Nat):(zy n).length=n:=Eu
theorem mk0 (n:Nat):(List.replicate n [AV.v (.i .u8 0)]).flatten=aK (zy n):=by
 unfold zy
 induction n with
 |zero=>rfl
 |succ n ih=>rw[List.replicate_succ,List.flatten_cons,ih,List.replicate_succ];rfl
theorem G2 (l:Bytes):(aK l).all AV.one=true:=by
 unfold aK
 induction l with
 |nil=>rfl
 |cons c l ih=>rw[bV,List.all_cons,ih];rfl
theorem oB (l:Bytes) (n:Nat):List.drop n (aK l)=aK (l.drop n):=by unfold aK;exact(uH ..).symm
theorem nk (l:Bytes) (n:Nat):List.take n (aK l)=aK (l.take n):=by unfold aK;exact(yA ..).symm
theorem tL (l:Bytes) (n:Nat):aK l++[AV.v (.i .u8 (IntKind.u8.wrap (n:Int)))]=aK (l++[UInt8.ofNat n]):=by
 rw[<-kj];congr 1
theorem MK (l:Bytes):aK l++[AV.v (.i .u8 0)]=aK (l++[0]):=by rw[<-kj];rfl
theorem ML (l:Bytes):aK l++[AV.v (.i .u8 128)]=aK (l++[128]):=by rw[<-kj];rfl
theorem LX {hf:Nat->Option aJ} {f n ver o m:Nat} {l:Bytes} {gr:Bool} (hm:o+m<=l.length) (h:hf n=some ⟨ver,aK l,gr,el⟩):
  view hf (f+2) (.rs n ver o m 1)=some (.sl (((l.drop o).take m).map u8)):=by
 have h1:bc (view hf (f+1)) (aK ((l.drop o).take m))=some (((l.drop o).take m).map u8):=by
  have:=fX hf f (((l.drop o).take m).map u8);rw[ig]at this;exact this
 have h2:(aK ((l.drop o).take m)).all AV.one=true:=G2 _;have h3:chunk 1 m (((l.drop o).take m).map u8)=((l.drop o).take m).map u8:=by
  have:=CH (((l.drop o).take m).map u8)
  rwa[aG,cd,lj,pM oO]at this
 simp only[view,h,oB,nk,ko,dG,h1,h2,h3,hm,Option.map_some];simp
theorem Ig {hf:Nat->Option aJ} {f n ver o m:Nat} {l:Bytes} {gr:Bool} (h:hf n=some ⟨ver,aK l,gr,el⟩):
  bJ hf (f+2) (.rs n ver o m 1)=[n]:=by
 have h1: ∀l:Bytes,(aK l).flatMap (bJ hf (f+1))=[]:=fun l=>by
  unfold aK
  induction l with
  |nil=>rfl
  |cons x r ih=>simp_all[bJ]
 simp only[bJ,h,oB,nk,h1]
theorem pS (n:Nat):AV.byte (.v (.i .u8 (IntKind.u8.wrap (n:Int))))=UInt8.ofNat n:=by
 simp[AV.byte,PV.byte,rE];apply ye;simp;omega
theorem zw (n:Nat):AV.isByte (.v (.i .u8 (IntKind.u8.wrap (n:Int))))=True:=by
 simp[AV.isByte,PV.isByte,rE]
theorem RD (l:List Nat):(PV.agg (wl l)).flat=true:=by
 unfold wl
 induction l with
 |nil=>rfl
 |cons x l ih=>simp_all[PV.flat,PV.flat.flatL]
theorem Ud {P:Program} [cM P] {Q:AX->AS->Prop} {nx:Nat} {bf:Option (List Nat)} {nn:Nat} {d:Option Nat} {ops:List jD} {k:Nat} {s:AS} {tr:List (Nat×List Nat×List Nat)} {K:List Fr} {nm:Nat} {f:FuncId} {n ver o m:Nat} {l:Bytes} {gr:Bool} {x r:PV}
  (he:qX P f [x, .sl (((l.drop o).take m).map u8)] r) (hr:r.flat=true) (hg:aC s.h n=some ⟨ver,aK l,gr,el⟩) (hm:o+m<=l.length) (hK:RW P Q nx bf nn ops (k+1) (s.tc d (.v r) []) (x6 bf k [n] [] tr) K):
  CR P Q nx bf nn nm (.v (.fn (.func f))) [.v x, .rs n ver o m 1] d ops k s tr K:=by
 refine fw he ?_ hr ?_
 ·simp[bc,LX hm hg];rfl
 ·have:[AV.v x,AV.rs n ver o m 1].flatMap (bJ (aC s.h) 9)=[n]:=by simp[Ig hg];rfl
  rw[this];exact hK
theorem vn {s:Bytes} (hs:s.length<1000000000):aE 437 [.s s] (.s (lQ s)):=by
 have hf:=Nn;have t1: ∀ _:True,((s.length:Int)+72)=((s.length+72:Nat):Int):=fun _=>oO
 have e1:List.drop s.length (zy (s.length+72))=zy 72:=by
  unfold zy;rw[List.drop_replicate,Nat.add_sub_cancel_left]
 have e2:List.take s.length (s++zy 72)=s:=List.take_left' rfl;have e3:s.length<=(s++zy 72).length:=by simp
 have k1:(wl oY).length=8:=rfl;have k2:(aF .u32 oY).length=8:=rfl;have k3:List.take 8 (aF .u32 oY)=aF .u32 oY:=cZ (by rw[bC];decide)
 have k4:List.drop 8 (aF .u32 oY)=[]:=iu (by rw[bC];decide)
 refine eW call437 func437 ?_;refine dH (aN (t1 oT) (aN @mk0 (aN @oB (aN @nk (aN @Tw (aN @kj (aN @ML (aN @Ik (aN @e1 @e2))))))))) ?_;refine ak (α:=Nat) (fun c=>64-c) (fun c=>⟨[(0, .v (.s s)),(3, .rs 1006 (1+c) 0 (s.length+1+c) 1)],[(1006,⟨1+c,aK (s++128::zy c),true,none⟩)],1015⟩) (fun c=>c<=(119-s.length%64)%64) 0 (fun _=>aD _) (aO _) ?_ ?_
 ·(refine AS.Le.of (by first|decide|omega) ?_ ?_<;>simp[dw,du,aS,aC,AV.bd,AV.bd.bdL,u8,an,ar,aA])
  all_goals rfl
 ·intro c hc R hR;have hl:(s++128::zy c).length=s.length+1+c:=by simp[Ik];omega
  have hT:List.take (s.length+1+c) (s++128::zy c)=s++128::zy c:=by rw[<-hl];exact cl
  have hz:s++128::zy c++[0]=s++128::zy (c+1):=by
   rw[ft];congr 1;unfold zy;rw[Es];rfl
  by_cases hlt:c=(119-s.length%64)%64
  ·have h5: ∀ _:True,(((s.length+1+c)%64:Nat):Int)=56:=fun _=>oO
   have w1: ∀ _:True,IntKind.u64.wrap (s.length:Int)=(s.length:Int):=fun _=>by rw[Bq];omega
   have w2: ∀ _:True,IntKind.u64.wrap ((s.length:Int)*8)=((s.length*8:Nat):Int):=fun _=>by rw[Bq];omega
   clear hR;refine eJ (aN @hl (aN @hT (aN @MK (aN @oB (aN @nk (aN (h5 oT) (aN (w1 oT) (w2 oT)))))))) ?_;obtain⟨N,hN⟩: ∃N,N=s.length*8:=⟨_,rfl⟩;obtain⟨M0,hM0⟩: ∃M,M=s++128::zy c:=⟨_,rfl⟩;rw[<-hN,<-hM0];obtain⟨m0,hm0⟩: ∃m,m=s.length+1+c:=⟨_,rfl⟩;rw[<-hm0];have hL0:M0.length=m0:=by rw[hM0,hm0,hl]
   have hT0:List.take m0 M0=M0:=by rw[hm0,hM0,hT]
   obtain⟨v0,hv0⟩: ∃v,v=1+c:=⟨_,rfl⟩;rw[<-hv0];have hb1:m0<2000000000:=oO;clear hl hT hc h5 w1 w2;refine aj ?_;repeat' first|simp only[go_sem,seval,hL0,hT0,tL,oB,nk]|refine oE ?_|apply xX<;>intro hc
   all_goals try refine⟨oO,?_⟩
   obtain⟨M1,hM1⟩: ∃x,x=M0++[UInt8.ofNat (N/72057594037927936)]:=⟨_,rfl⟩;obtain⟨m1,hm1⟩: ∃x,x=m0+1:=⟨_,rfl⟩;obtain⟨v1,hv1⟩: ∃x,x=v0+1:=⟨_,rfl⟩;rw[<-hM1,<-hm1,<-hv1];have hL1:M1.length=m1:=by rw[hM1,hm1,bU,hL0];rfl
   have hT1:List.take m1 M1=M1:=by rw[<-hL1];exact cl
   refine aj ?_;repeat' first|simp only[go_sem,seval,hL1,hT1,tL,oB,nk]|refine oE ?_|apply xX<;>intro hc
   all_goals try refine⟨oO,?_⟩
   obtain⟨M2,hM2⟩: ∃x,x=M1++[UInt8.ofNat (N/281474976710656)]:=⟨_,rfl⟩;obtain⟨m2,hm2⟩: ∃x,x=m1+1:=⟨_,rfl⟩;obtain⟨v2,hv2⟩: ∃x,x=v1+1:=⟨_,rfl⟩;rw[<-hM2,<-hm2,<-hv2];have hL2:M2.length=m2:=by rw[hM2,hm2,bU,hL1];rfl
   have hT2:List.take m2 M2=M2:=by rw[<-hL2];exact cl
   refine aj ?_;repeat' first|simp only[go_sem,seval,hL2,hT2,tL,oB,nk]|refine oE ?_|apply xX<;>intro hc
   all_goals try refine⟨oO,?_⟩
   obtain⟨M3,hM3⟩: ∃x,x=M2++[UInt8.ofNat (N/1099511627776)]:=⟨_,rfl⟩;obtain⟨m3,hm3⟩: ∃x,x=m2+1:=⟨_,rfl⟩;obtain⟨v3,hv3⟩: ∃x,x=v2+1:=⟨_,rfl⟩;rw[<-hM3,<-hm3,<-hv3];have hL3:M3.length=m3:=by rw[hM3,hm3,bU,hL2];rfl
   have hT3:List.take m3 M3=M3:=by rw[<-hL3];exact cl
   refine aj ?_;repeat' first|simp only[go_sem,seval,hL3,hT3,tL,oB,nk]|refine oE ?_|apply xX<;>intro hc
   all_goals try refine⟨oO,?_⟩
   obtain⟨M4,hM4⟩: ∃x,x=M3++[UInt8.ofNat (N/4294967296)]:=⟨_,rfl⟩;obtain⟨m4,hm4⟩: ∃x,x=m3+1:=⟨_,rfl⟩;obtain⟨v4,hv4⟩: ∃x,x=v3+1:=⟨_,rfl⟩;rw[<-hM4,<-hm4,<-hv4];have hL4:M4.length=m4:=by rw[hM4,hm4,bU,hL3];rfl
   have hT4:List.take m4 M4=M4:=by rw[<-hL4];exact cl
   refine aj ?_;repeat' first|simp only[go_sem,seval,hL4,hT4,tL,oB,nk]|refine oE ?_|apply xX<;>intro hc
   all_goals try refine⟨oO,?_⟩
   obtain⟨M5,hM5⟩: ∃x,x=M4++[UInt8.ofNat (N/16777216)]:=⟨_,rfl⟩;obtain⟨m5,hm5⟩: ∃x,x=m4+1:=⟨_,rfl⟩;obtain⟨v5,hv5⟩: ∃x,x=v4+1:=⟨_,rfl⟩;rw[<-hM5,<-hm5,<-hv5];have hL5:M5.length=m5:=by rw[hM5,hm5,bU,hL4];rfl
   have hT5:List.take m5 M5=M5:=by rw[<-hL5];exact cl
   refine aj ?_;repeat' first|simp only[go_sem,seval,hL5,hT5,tL,oB,nk]|refine oE ?_|apply xX<;>intro hc
   all_goals try refine⟨oO,?_⟩
   obtain⟨M6,hM6⟩: ∃x,x=M5++[UInt8.ofNat (N/65536)]:=⟨_,rfl⟩;obtain⟨m6,hm6⟩: ∃x,x=m5+1:=⟨_,rfl⟩;obtain⟨v6,hv6⟩: ∃x,x=v5+1:=⟨_,rfl⟩;rw[<-hM6,<-hm6,<-hv6];have hL6:M6.length=m6:=by rw[hM6,hm6,bU,hL5];rfl
   have hT6:List.take m6 M6=M6:=by rw[<-hL6];exact cl
   refine aj ?_;repeat' first|simp only[go_sem,seval,hL6,hT6,tL,oB,nk]|refine oE ?_|apply xX<;>intro hc
   all_goals try refine⟨oO,?_⟩
   obtain⟨M7,hM7⟩: ∃x,x=M6++[UInt8.ofNat (N/256)]:=⟨_,rfl⟩;obtain⟨m7,hm7⟩: ∃x,x=m6+1:=⟨_,rfl⟩;obtain⟨v7,hv7⟩: ∃x,x=v6+1:=⟨_,rfl⟩;rw[<-hM7,<-hm7,<-hv7];have hL7:M7.length=m7:=by rw[hM7,hm7,bU,hL6];rfl
   have hT7:List.take m7 M7=M7:=by rw[<-hL7];exact cl
   refine aj ?_;repeat' first|simp only[go_sem,seval,hL7,hT7,tL,oB,nk]|refine oE ?_|apply xX<;>intro hc
   all_goals try refine⟨oO,?_⟩
   obtain⟨M8,hM8⟩: ∃x,x=M7++[UInt8.ofNat (N/1)]:=⟨_,rfl⟩;obtain⟨m8,hm8⟩: ∃x,x=m7+1:=⟨_,rfl⟩;obtain⟨v8,hv8⟩: ∃x,x=v7+1:=⟨_,rfl⟩;rw[<-hM8,<-hm8,<-hv8];have hL8:M8.length=m8:=by rw[hM8,hm8,bU,hL7];rfl
   have hT8:List.take m8 M8=M8:=by rw[<-hL8];exact cl
   have hP:M8=pad s:=by
    rw[hM8,hM7,hM6,hM5,hM4,hM3,hM2,hM1,hM0,hlt,hN,pad];simp only[be,zy,ft,List.cons_append,List.nil_append,Nat.reducePow,Nat.pow_zero,iI]
   clear hM8 hM7 hM6 hM5 hM4 hM3 hM2 hM1 hM0 hT0 hT1 hT2 hT3 hT4 hT5 hT6 hT7 hL0 hL1 hL2 hL3 hL4 hL5 hL6 hL7;subst hP;refine aj ?_;refine iy (aN @k1 (aN @k2 (aN @k3 (aN @k4 @PT)))) @hf ?_;clear hT8;obtain⟨l,hl⟩: ∃l,l=pad s:=⟨_,rfl⟩;have hm6:l.length=l.length/64*64:=by rw[hl];exact OA s
   have hsum:lQ s=(oj (l.length/64) l oY).flatMap Wk:=by rw[hl];rfl
   rw[hsum];rw[<-hl]at hL8⊢;clear hsum hl hv1 hv2 hv3 hv4 hv5 hv6 hv7 hv8 hv0 hlt hN e1 e2 e3 t1;have hb8:m8<2000000008:=oO;have hm8:m8=m8/64*64:=oO;clear hb1 hm0 hm1 hm2 hm3 hm4 hm5 hm6 hm7;rw[hL8];refine ak (α:=Nat×Nat×List Nat) (fun p=>p.2.1) (fun p=>⟨[(3, .rs 1006 v8 p.1 p.2.1 1),(6, .p 1132 0 0)],[(1006,⟨v8,aK l,true,none⟩),(1132,⟨0,aF .u32 p.2.2,false,some 481⟩)],_⟩) (fun p=>p.1+p.2.1=m8/\p.2.1=p.2.1/64*64/\p.2.2.length=8/\oj (p.2.1/64) (l.drop p.1) p.2.2=oj (m8/64) l oY) (0,m8,oY) (fun _=>aD _) ⟨ew _,hm8,rfl,rfl⟩ ?_ ?_
   ·exact lE
   ·rintro⟨o,r,st⟩ ⟨ho,hr,hst,he⟩ R hR;have ho:o+r=m8:=ho;have hr:r=r/64*64:=hr;have hst:st.length=8:=hst;have he:oj (r/64) (l.drop o) st=oj (m8/64) l oY:=he;have q1:(aF .u32 st).length=8:=by rw[bC,hst]
    have q2:List.take 8 (aF .u32 st)=aF .u32 st:=cZ oO;rcases jS (r/64)with h0|h0
    ·have hr0:r=0:=oO;subst hr0;have he:st=oj (m8/64) l oY:=by rw[<-he];rfl
     rw[<-he];clear hR he h0 hr;obtain⟨a,b,c,d,e,f,g,i,rfl⟩:=Xu hst;have w8:wl [a,b,c,d,e,f,g,i]=[.i .u32 (a:Int), .i .u32 (b:Int), .i .u32 (c:Int), .i .u32 (d:Int), .i .u32 (e:Int), .i .u32 (f:Int), .i .u32 (g:Int), .i .u32 (i:Int)]:=rfl;refine eJ (aN @q1 (aN @q2 (aN @jx @k1))) ?_;rw[w8];refine aj ?_;refine dH (aN @zw @pS) ?_;refine aj ?_;refine dH (aN @zw @pS) ?_;refine aj ?_;refine dH (aN @zw @pS) ?_;refine aj ?_;refine dH (aN @zw @pS) ?_;refine aj ?_;refine dH (aN @zw @pS) ?_;refine aj ?_;refine dH (aN @zw @pS) ?_;refine aj ?_;refine dH (aN @zw @pS) ?_;refine aj ?_;refine dH (aN @zw @pS) ?_;refine aj ?_;exact fP (aN @zw @pS)
    ·obtain⟨r',rfl⟩: ∃r',r=r'+64:=⟨r-64,oO⟩;have f1:o+64+r'=m8:=oO;have f2:r'=r'/64*64:=oO;have hgo:=hR (o+64,r',rW st ((l.drop o).take 64)) ⟨f1,f2,oX _ hst,by
      rw[show(r'+64)/64=r'/64+1 by omega,oj,yn]at he
      rw[gN o 64];rw[gN o 64]at he;exact he⟩ (by simp)
     have hblk:((l.drop o).take 64).length=64:=by rw[cd,lj];omega
     have ha:=Ml hst hblk;have q3:(wl (rW st ((l.drop o).take 64))).length=8:=by rw[qV,oX _ hst]
     have q4:List.drop 8 (aF .u32 st)=[]:=iu oO;have hfl:=RD (rW st ((l.drop o).take 64));clear hR he h0;repeat' first|simp only[go_sem,seval,q1,q2,q3,q4,jx,PT]|(refine Ud (gr:=true) (el:=none) (ver:=v8) (l:=l) ha hfl (by simp[aC]) oO ?_)|refine oE ?_|apply xX<;>intro hc
     refine⟨by rw[bC];exact oX _ hst,rfl,oO,hgo _ ?_⟩
     (refine AS.Le.of (by first|decide|omega) ?_ ?_<;>simp[dw,du,aS,aC,AV.bd,AV.bd.bdL,u8,an,ar,aA])
     all_goals first|omega|skip
  ·have h5: ∀ _:True,¬(((s.length+1+c)%64:Nat):Int)=56:=fun _=>oO
   have hgo:=hR (c+1) oO oO;clear hR;refine eJ (aN @hl (aN @hT (aN @MK (aN @oB (aN @nk (aN @hz (h5 oT))))))) ?_;refine hgo _ ?_
   (refine AS.Le.of (by first|decide|omega) ?_ ?_<;>simp[dw,du,aS,aC,AV.bd,AV.bd.bdL,u8,an,ar,aA])
   all_goals first|omega|skip
theorem ja (x n:Nat) (h0:0<n) (h:n<32):aE 526 [.i .u32 x,E n] (.i .u32 (rr x n)):=by
 have e2: ∀ _:True,(if 32-n<=32 then 32-n else 32)=32-n:=fun _=>ah oO
 have e3: ∀ _:True,(32:Int)-(n:Int)=((32-n:Nat):Int):=fun _=>oO
 have e4: ∀ _:True,(if n<=32 then n else 32)=n:=fun _=>ah oO
 refine eW call526 func526 ?_;exact fP (aN (e2 oT) (aN (e3 oT) (aN (e4 oT) (aN @YH @o_r))))
theorem Bl:aE 525 [] (.sl (wl qf)):=by
 refine eW call525 func525 ?_;exact z0
def ur (l:List Nat) (x:Nat):List AV:=aF .u32 (l++x::List.replicate (63-l.length) 0)
theorem Pe (l:List Nat) (x:Nat) (h:l.length<64):(ur l x).length=64:=by
 rw[ur,bC];simp;omega
theorem Pd (l:List Nat) (x:Nat):(ur l x).getD l.length .u= .v (.i .u32 (x:Int)):=by
 rw[ur,dF (by simp)];simp
theorem Pf (l:List Nat) (x y:Nat):List.take l.length (ur l x)++[AV.v (.i .u32 (y:Int))]++List.drop (l.length+1) (ur l x)=ur l y:=by
 rw[ur,eB (x:=y) (by simp) rfl,ur];simp
theorem WW (l:List Nat) (h:l.length<64):aF .u32 (l++List.replicate (64-l.length) 0)=ur l 0:=by
 obtain⟨k,hk⟩: ∃k,64-l.length=k+1:=⟨63-l.length,oO⟩;rw[ur,hk,List.replicate_succ,show 63-l.length=k by omega]
theorem WX (l:List Nat) (x:Nat) (h:l.length<64):ur l x=aF .u32 ((l++[x])++List.replicate (64-(l++[x]).length) 0):=by
 rw[ur,ft,bU,List.length_singleton,show 64-(l.length+1)=63-l.length by omega];rfl
theorem w0:IntKind.u32.wrap 0=0:=rfl
def m8 (x c:Nat):Nat:=(x*256+c)%4294967296
theorem aaQ (x c:Nat):IntKind.u32.wrap (IntKind.u32.wrap ((x:Int)*256)+(c:Int))=((m8 x c:Nat):Int):=by
 rw[LY,LY,m8];omega
theorem aaP (a b c d:UInt8):m8 (m8 (m8 a.toNat b.toNat) c.toNat) d.toNat=num [a,b,c,d]:=by
 have ha:=a.toNat_lt;have hb:=b.toNat_lt;have hc:=c.toNat_lt;have hd:=d.toNat_lt;simp only[m8,num,List.length_cons,List.length_nil];omega
theorem Yq {l:Bytes} {i:Nat} {a b c d:UInt8} (h:(l.drop (4*i)).take 4=[a,b,c,d]):l.getD (4*i) 0=a/\l.getD (4*i+1) 0=b/\l.getD (4*i+2) 0=c/\l.getD (4*i+3) 0=d:=by
 have hg: ∀k,k<4->l.getD (4*i+k) 0=[a,b,c,d].getD k 0:=fun k hk=>by
  rw[<-h];simp[b9,fq,hk]
 exact⟨hg 0 oC,hg 1 oC,hg 2 oC,hg 3 oC⟩
theorem MW (l:List Nat) {n:Nat} (h:l.length=n):chunk 1 n (wl l)=wl l:=by
 subst h;have:=CH (wl l)
 rwa[qV]at this
theorem Hk (l:List Nat):(aF .u32 l).all AV.one=true:=by
 unfold aF
 induction l with
 |nil=>rfl
 |cons c l ih=>rw[bV,List.all_cons,ih];rfl
theorem Ho (hf:Nat->Option aJ) (l:List Nat):bc (view hf 8) (aF .u32 l)=some (wl l):=jx (fun _=>rfl) l
theorem Dm {blk:Bytes} (hb:blk.length=64):aE 524 [.s blk] (.sl (wl (sched blk))):=by
 refine eW call524 func524 ?_;refine qi ?_;refine ak (α:=List Nat) (fun l=>16-l.length) (fun l=>⟨[(0, .v (.s blk)),(3, .rs 1001 0 0 64 1),(4,E' l.length)],[(1001,⟨0,aF .u32 (l++List.replicate (64-l.length) 0),false,none⟩)],_⟩) (fun l=>l.length<=16/\l=(List.range l.length).map (xB blk)) [] (fun _=>aD _) ⟨by decide,rfl⟩ ?_ ?_
 ·(refine AS.Le.of (by first|decide|omega) ?_ ?_<;>simp[dw,du,aS,aC,AV.bd,AV.bd.bdL,u8,an,ar,aA])
  all_goals rfl
 ·rintro l ⟨hl,he⟩ R hR;have hL:(aF .u32 (l++List.replicate (64-l.length) 0)).length=64:=by rw[bC];simp;omega
  by_cases hlt:l.length<16
  ·obtain⟨i,hi⟩: ∃i,i=l.length:=⟨_,rfl⟩;obtain⟨a,b,c,d,h4,-⟩:=four blk (i:=i) oO;obtain⟨q0,q1,q2,q3⟩:=Yq h4;have hV:xB blk i=m8 (m8 (m8 a.toNat b.toNat) c.toNat) d.toNat:=by rw[aaP,xB,h4]
   have hgo:=hR (l++[xB blk i]) ⟨by simp;omega,by
    rw[bU,List.length_singleton,List.range_succ,mj,<-he,<-hi];rfl⟩ (by simp;omega)
   rw[<-WX l _ oO,bU,List.length_singleton]at hgo;rw[WW l oO];have hg:=Pd l;have hp:=Pf l;have hn:=fun x=>Pe l x oO
   rw[hV]at hgo;rw[<-hi]at hg hp hgo⊢;have t0: ∀ _:True,((4:Int)*(i:Int)).toNat=4*i:=fun _=>oO
   have t1: ∀ _:True,((4:Int)*(i:Int)+1).toNat=4*i+1:=fun _=>oO
   have t2: ∀ _:True,((4:Int)*(i:Int)+2).toNat=4*i+2:=fun _=>oO
   have t3: ∀ _:True,((4:Int)*(i:Int)+3).toNat=4*i+3:=fun _=>oO
   clear hR he h4 hV hL;repeat' first|simp only[go_sem,seval,hb,hg,hp,hn,t0 oT,t1 oT,t2 oT,t3 oT,q0,q1,q2,q3,ZY,aaQ,w0,Int.add_zero,Int.zero_add]|(refine aj ?_)|refine oE ?_|apply xX<;>intro hc
   refine hgo _ ?_
   (refine AS.Le.of (by first|decide|omega) ?_ ?_<;>simp[dw,du,aS,aC,AV.bd,AV.bd.bdL,u8,an,ar,aA])
   all_goals first|omega|(unfold ur;simp[aA])
  ·have hl16:l.length=16:=oO;have hs0:l=(List.range 16).map (xB blk):=by rw[<-hl16];exact he
   rw[hl16];rw[hl16]at hL;clear hR he hlt hl;refine qi ?_;refine ak (α:=List Nat) (fun l=>64-l.length) (fun l=>⟨[(3, .rs 1001 0 0 64 1),(6,E' l.length)],[(1001,⟨0,aF .u32 (l++List.replicate (64-l.length) 0),false,none⟩)],_⟩) (fun l=>16<=l.length/\l.length<=64/\LQ (64-l.length) l=sched blk) l (fun _=>aD _) ⟨oO,oO,by rw[hl16,hs0];rfl⟩ ?_ ?_
   ·rw[hl16];exact lE
   ·clear hs0 hL hl16 l;rintro l ⟨hl1,hl2,he⟩ R hR;have hL:(aF .u32 (l++List.replicate (64-l.length) 0)).length=64:=by rw[bC];simp;omega
    obtain⟨i,hi⟩: ∃i,i=l.length:=⟨_,rfl⟩
    by_cases hlt:l.length<64
    ·have hgo:=hR (l++[DA l]) ⟨by simp;omega,by simp;omega,by
      have:64-l.length=(64-(l++[DA l]).length)+1:=by simp;omega
      rw[this]at he;exact he⟩ (by simp;omega)
     have hse:=Dz l 64 (DA l) hlt;have hg: ∀k:Nat,0<k->k<=16->(aF .u32 (l++List.replicate (64-l.length) 0)).getD ((i:Int)-(k:Int)).toNat .u= .v (.i .u32 (l.getD (i-k) 0:Nat)):=fun k h0 h1=>by
      rw[show((i:Int)-(k:Int)).toNat=i-k by omega,dF (by simp;omega),Fp l _ _ oO]
     have g15:(aF .u32 (l++List.replicate (64-l.length) 0)).getD ((i:Int)-15).toNat .u= _:=hg 15 oC oC;have g2:(aF .u32 (l++List.replicate (64-l.length) 0)).getD ((i:Int)-2).toNat .u= _:=hg 2 oC oC;have g16:(aF .u32 (l++List.replicate (64-l.length) 0)).getD ((i:Int)-16).toNat .u= _:=hg 16 oC oC;have g7:(aF .u32 (l++List.replicate (64-l.length) 0)).getD ((i:Int)-7).toNat .u= _:=hg 7 oC oC;have hN:DA l=ad (ad (ad (l.getD (i-16) 0) (qk (qk (rr (l.getD (i-15) 0) 7) (rr (l.getD (i-15) 0) 18)) (l.getD (i-15) 0/8))) (l.getD (i-7) 0)) (qk (qk (rr (l.getD (i-2) 0) 17) (rr (l.getD (i-2) 0) 19)) (l.getD (i-2) 0/1024)):=by rw[hi];rfl
     rw[hN]at hgo hse;rw[<-hi]at hL hse g15 g2 g16 g7⊢;clear hR he hN hg;generalize l.getD (i-16) 0=w16 at*;generalize l.getD (i-15) 0=w15 at*;generalize l.getD (i-7) 0=w7 at*;generalize l.getD (i-2) 0=w2 at*;have r7:=ja w15 7 oC oC;have r18:=ja w15 18 oC oC;have r17:=ja w2 17 oC oC;have r19:=ja w2 19 oC oC;refine Ey (aN @hL (aN @g15 (aN @g2 (aN @g16 (aN @g7 (aN @qo @Xx)))))) @r7 @r18 @r17 @r19 ?_;refine hgo _ ?_;rw[eB (x:=ad (ad (ad w16 (qk (qk (rr w15 7) (rr w15 18)) (w15/8))) w7) (qk (qk (rr w2 17) (rr w2 19)) (w2/1024))) (by rw[bC]at hL;omega) rfl,hse]
     (refine AS.Le.of (by first|decide|omega) ?_ ?_<;>simp[dw,du,aS,aC,AV.bd,AV.bd.bdL,u8,an,ar,aA])
     all_goals first|omega|skip
    ·have hl64:l.length=64:=oO;rw[hl64]at he hi hL⊢;have he:l=sched blk:=he;rw[ic,List.replicate_zero,iM]at hL⊢;rw[<-he];have k1:List.take 64 (aF .u32 l)=aF .u32 l:=cZ (by rw[bC];omega)
     have k3:(wl l).length=64:=by rw[qV,hl64]
     have k4:=MW l hl64;have k5:=Hk l;repeat' first|simp only[go_sem,seval,hL,k1,k3,k4,k5,jx,Ho,PT]|refine oE ?_|apply xX<;>intro hc
     all_goals skip
theorem G7 (n:Nat):UInt8.ofNat (IntKind.u8.wrap (n:Int)).toNat=UInt8.ofNat n:=by
 rw[rE];apply ye;simp;omega
theorem MN (n:Nat):UInt8.ofNat (n%256)=UInt8.ofNat n:=by
 apply ye;simp
theorem HP {s:Bytes} (hs:s.length<1000000000):aE 500 [.s s] (.s (pad s)):=by
 refine eW call500 func500 ?_;refine qi ?_;refine ak (α:=Nat) (fun c=>64-c) (fun c=>⟨[(0, .v (.s (s++128::zy c))),(3,E' s.length)],[],_⟩) (fun c=>c<=(119-s.length%64)%64) 0 (fun _=>aD _) (aO _) ?_ ?_
 ·(refine AS.Le.of (by first|decide|omega) ?_ ?_<;>simp[dw,du,aS,aC,AV.bd,AV.bd.bdL,u8,an,ar,aA])
  all_goals rfl
 ·intro c hc R hR;have hl:(s++128::zy c).length=s.length+1+c:=by simp[Ik];omega
  have hz:s++128::zy c++[0]=s++128::zy (c+1):=by
   rw[ft];congr 1;unfold zy;rw[Es];rfl
  obtain⟨L,hLL⟩: ∃L,L=s++128::zy c:=⟨_,rfl⟩;rw[<-hLL]at hl hz⊢
  by_cases hlt:c=(119-s.length%64)%64
  ·have h5: ∀ _:True,(((s.length+1+c)%64:Nat):Int)=56:=fun _=>oO
   have w1: ∀ _:True,IntKind.u64.wrap (s.length:Int)=(s.length:Int):=fun _=>by rw[Bq];omega
   have w2: ∀ _:True,IntKind.u64.wrap ((s.length:Int)*8)=((s.length*8:Nat):Int):=fun _=>by rw[Bq];omega
   clear hR;refine eJ (aN @hl (aN (h5 oT) (aN (w1 oT) (w2 oT)))) ?_;obtain⟨N,hN⟩: ∃N,N=s.length*8:=⟨_,rfl⟩;rw[<-hN];clear h5 w1 w2 hz;repeat' first|simp only[go_sem,seval,zw,pS,G7,MN,eZ,Nat.reduceMul]|(refine aj ?_)|refine oE ?_|apply xX<;>intro hc
   rw[hLL,hlt,hN,pad];simp only[be,zy,ft,List.cons_append,List.nil_append,Nat.reducePow,Nat.pow_zero,iI]
  ·have h5: ∀ _:True,¬(((s.length+1+c)%64:Nat):Int)=56:=fun _=>oO
   have hgo:=hR (c+1) oO oO;rw[<-hz]at hgo;clear hR hz;refine eJ (aN @hl (h5 oT)) ?_;refine hgo _ ?_
   (refine AS.Le.of (by first|decide|omega) ?_ ?_<;>simp[dw,du,aS,aC,AV.bd,AV.bd.bdL,u8,an,ar,aA])
   all_goals first|omega|skip
