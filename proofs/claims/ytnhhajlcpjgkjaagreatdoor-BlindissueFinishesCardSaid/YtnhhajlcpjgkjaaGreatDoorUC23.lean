/- Part of the proof. -/
import Derived.Test.YtnhhajlcpjgkjaaGreatDoorUC21
set_option linter.all false
set_option maxHeartbeats 16000000
set_option maxRecDepth 100000
namespace Go.Proofs.Tryz
open Go Go.Dom
variable {el:Option TypeId}
def wl (l:List Nat):List PV:=l.map fun n:Nat=>PV.i .u32 n
theorem N7 (l:List Nat):List.map AV.v (wl l)=aF .u32 l:=by simp[wl,aF]
theorem pZ (l:List Nat):(wl l).length=l.length:=aL ..
theorem iW {g:AV->Option PV} (hg: ∀n:Nat,g (.v (.i .u32 (n:Int)))=some (.i .u32 n)) (l:List Nat):aW g (aF .u32 l)=some (wl l):=by
 unfold aF wl
 induction l with
 |nil=>rfl
 |cons x l ih=>rw[bV,bV,aW,hg,ih]
theorem Xk: ∀n:Fin 32,0<n.val->me .u64 (IntKind.u64.wrap (-(n.val:Int))) 31=((32-n.val:Nat):Int):=by decide+kernel
theorem SL (x n:Nat) (h0:0<n) (h:n<32):aE 536 [.i .u32 x,E (-(n:Int))] (.i .u32 (rr x n)):=by
 have e1:=Xk ⟨n,h⟩ h0;simp only at e1;have e2: ∀ _:True,(if 32-n<=32 then 32-n else 32)=32-n:=fun _=>ah oO
 have e3: ∀ _:True,(32:Int)-((32-n:Nat):Int)=(n:Int):=fun _=>oO
 have e4: ∀ _:True,(if n<=32 then n else 32)=n:=fun _=>ah oO
 refine eW call536 func536 ?_;refine eC (aN @e1 (aN (e2 oT) (aN (e3 oT) (aN (e4 oT) (aN @Xe @ZK))))) ?_;rw[rr,My]
theorem kz (x n:Nat) (h0:0<n) (h:n<32):aE 523 [.i .u32 x,E n] (.i .u32 (rr x n)):=by
 have hr:=SL x n h0 h;have e:(0:Int)-(n:Int)= -(n:Int):=oO;refine eW call523 func523 ?_;exact lF @e @hr
theorem LW:aE 492 [] (.agg (wl nV)):=by
 refine eW call492 func492 ?_;exact z0
theorem By:aE 521 [] (.agg (wl po)):=by
 refine eW call521 func521 ?_;exact z0
theorem YF (a b c d:UInt8):AF (AF (AF (vg a.toNat 24) (vg b.toNat 16)) (vg c.toNat 8)) d.toNat=num [a,b,c,d]:=by
 have ha:=a.toNat_lt;have hb:=b.toNat_lt;have hc:=c.toNat_lt;have hd:=d.toNat_lt;have e1:vg a.toNat 24=a.toNat*2^24:=by unfold vg;omega
 have e2:vg b.toNat 16=b.toNat*2^16:=by unfold vg;omega
 have e3:vg c.toNat 8=c.toNat*2^8:=by unfold vg;omega
 have f1:AF (vg a.toNat 24) (vg b.toNat 16)=a.toNat*2^24+b.toNat*2^16:=by
  rw[AF,e1,e2,bw oO,bw oO,Er oO]
 have f2:AF (AF (vg a.toNat 24) (vg b.toNat 16)) (vg c.toNat 8)=(a.toNat*2^8+b.toNat)*2^16+c.toNat*2^8:=by
  rw[AF,f1,e3,bw oO,bw oO,show a.toNat*2^24+b.toNat*2^16=(a.toNat*2^8+b.toNat)*2^16 by omega,Er oO]
 rw[AF,f2,bw oO,bw oO,show(a.toNat*2^8+b.toNat)*2^16+c.toNat*2^8=((a.toNat*2^8+b.toNat)*2^8+c.toNat)*2^8 by omega,Er oO]
 simp[num];omega
theorem four (l:Bytes) {i:Nat} (h:4*i+4<=l.length): ∃a b c d,(l.drop (4*i)).take 4=[a,b,c,d]/\((l.map u8).take (4*i+4)).drop (4*i)=[u8 a,u8 b,u8 c,u8 d]:=by
 have hl:((l.drop (4*i)).take 4).length=4:=by simp;omega
 have e:((l.map u8).take (4*i+4)).drop (4*i)=((l.drop (4*i)).take 4).map u8:=by
  rw[<-wM,<-td,tw];congr 2;omega
 generalize (l.drop (4*i)).take 4=m at hl e
 match m,hl with
 |[a,b,c,d],_=>exact⟨a,b,c,d,rfl,e⟩
theorem ZJ (a:Nat):IntKind.u32.wrap ((a:Int)*16777216)=((vg a 24:Nat):Int):=Xe a 24
theorem ZI (a:Nat):IntKind.u32.wrap ((a:Int)*65536)=((vg a 16:Nat):Int):=Xe a 16
theorem mk8 (a:Nat):IntKind.u32.wrap ((a:Int)*256)=((vg a 8:Nat):Int):=Xe a 8
theorem Yz (c:UInt8):IntKind.u32.wrap ((c.toNat:Nat):Int)=((c.toNat:Nat):Int):=by
 have:=c.toNat_lt;rw[Kr];omega
theorem Cn (l:List Nat) (n x:Nat) (h:l.length<n):(l++List.replicate (n-l.length) 0).set l.length x=(l++[x])++List.replicate (n-(l++[x]).length) 0:=by
 obtain⟨k,hk⟩: ∃k,n-l.length=k+1:=⟨n-l.length-1,oO⟩;rw[hk,List.replicate_succ,List.set_append_right _ _ (aD _),gS,List.set_cons_zero];have:n-(l++[x]).length=k:=by simp;omega
 rw[this];simp
theorem D5 (l:List Nat) (k i:Nat) (h:i<l.length):(l++List.replicate k 0).getD i 0=l.getD i 0:=by
 simp[ca,ti h]
def zz (n:Nat):List Nat:=List.replicate n 0
theorem IJ:(aF .u32 (zz 64)).length=64:=by rw[br];rfl
theorem ET {blk:Bytes} (hb:blk.length=64):aE 522 [.sl (blk.map u8)] (.agg (wl (sched blk))):=by
 have lb:(blk.map u8).length=64:=by rw[aL,hb]
 refine eW call522 func522 ?_;refine qY ?_;refine ak (α:=List Nat) (fun l=>16-l.length) (fun l=>⟨[(0, .v (.sl (blk.map u8))),(2, .p 1000 0 0),(3, .p 1001 0 0),(9,E' l.length)],[(1000,⟨0,aF .u32 (zz 64),false,some 502⟩),(1001,⟨0,aF .u32 (l++List.replicate (64-l.length) 0),false,some 502⟩)],_⟩) (fun l=>l.length<=16/\l=(List.range l.length).map (vK blk)) [] (fun _=>aD _) ⟨by decide,rfl⟩ ?_ ?_
 ·refine lG ?_;all_goals exact⟨rfl,rfl⟩
 ·rintro l ⟨hl,he⟩ R hR;have hL:(aF .u32 (l++List.replicate (64-l.length) 0)).length=64:=by rw[br];simp;omega
  obtain⟨i,hi⟩: ∃i,i=l.length:=⟨_,rfl⟩
  by_cases hlt:l.length<16
  ·obtain⟨a,b,c,d,h4,h5⟩:=four blk (i:=i) oO;have hV:vK blk i=AF (AF (AF (vg a.toNat 24) (vg b.toNat 16)) (vg c.toNat 8)) d.toNat:=by rw[YF,vK,h4]
   have hgo:=hR (l++[vK blk i]) ⟨by simp;omega,by
    rw[bY,List.length_singleton,List.range_succ,lu,<-he,<-hi];rfl⟩ (by simp;omega)
   have hse:=Cn l 64 (vK blk i) oO;rw[hV]at hgo hse;have t1: ∀ _:True,((4:Int)*(i:Int)).toNat=4*i:=fun _=>oO
   have t2: ∀ _:True,((4:Int)*(i:Int)+4).toNat=4*i+4:=fun _=>oO
   have hcl: ∀x∈blk.map u8,x.cells.length=1:=fun x hx=>by obtain⟨c,-,rfl⟩:=cv.1 hx;rfl
   rw[<-hi]at hL⊢;clear hR he h4 hV;refine eC (aN @lb (aN @hL (aN (t1 oT) (aN (t2 oT) (aN @h5 (aN @ZJ (aN @ZI (aN @mk8 (aN @Yz @ZK))))))))) ?_;refine⟨⟨oO,hcl⟩,oO,oO,?_⟩;refine vP ?_;refine hgo _ ?_;rw[<-hi]at hse;rw[dT (x:=AF (AF (AF (vg a.toNat 24) (vg b.toNat 16)) (vg c.toNat 8)) d.toNat) (by rw[br]at hL;omega) rfl,hse]
   (refine AS.Le.of (by first|decide|omega) ?_ ?_<;>simp[dA,dz,aS,aB,AV.bd,AV.bd.bdL,u8,aq,au,aA])
   all_goals first|omega|skip
  ·have hl16:l.length=16:=oO;have hs0:l=(List.range 16).map (vK blk):=by rw[<-hl16];exact he
   rw[hl16];rw[hl16]at hL;clear hR he hlt hl hi;refine qY ?_;refine ak (α:=List Nat) (fun l=>64-l.length) (fun l=>⟨[(2, .p 1000 0 0),(3, .p 1001 0 0),(6,E' l.length)],[(1000,⟨0,aF .u32 (zz 64),false,some 502⟩),(1001,⟨0,aF .u32 (l++List.replicate (64-l.length) 0),false,some 502⟩)],_⟩) (fun l=>16<=l.length/\l.length<=64/\Kk (64-l.length) l=sched blk) l (fun _=>aD _) ⟨oO,oO,by rw[hl16,hs0];rfl⟩ ?_ ?_
   ·rw[hl16];exact lE
   ·clear hs0 hL hl16 i l;rintro l ⟨hl1,hl2,he⟩ R hR;have hL:(aF .u32 (l++List.replicate (64-l.length) 0)).length=64:=by rw[br];simp;omega
    obtain⟨i,hi⟩: ∃i,i=l.length:=⟨_,rfl⟩
    by_cases hlt:l.length<64
    ·have hgo:=hR (l++[Co l]) ⟨by simp;omega,by simp;omega,by
      have:64-l.length=(64-(l++[Co l]).length)+1:=by simp;omega
      rw[this]at he;exact he⟩ (by simp;omega)
     have hse:=Cn l 64 (Co l) hlt;have hg: ∀k:Nat,0<k->k<=16->(aF .u32 (l++List.replicate (64-l.length) 0)).getD ((i:Int)-(k:Int)).toNat .u= .v (.i .u32 (l.getD (i-k) 0:Nat)):=fun k h0 h1=>by
      rw[show((i:Int)-(k:Int)).toNat=i-k by omega,du (by simp;omega),D5 l _ _ oO]
     have g15:(aF .u32 (l++List.replicate (64-l.length) 0)).getD ((i:Int)-15).toNat .u= _:=hg 15 oC oC;have g2:(aF .u32 (l++List.replicate (64-l.length) 0)).getD ((i:Int)-2).toNat .u= _:=hg 2 oC oC;have g16:(aF .u32 (l++List.replicate (64-l.length) 0)).getD ((i:Int)-16).toNat .u= _:=hg 16 oC oC;have g7:(aF .u32 (l++List.replicate (64-l.length) 0)).getD ((i:Int)-7).toNat .u= _:=hg 7 oC oC;have hN:Co l=ad (ad (ad (l.getD (i-16) 0) (px (px (rr (l.getD (i-15) 0) 7) (rr (l.getD (i-15) 0) 18)) (l.getD (i-15) 0/8))) (l.getD (i-7) 0)) (px (px (rr (l.getD (i-2) 0) 17) (rr (l.getD (i-2) 0) 19)) (l.getD (i-2) 0/1024)):=by rw[hi];rfl
     rw[hN]at hgo hse;rw[<-hi]at hL hse g15 g2 g16 g7⊢;clear hR he hN hg;generalize l.getD (i-16) 0=w16 at*;generalize l.getD (i-15) 0=w15 at*;generalize l.getD (i-7) 0=w7 at*;generalize l.getD (i-2) 0=w2 at*;have r7:=kz w15 7 oC oC;have r18:=kz w15 18 oC oC;have r17:=kz w2 17 oC oC;have r19:=kz w2 19 oC oC;refine Di (aN @hL (aN @g15 (aN @g2 (aN @g16 (aN @g7 (aN @pC @Wa)))))) @r7 @r18 @r17 @r19 ?_;refine hgo _ ?_;rw[dT (x:=ad (ad (ad w16 (px (px (rr w15 7) (rr w15 18)) (w15/8))) w7) (px (px (rr w2 17) (rr w2 19)) (w2/1024))) (by rw[br]at hL;omega) rfl,hse]
     (refine AS.Le.of (by first|decide|omega) ?_ ?_<;>simp[dA,dz,aS,aB,AV.bd,AV.bd.bdL,u8,aq,au,aA])
     all_goals first|omega|skip
    ·have hl64:l.length=64:=oO;rw[hl64]at he hi hL⊢;have he:l=sched blk:=he;rw[gS,List.replicate_zero,iu]at hL⊢;rw[<-he];have k1:List.take 64 (aF .u32 l)=aF .u32 l:=c9 (by rw[br];omega)
     have k2:List.drop 64 (aF .u32 (zz 64))=[]:=iS (by rw[IJ];decide)
     have k3:(wl l).length=64:=by rw[pZ,hl64]
     repeat' first|simp only[go_sem,seval,hL,k1,k2,k3,iW,N7,IJ]|refine oE ?_|apply xX<;>intro hc
     all_goals skip
theorem V7 {l:List Nat} (h:l.length=8): ∃a b c d e f g i,l=[a,b,c,d,e,f,g,i]:=by
 match l,h with
 |[a,b,c,d,e,f,g,i],_=>exact⟨_,_,_,_,_,_,_,_,rfl⟩
theorem YS (a b c d e f g h:Nat):aF .u32 [a,b,c,d,e,f,g,h]=[.v (.i .u32 (a:Int)), .v (.i .u32 (b:Int)), .v (.i .u32 (c:Int)), .v (.i .u32 (d:Int)), .v (.i .u32 (e:Int)), .v (.i .u32 (f:Int)), .v (.i .u32 (g:Int)), .v (.i .u32 (h:Int))]:=rfl
theorem R6 (k w a b c d e f g h:Nat):NJ k w [a,b,c,d,e,f,g,h]=[ad (NL k w [a,b,c,d,e,f,g,h]) (VI [a,b,c,d,e,f,g,h]),a,b,c,ad d (NL k w [a,b,c,d,e,f,g,h]),e,f,g]:=rfl
theorem R7 (k w a b c d e f g h:Nat):NL k w [a,b,c,d,e,f,g,h]=ad (ad (ad (ad h (px (px (rr e 6) (rr e 11)) (rr e 25))) (px (Kw e f) (Kw (Xi e) g))) k) w:=rfl
theorem R8 (a b c d e f g h:Nat):VI [a,b,c,d,e,f,g,h]=ad (px (px (rr a 2) (rr a 13)) (rr a 22)) (px (px (Kw a b) (Kw a c)) (Kw b c)):=rfl
theorem Ux (e:Nat):IntKind.u32.wrap ((@BitVec.toNat 32 (@HXor.hXor (BitVec 32) (BitVec 32) (BitVec 32) (@instHXorOfXorOp (BitVec (IntKind.bits .u32)) (@BitVec.instXorOp (IntKind.bits .u32))) (BitVec.ofInt 32 (if IntKind.u32.signed=true then-1 else IntKind.u32.max)) (BitVec.ofNat 32 e)):Nat):Int)=((Xi e:Nat):Int):=by
 have h:=n_r e;rw[fY]at h;exact h
theorem KN {st:List Nat} (hs:st.length=8) {blk:Bytes} (hb:blk.length=64):aE 493 [.agg (wl st), .sl (blk.map u8)] (.agg (wl (qO st blk))):=by
 have hc:=By;have hd:=ET hb;have k0:(wl st).length=8:=by rw[pZ,hs]
 have k1:(wl po).length=64:=rfl;have k2:(wl (sched blk)).length=64:=by rw[pZ,lO]
 have k3:(aF .u32 st).length=8:=by rw[br,hs]
 have k4:List.take 64 (aF .u32 (sched blk))=aF .u32 (sched blk):=c9 (by rw[br,lO];omega)
 have k5:List.take 64 (aF .u32 po)=aF .u32 po:=c9 (by rw[br];decide)
 have k6:List.take 8 (aF .u32 st)=aF .u32 st:=c9 (by rw[br];omega)
 have k7:(aF .u32 (sched blk)).length=64:=by rw[br,lO]
 have k8:(aF .u32 po).length=64:=by rw[br];rfl
 refine eW call493 func493 ?_;refine G4 (aN @k0 (aN @k1 (aN @k2 (aN @k3 (aN @k4 (aN @k5 (aN @k6 (aN @k7 (aN @k8 (aN @N7 @iW)))))))))) @hc @hd ?_;refine ak (α:=List Nat×Nat) (fun p=>64-p.2) (fun p=>⟨[(2, .p 1000 0 0),(4, .p 1001 0 0),(5, .p 1005 0 0),(6, .p 1006 0 0),(7, .p 1010 0 0),(22,E' p.2)],[(1000,⟨0,aF .u32 st,false,none⟩),(1001,⟨0,[.v (.i .u32 0), .v (.i .u32 0), .v (.i .u32 0), .v (.i .u32 0), .v (.i .u32 0), .v (.i .u32 0), .v (.i .u32 0), .v (.i .u32 0)],false,some 481⟩),(1005,⟨0,aF .u32 po,false,some 502⟩),(1006,⟨0,aF .u32 (sched blk),false,some 502⟩),(1010,⟨0,aF .u32 p.1,false,some 481⟩)],_⟩) (fun p=>p.1.length=8/\p.2<=64/\uK (sched blk) (64-p.2) p.1=uK (sched blk) 64 st) (st,0) (fun _=>aD _) ⟨hs,aR _,rfl⟩ ?_ ?_
 ·exact lE
 ·rintro⟨v,i⟩ ⟨hv,hi,he⟩ R hR;obtain⟨a,b,c,d,e,f,g,h,rfl⟩:=V7 hv
  by_cases hlt:i<64
  ·have hgo:=hR (NJ (po.getD i 0) ((sched blk).getD i 0) [a,b,c,d,e,f,g,h],i+1) ⟨rfl,hlt,by
    rw[show 64-i=(64-(i+1))+1 by omega,uK,show 63-(64-(i+1))=i by omega]at he;exact he⟩ (by simp;omega)
   have gk:(aF .u32 po).getD i .u= .v (.i .u32 (po.getD i 0:Nat)):=du (by exact hlt)
   have gw:(aF .u32 (sched blk)).getD i .u= .v (.i .u32 ((sched blk).getD i 0:Nat)):=du (by rw[lO];exact hlt)
   have r6:=kz e 6 oC oC;have r11:=kz e 11 oC oC;have r25:=kz e 25 oC oC;have r2:=kz a 2 oC oC;have r13:=kz a 13 oC oC;have r22:=kz a 22 oC oC;simp only[R6,R7,R8,YS]at hgo⊢;generalize po.getD i 0=ki at hgo gk;generalize (sched blk).getD i 0=wi at hgo gw;clear hR he hv;refine YK (aN @k7 (aN @k8 (aN @gk (aN @gw (aN @pC (aN @Wa (aN @YR @Ux))))))) @r6 @r11 @r25 @r2 @r13 @r22 oT ?_;refine hgo _ ?_
   (refine AS.Le.of (by first|decide|omega) ?_ ?_<;>simp[dA,dz,aS,aB,AV.bd,AV.bd.bdL,u8,aq,au,aA])
   all_goals first|omega|(erw [Ux e];simp only[YR,Wa,pC,and_self])
  ·have hl:i=64:=oO;subst hl;have he:[a,b,c,d,e,f,g,h]=uK (sched blk) 64 st:=he;have hw:qO st blk=List.zipWith ad [a,b,c,d,e,f,g,h] st:=by rw[qO,<-he]
   rw[hw];clear hR he hv hw;obtain⟨s0,s1,s2,s3,s4,s5,s6,s7,rfl⟩:=V7 hs;simp only[YS];repeat' first|simp only[go_sem,seval,k7,k8,pC]|refine oE ?_|apply xX<;>intro hc
   all_goals refine aj ?_
   repeat' first|simp only[go_sem,seval,k7,k8,pC]|refine oE ?_|apply xX<;>intro hc
   all_goals refine aj ?_
   repeat' first|simp only[go_sem,seval,k7,k8,pC]|refine oE ?_|apply xX<;>intro hc
   all_goals refine aj ?_
   repeat' first|simp only[go_sem,seval,k7,k8,pC]|refine oE ?_|apply xX<;>intro hc
   all_goals refine aj ?_
   repeat' first|simp only[go_sem,seval,k7,k8,pC]|refine oE ?_|apply xX<;>intro hc
   all_goals refine aj ?_
   repeat' first|simp only[go_sem,seval,k7,k8,pC]|refine oE ?_|apply xX<;>intro hc
   all_goals refine aj ?_
   repeat' first|simp only[go_sem,seval,k7,k8,pC]|refine oE ?_|apply xX<;>intro hc
   all_goals refine aj ?_
   repeat' first|simp only[go_sem,seval,k7,k8,pC]|refine oE ?_|apply xX<;>intro hc
   all_goals refine aj ?_
   repeat' first|simp only[go_sem,seval,k7,k8,pC]|refine oE ?_|apply xX<;>intro hc
   all_goals refine aj ?_
   exact gU (aN @k7 (aN @k8 @pC))
def zy (n:Nat):Bytes:=List.replicate n 0
theorem G5 (n:Nat):(zy n).length=n:=CM
theorem mk0 (n:Nat):(List.replicate n [AV.v (.i .u8 0)]).flatten=aJ (zy n):=by
 unfold zy
 induction n with
 |zero=>rfl
 |succ n ih=>rw[List.replicate_succ,List.flatten_cons,ih,List.replicate_succ];rfl
theorem FD (l:Bytes):(aJ l).all AV.one=true:=by
 unfold aJ
 induction l with
 |nil=>rfl
 |cons c l ih=>rw[bV,List.all_cons,ih];rfl
theorem nH (l:Bytes) (n:Nat):List.drop n (aJ l)=aJ (l.drop n):=by unfold aJ;exact(td ..).symm
theorem mL (l:Bytes) (n:Nat):List.take n (aJ l)=aJ (l.take n):=by unfold aJ;exact(wM ..).symm
theorem su (l:Bytes) (n:Nat):aJ l++[AV.v (.i .u8 (IntKind.u8.wrap (n:Int)))]=aJ (l++[UInt8.ofNat n]):=by
 rw[<-jK];congr 1
theorem Lr (l:Bytes):aJ l++[AV.v (.i .u8 0)]=aJ (l++[0]):=by rw[<-jK];rfl
theorem Ls (l:Bytes):aJ l++[AV.v (.i .u8 128)]=aJ (l++[128]):=by rw[<-jK];rfl
theorem Kq {hf:Nat->Option aH} {f n ver o m:Nat} {l:Bytes} {gr:Bool} (hm:o+m<=l.length) (h:hf n=some ⟨ver,aJ l,gr,el⟩):
  view hf (f+2) (.rs n ver o m 1)=some (.sl (((l.drop o).take m).map u8)):=by
 have h1:aW (view hf (f+1)) (aJ ((l.drop o).take m))=some (((l.drop o).take m).map u8):=by
  have:=ie hf f (((l.drop o).take m).map u8);rw[iF]at this;exact this
 have h2:(aJ ((l.drop o).take m)).all AV.one=true:=FD _;have h3:chunk 1 m (((l.drop o).take m).map u8)=((l.drop o).take m).map u8:=by
  have:=Bv (((l.drop o).take m).map u8)
  rwa[aL,cf,kD,o5 oO]at this
 simp only[view,h,nH,mL,lY,dK,h1,h2,h3,hm,Option.map_some];simp
theorem GZ {hf:Nat->Option aH} {f n ver o m:Nat} {l:Bytes} {gr:Bool} (h:hf n=some ⟨ver,aJ l,gr,el⟩):
  bC hf (f+2) (.rs n ver o m 1)=[n]:=by
 have h1: ∀l:Bytes,(aJ l).flatMap (bC hf (f+1))=[]:=fun l=>by
  unfold aJ
  induction l with
  |nil=>rfl
  |cons x r ih=>simp_all[bC]
 simp only[bC,h,nH,mL,h1]
theorem o7 (n:Nat):AV.byte (.v (.i .u8 (IntKind.u8.wrap (n:Int))))=UInt8.ofNat n:=by
 simp[AV.byte,PV.byte,qC];apply w9;simp;omega
theorem xY (n:Nat):AV.isByte (.v (.i .u8 (IntKind.u8.wrap (n:Int))))=True:=by
 simp[AV.isByte,PV.isByte,qC]
theorem PJ (l:List Nat):(PV.agg (wl l)).flat=true:=by
 unfold wl
 induction l with
 |nil=>rfl
 |cons x l ih=>simp_all[PV.flat,PV.flat.flatL]
theorem Sn {P:Program} [cE P] {Q:AX->AS->Prop} {nx:Nat} {bf:Option (List Nat)} {nn:Nat} {d:Option Nat} {ops:List jE} {k:Nat} {s:AS} {tr:List (Nat×List Nat×List Nat)} {K:List Fr} {nm:Nat} {f:FuncId} {n ver o m:Nat} {l:Bytes} {gr:Bool} {x r:PV}
  (he:p9 P f [x, .sl (((l.drop o).take m).map u8)] r) (hr:r.flat=true) (hg:aB s.h n=some ⟨ver,aJ l,gr,el⟩) (hm:o+m<=l.length) (hK:RW P Q nx bf nn ops (k+1) (s.rP d (.v r) []) (wA bf k [n] [] tr) K):
  CR P Q nx bf nn nm (.v (.fn (.func f))) [.v x, .rs n ver o m 1] d ops k s tr K:=by
 refine e7 he ?_ hr ?_
 ·simp[aW,Kq hm hg];rfl
 ·have:[AV.v x,AV.rs n ver o m 1].flatMap (bC (aB s.h) 9)=[n]:=by simp[GZ hg];rfl
  rw[this];exact hK
theorem tV {s:Bytes} (hs:s.length<1000000000):aE 437 [.s s] (.s (lg s)):=by
 have hf:=LW;have t1: ∀ _:True,((s.length:Int)+72)=((s.length+72:Nat):Int):=fun _=>oO
 have e1:List.drop s.length (zy (s.length+72))=zy 72:=by
  unfold zy;rw[List.drop_replicate,Nat.add_sub_cancel_left]
 have e2:List.take s.length (s++zy 72)=s:=List.take_left' rfl;have e3:s.length<=(s++zy 72).length:=by simp
 have k1:(wl nV).length=8:=rfl;have k2:(aF .u32 nV).length=8:=rfl;have k3:List.take 8 (aF .u32 nV)=aF .u32 nV:=c9 (by rw[br];decide)
 have k4:List.drop 8 (aF .u32 nV)=[]:=iS (by rw[br];decide)
 refine eW call437 func437 ?_;refine dY (aN (t1 oT) (aN @mk0 (aN @nH (aN @mL (aN @RA (aN @jK (aN @Ls (aN @G5 (aN @e1 @e2))))))))) ?_;refine ak (α:=Nat) (fun c=>64-c) (fun c=>⟨[(0, .v (.s s)),(3, .rs 1006 (1+c) 0 (s.length+1+c) 1)],[(1006,⟨1+c,aJ (s++128::zy c),true,none⟩)],1015⟩) (fun c=>c<=(119-s.length%64)%64) 0 (fun _=>aD _) (aR _) ?_ ?_
 ·(refine AS.Le.of (by first|decide|omega) ?_ ?_<;>simp[dA,dz,aS,aB,AV.bd,AV.bd.bdL,u8,aq,au,aA])
  all_goals rfl
 ·intro c hc R hR;have hl:(s++128::zy c).length=s.length+1+c:=by simp[G5];omega
  have hT:List.take (s.length+1+c) (s++128::zy c)=s++128::zy c:=by rw[<-hl];exact cg
  have hz:s++128::zy c++[0]=s++128::zy (c+1):=by
   rw[fD];congr 1;unfold zy;rw[CJ];rfl
  by_cases hlt:c=(119-s.length%64)%64
  ·have h5: ∀ _:True,(((s.length+1+c)%64:Nat):Int)=56:=fun _=>oO
   have w1: ∀ _:True,IntKind.u64.wrap (s.length:Int)=(s.length:Int):=fun _=>by rw[zZ];omega
   have w2: ∀ _:True,IntKind.u64.wrap ((s.length:Int)*8)=((s.length*8:Nat):Int):=fun _=>by rw[zZ];omega
   clear hR;refine eC (aN @hl (aN @hT (aN @Lr (aN @nH (aN @mL (aN (h5 oT) (aN (w1 oT) (w2 oT)))))))) ?_;obtain⟨N,hN⟩: ∃N,N=s.length*8:=⟨_,rfl⟩;obtain⟨M0,hM0⟩: ∃M,M=s++128::zy c:=⟨_,rfl⟩;rw[<-hN,<-hM0];obtain⟨m0,hm0⟩: ∃m,m=s.length+1+c:=⟨_,rfl⟩;rw[<-hm0];have hL0:M0.length=m0:=by rw[hM0,hm0,hl]
   have hT0:List.take m0 M0=M0:=by rw[hm0,hM0,hT]
   obtain⟨v0,hv0⟩: ∃v,v=1+c:=⟨_,rfl⟩;rw[<-hv0];have hb1:m0<2000000000:=oO;clear hl hT hc h5 w1 w2;refine aj ?_;repeat' first|simp only[go_sem,seval,hL0,hT0,su,nH,mL]|refine oE ?_|apply xX<;>intro hc
   all_goals try refine⟨oO,?_⟩
   obtain⟨M1,hM1⟩: ∃x,x=M0++[UInt8.ofNat (N/72057594037927936)]:=⟨_,rfl⟩;obtain⟨m1,hm1⟩: ∃x,x=m0+1:=⟨_,rfl⟩;obtain⟨v1,hv1⟩: ∃x,x=v0+1:=⟨_,rfl⟩;rw[<-hM1,<-hm1,<-hv1];have hL1:M1.length=m1:=by rw[hM1,hm1,bY,hL0];rfl
   have hT1:List.take m1 M1=M1:=by rw[<-hL1];exact cg
   refine aj ?_;repeat' first|simp only[go_sem,seval,hL1,hT1,su,nH,mL]|refine oE ?_|apply xX<;>intro hc
   all_goals try refine⟨oO,?_⟩
   obtain⟨M2,hM2⟩: ∃x,x=M1++[UInt8.ofNat (N/281474976710656)]:=⟨_,rfl⟩;obtain⟨m2,hm2⟩: ∃x,x=m1+1:=⟨_,rfl⟩;obtain⟨v2,hv2⟩: ∃x,x=v1+1:=⟨_,rfl⟩;rw[<-hM2,<-hm2,<-hv2];have hL2:M2.length=m2:=by rw[hM2,hm2,bY,hL1];rfl
   have hT2:List.take m2 M2=M2:=by rw[<-hL2];exact cg
   refine aj ?_;repeat' first|simp only[go_sem,seval,hL2,hT2,su,nH,mL]|refine oE ?_|apply xX<;>intro hc
   all_goals try refine⟨oO,?_⟩
   obtain⟨M3,hM3⟩: ∃x,x=M2++[UInt8.ofNat (N/1099511627776)]:=⟨_,rfl⟩;obtain⟨m3,hm3⟩: ∃x,x=m2+1:=⟨_,rfl⟩;obtain⟨v3,hv3⟩: ∃x,x=v2+1:=⟨_,rfl⟩;rw[<-hM3,<-hm3,<-hv3];have hL3:M3.length=m3:=by rw[hM3,hm3,bY,hL2];rfl
   have hT3:List.take m3 M3=M3:=by rw[<-hL3];exact cg
   refine aj ?_;repeat' first|simp only[go_sem,seval,hL3,hT3,su,nH,mL]|refine oE ?_|apply xX<;>intro hc
   all_goals try refine⟨oO,?_⟩
   obtain⟨M4,hM4⟩: ∃x,x=M3++[UInt8.ofNat (N/4294967296)]:=⟨_,rfl⟩;obtain⟨m4,hm4⟩: ∃x,x=m3+1:=⟨_,rfl⟩;obtain⟨v4,hv4⟩: ∃x,x=v3+1:=⟨_,rfl⟩;rw[<-hM4,<-hm4,<-hv4];have hL4:M4.length=m4:=by rw[hM4,hm4,bY,hL3];rfl
   have hT4:List.take m4 M4=M4:=by rw[<-hL4];exact cg
   refine aj ?_;repeat' first|simp only[go_sem,seval,hL4,hT4,su,nH,mL]|refine oE ?_|apply xX<;>intro hc
   all_goals try refine⟨oO,?_⟩
   obtain⟨M5,hM5⟩: ∃x,x=M4++[UInt8.ofNat (N/16777216)]:=⟨_,rfl⟩;obtain⟨m5,hm5⟩: ∃x,x=m4+1:=⟨_,rfl⟩;obtain⟨v5,hv5⟩: ∃x,x=v4+1:=⟨_,rfl⟩;rw[<-hM5,<-hm5,<-hv5];have hL5:M5.length=m5:=by rw[hM5,hm5,bY,hL4];rfl
   have hT5:List.take m5 M5=M5:=by rw[<-hL5];exact cg
   refine aj ?_;repeat' first|simp only[go_sem,seval,hL5,hT5,su,nH,mL]|refine oE ?_|apply xX<;>intro hc
   all_goals try refine⟨oO,?_⟩
   obtain⟨M6,hM6⟩: ∃x,x=M5++[UInt8.ofNat (N/65536)]:=⟨_,rfl⟩;obtain⟨m6,hm6⟩: ∃x,x=m5+1:=⟨_,rfl⟩;obtain⟨v6,hv6⟩: ∃x,x=v5+1:=⟨_,rfl⟩;rw[<-hM6,<-hm6,<-hv6];have hL6:M6.length=m6:=by rw[hM6,hm6,bY,hL5];rfl
   have hT6:List.take m6 M6=M6:=by rw[<-hL6];exact cg
   refine aj ?_;repeat' first|simp only[go_sem,seval,hL6,hT6,su,nH,mL]|refine oE ?_|apply xX<;>intro hc
   all_goals try refine⟨oO,?_⟩
   obtain⟨M7,hM7⟩: ∃x,x=M6++[UInt8.ofNat (N/256)]:=⟨_,rfl⟩;obtain⟨m7,hm7⟩: ∃x,x=m6+1:=⟨_,rfl⟩;obtain⟨v7,hv7⟩: ∃x,x=v6+1:=⟨_,rfl⟩;rw[<-hM7,<-hm7,<-hv7];have hL7:M7.length=m7:=by rw[hM7,hm7,bY,hL6];rfl
   have hT7:List.take m7 M7=M7:=by rw[<-hL7];exact cg
   refine aj ?_;repeat' first|simp only[go_sem,seval,hL7,hT7,su,nH,mL]|refine oE ?_|apply xX<;>intro hc
   all_goals try refine⟨oO,?_⟩
   obtain⟨M8,hM8⟩: ∃x,x=M7++[UInt8.ofNat (N/1)]:=⟨_,rfl⟩;obtain⟨m8,hm8⟩: ∃x,x=m7+1:=⟨_,rfl⟩;obtain⟨v8,hv8⟩: ∃x,x=v7+1:=⟨_,rfl⟩;rw[<-hM8,<-hm8,<-hv8];have hL8:M8.length=m8:=by rw[hM8,hm8,bY,hL7];rfl
   have hT8:List.take m8 M8=M8:=by rw[<-hL8];exact cg
   have hP:M8=pad s:=by
    rw[hM8,hM7,hM6,hM5,hM4,hM3,hM2,hM1,hM0,hlt,hN,pad];simp only[be,zy,fD,List.cons_append,List.nil_append,Nat.reducePow,Nat.pow_zero,iq]
   clear hM8 hM7 hM6 hM5 hM4 hM3 hM2 hM1 hM0 hT0 hT1 hT2 hT3 hT4 hT5 hT6 hT7 hL0 hL1 hL2 hL3 hL4 hL5 hL6 hL7;subst hP;refine aj ?_;refine jd (aN @k1 (aN @k2 (aN @k3 (aN @k4 @N7)))) @hf ?_;clear hT8;obtain⟨l,hl⟩: ∃l,l=pad s:=⟨_,rfl⟩;have hm6:l.length=l.length/64*64:=by rw[hl];exact MK s
   have hsum:lg s=(nA (l.length/64) l nV).flatMap UZ:=by rw[hl];rfl
   rw[hsum];rw[<-hl]at hL8⊢;clear hsum hl hv1 hv2 hv3 hv4 hv5 hv6 hv7 hv8 hv0 hlt hN e1 e2 e3 t1;have hb8:m8<2000000008:=oO;have hm8:m8=m8/64*64:=oO;clear hb1 hm0 hm1 hm2 hm3 hm4 hm5 hm6 hm7;rw[hL8];refine ak (α:=Nat×Nat×List Nat) (fun p=>p.2.1) (fun p=>⟨[(3, .rs 1006 v8 p.1 p.2.1 1),(6, .p 1132 0 0)],[(1006,⟨v8,aJ l,true,none⟩),(1132,⟨0,aF .u32 p.2.2,false,some 481⟩)],_⟩) (fun p=>p.1+p.2.1=m8/\p.2.1=p.2.1/64*64/\p.2.2.length=8/\nA (p.2.1/64) (l.drop p.1) p.2.2=nA (m8/64) l nV) (0,m8,nV) (fun _=>aD _) ⟨eK _,hm8,rfl,rfl⟩ ?_ ?_
   ·exact lE
   ·rintro⟨o,r,st⟩ ⟨ho,hr,hst,he⟩ R hR;have ho:o+r=m8:=ho;have hr:r=r/64*64:=hr;have hst:st.length=8:=hst;have he:nA (r/64) (l.drop o) st=nA (m8/64) l nV:=he;have q1:(aF .u32 st).length=8:=by rw[br,hst]
    have q2:List.take 8 (aF .u32 st)=aF .u32 st:=c9 oO;rcases jv (r/64)with h0|h0
    ·have hr0:r=0:=oO;subst hr0;have he:st=nA (m8/64) l nV:=by rw[<-he];rfl
     rw[<-he];clear hR he h0 hr;obtain⟨a,b,c,d,e,f,g,i,rfl⟩:=V7 hst;have w8:wl [a,b,c,d,e,f,g,i]=[.i .u32 (a:Int), .i .u32 (b:Int), .i .u32 (c:Int), .i .u32 (d:Int), .i .u32 (e:Int), .i .u32 (f:Int), .i .u32 (g:Int), .i .u32 (i:Int)]:=rfl;refine eC (aN @q1 (aN @q2 (aN @iW @k1))) ?_;rw[w8];refine aj ?_;refine dY (aN @xY @o7) ?_;refine aj ?_;refine dY (aN @xY @o7) ?_;refine aj ?_;refine dY (aN @xY @o7) ?_;refine aj ?_;refine dY (aN @xY @o7) ?_;refine aj ?_;refine dY (aN @xY @o7) ?_;refine aj ?_;refine dY (aN @xY @o7) ?_;refine aj ?_;refine dY (aN @xY @o7) ?_;refine aj ?_;refine dY (aN @xY @o7) ?_;refine aj ?_;exact gU (aN @xY @o7)
    ·obtain⟨r',rfl⟩: ∃r',r=r'+64:=⟨r-64,oO⟩;have f1:o+64+r'=m8:=oO;have f2:r'=r'/64*64:=oO;have hgo:=hR (o+64,r',qO st ((l.drop o).take 64)) ⟨f1,f2,nU _ hst,by
      rw[show(r'+64)/64=r'/64+1 by omega,nA,wT]at he
      rw[gn o 64];rw[gn o 64]at he;exact he⟩ (by simp)
     have hblk:((l.drop o).take 64).length=64:=by rw[cf,kD];omega
     have ha:=KN hst hblk;have q3:(wl (qO st ((l.drop o).take 64))).length=8:=by rw[pZ,nU _ hst]
     have q4:List.drop 8 (aF .u32 st)=[]:=iS oO;have hfl:=PJ (qO st ((l.drop o).take 64));clear hR he h0;repeat' first|simp only[go_sem,seval,q1,q2,q3,q4,iW,N7]|(refine Sn (gr:=true) (el:=none) (ver:=v8) (l:=l) ha hfl (by simp[aB]) oO ?_)|refine oE ?_|apply xX<;>intro hc
     refine⟨by rw[br];exact nU _ hst,rfl,oO,hgo _ ?_⟩
     (refine AS.Le.of (by first|decide|omega) ?_ ?_<;>simp[dA,dz,aS,aB,AV.bd,AV.bd.bdL,u8,aq,au,aA])
     all_goals first|omega|skip
  ·have h5: ∀ _:True,¬(((s.length+1+c)%64:Nat):Int)=56:=fun _=>oO
   have hgo:=hR (c+1) oO oO;clear hR;refine eC (aN @hl (aN @hT (aN @Lr (aN @nH (aN @mL (aN @hz (h5 oT))))))) ?_;refine hgo _ ?_
   (refine AS.Le.of (by first|decide|omega) ?_ ?_<;>simp[dA,dz,aS,aB,AV.bd,AV.bd.bdL,u8,aq,au,aA])
   all_goals first|omega|skip
theorem iJ (x n:Nat) (h0:0<n) (h:n<32):aE 526 [.i .u32 x,E n] (.i .u32 (rr x n)):=by
 have e2: ∀ _:True,(if 32-n<=32 then 32-n else 32)=32-n:=fun _=>ah oO
 have e3: ∀ _:True,(32:Int)-(n:Int)=((32-n:Nat):Int):=fun _=>oO
 have e4: ∀ _:True,(if n<=32 then n else 32)=n:=fun _=>ah oO
 refine eW call526 func526 ?_;exact gU (aN (e2 oT) (aN (e3 oT) (aN (e4 oT) (aN @Xe @ZK))))
theorem zR:aE 525 [] (.sl (wl po)):=by
 refine eW call525 func525 ?_;exact z0
def sR (l:List Nat) (x:Nat):List AV:=aF .u32 (l++x::List.replicate (63-l.length) 0)
theorem Ny (l:List Nat) (x:Nat) (h:l.length<64):(sR l x).length=64:=by
 rw[sR,br];simp;omega
theorem Nx (l:List Nat) (x:Nat):(sR l x).getD l.length .u= .v (.i .u32 (x:Int)):=by
 rw[sR,du (by simp)];simp
theorem Nz (l:List Nat) (x y:Nat):List.take l.length (sR l x)++[AV.v (.i .u32 (y:Int))]++List.drop (l.length+1) (sR l x)=sR l y:=by
 rw[sR,dT (x:=y) (by simp) rfl,sR];simp
theorem VC (l:List Nat) (h:l.length<64):aF .u32 (l++List.replicate (64-l.length) 0)=sR l 0:=by
 obtain⟨k,hk⟩: ∃k,64-l.length=k+1:=⟨63-l.length,oO⟩;rw[sR,hk,List.replicate_succ,show 63-l.length=k by omega]
theorem VD (l:List Nat) (x:Nat) (h:l.length<64):sR l x=aF .u32 ((l++[x])++List.replicate (64-(l++[x]).length) 0):=by
 rw[sR,fD,bY,List.length_singleton,show 64-(l.length+1)=63-l.length by omega];rfl
theorem w0:IntKind.u32.wrap 0=0:=rfl
def m8 (x c:Nat):Nat:=(x*256+c)%4294967296
theorem ZH (x c:Nat):IntKind.u32.wrap (IntKind.u32.wrap ((x:Int)*256)+(c:Int))=((m8 x c:Nat):Int):=by
 rw[Kr,Kr,m8];omega
theorem ZG (a b c d:UInt8):m8 (m8 (m8 a.toNat b.toNat) c.toNat) d.toNat=num [a,b,c,d]:=by
 have ha:=a.toNat_lt;have hb:=b.toNat_lt;have hc:=c.toNat_lt;have hd:=d.toNat_lt;simp only[m8,num,List.length_cons,List.length_nil];omega
theorem W7 {l:Bytes} {i:Nat} {a b c d:UInt8} (h:(l.drop (4*i)).take 4=[a,b,c,d]):l.getD (4*i) 0=a/\l.getD (4*i+1) 0=b/\l.getD (4*i+2) 0=c/\l.getD (4*i+3) 0=d:=by
 have hg: ∀k,k<4->l.getD (4*i+k) 0=[a,b,c,d].getD k 0:=fun k hk=>by
  rw[<-h];simp[ca,ff,hk]
 exact⟨hg 0 oC,hg 1 oC,hg 2 oC,hg 3 oC⟩
theorem LB (l:List Nat) {n:Nat} (h:l.length=n):chunk 1 n (wl l)=wl l:=by
 subst h;have:=Bv (wl l)
 rwa[pZ]at this
theorem FX (l:List Nat):(aF .u32 l).all AV.one=true:=by
 unfold aF
 induction l with
 |nil=>rfl
 |cons c l ih=>rw[bV,List.all_cons,ih];rfl
theorem F3 (hf:Nat->Option aH) (l:List Nat):aW (view hf 8) (aF .u32 l)=some (wl l):=iW (fun _=>rfl) l
theorem Cg {blk:Bytes} (hb:blk.length=64):aE 524 [.s blk] (.sl (wl (sched blk))):=by
 refine eW call524 func524 ?_;refine qY ?_;refine ak (α:=List Nat) (fun l=>16-l.length) (fun l=>⟨[(0, .v (.s blk)),(3, .rs 1001 0 0 64 1),(4,E' l.length)],[(1001,⟨0,aF .u32 (l++List.replicate (64-l.length) 0),false,none⟩)],_⟩) (fun l=>l.length<=16/\l=(List.range l.length).map (vK blk)) [] (fun _=>aD _) ⟨by decide,rfl⟩ ?_ ?_
 ·(refine AS.Le.of (by first|decide|omega) ?_ ?_<;>simp[dA,dz,aS,aB,AV.bd,AV.bd.bdL,u8,aq,au,aA])
  all_goals rfl
 ·rintro l ⟨hl,he⟩ R hR;have hL:(aF .u32 (l++List.replicate (64-l.length) 0)).length=64:=by rw[br];simp;omega
  by_cases hlt:l.length<16
  ·obtain⟨i,hi⟩: ∃i,i=l.length:=⟨_,rfl⟩;obtain⟨a,b,c,d,h4,-⟩:=four blk (i:=i) oO;obtain⟨q0,q1,q2,q3⟩:=W7 h4;have hV:vK blk i=m8 (m8 (m8 a.toNat b.toNat) c.toNat) d.toNat:=by rw[ZG,vK,h4]
   have hgo:=hR (l++[vK blk i]) ⟨by simp;omega,by
    rw[bY,List.length_singleton,List.range_succ,lu,<-he,<-hi];rfl⟩ (by simp;omega)
   rw[<-VD l _ oO,bY,List.length_singleton]at hgo;rw[VC l oO];have hg:=Nx l;have hp:=Nz l;have hn:=fun x=>Ny l x oO
   rw[hV]at hgo;rw[<-hi]at hg hp hgo⊢;have t0: ∀ _:True,((4:Int)*(i:Int)).toNat=4*i:=fun _=>oO
   have t1: ∀ _:True,((4:Int)*(i:Int)+1).toNat=4*i+1:=fun _=>oO
   have t2: ∀ _:True,((4:Int)*(i:Int)+2).toNat=4*i+2:=fun _=>oO
   have t3: ∀ _:True,((4:Int)*(i:Int)+3).toNat=4*i+3:=fun _=>oO
   clear hR he h4 hV hL;repeat' first|simp only[go_sem,seval,hb,hg,hp,hn,t0 oT,t1 oT,t2 oT,t3 oT,q0,q1,q2,q3,Yz,ZH,w0,Int.add_zero,Int.zero_add]|(refine aj ?_)|refine oE ?_|apply xX<;>intro hc
   refine hgo _ ?_
   (refine AS.Le.of (by first|decide|omega) ?_ ?_<;>simp[dA,dz,aS,aB,AV.bd,AV.bd.bdL,u8,aq,au,aA])
   all_goals first|omega|(unfold sR;simp[aA])
  ·have hl16:l.length=16:=oO;have hs0:l=(List.range 16).map (vK blk):=by rw[<-hl16];exact he
   rw[hl16];rw[hl16]at hL;clear hR he hlt hl;refine qY ?_;refine ak (α:=List Nat) (fun l=>64-l.length) (fun l=>⟨[(3, .rs 1001 0 0 64 1),(6,E' l.length)],[(1001,⟨0,aF .u32 (l++List.replicate (64-l.length) 0),false,none⟩)],_⟩) (fun l=>16<=l.length/\l.length<=64/\Kk (64-l.length) l=sched blk) l (fun _=>aD _) ⟨oO,oO,by rw[hl16,hs0];rfl⟩ ?_ ?_
   ·rw[hl16];exact lE
   ·clear hs0 hL hl16 l;rintro l ⟨hl1,hl2,he⟩ R hR;have hL:(aF .u32 (l++List.replicate (64-l.length) 0)).length=64:=by rw[br];simp;omega
    obtain⟨i,hi⟩: ∃i,i=l.length:=⟨_,rfl⟩
    by_cases hlt:l.length<64
    ·have hgo:=hR (l++[Co l]) ⟨by simp;omega,by simp;omega,by
      have:64-l.length=(64-(l++[Co l]).length)+1:=by simp;omega
      rw[this]at he;exact he⟩ (by simp;omega)
     have hse:=Cn l 64 (Co l) hlt;have hg: ∀k:Nat,0<k->k<=16->(aF .u32 (l++List.replicate (64-l.length) 0)).getD ((i:Int)-(k:Int)).toNat .u= .v (.i .u32 (l.getD (i-k) 0:Nat)):=fun k h0 h1=>by
      rw[show((i:Int)-(k:Int)).toNat=i-k by omega,du (by simp;omega),D5 l _ _ oO]
     have g15:(aF .u32 (l++List.replicate (64-l.length) 0)).getD ((i:Int)-15).toNat .u= _:=hg 15 oC oC;have g2:(aF .u32 (l++List.replicate (64-l.length) 0)).getD ((i:Int)-2).toNat .u= _:=hg 2 oC oC;have g16:(aF .u32 (l++List.replicate (64-l.length) 0)).getD ((i:Int)-16).toNat .u= _:=hg 16 oC oC;have g7:(aF .u32 (l++List.replicate (64-l.length) 0)).getD ((i:Int)-7).toNat .u= _:=hg 7 oC oC;have hN:Co l=ad (ad (ad (l.getD (i-16) 0) (px (px (rr (l.getD (i-15) 0) 7) (rr (l.getD (i-15) 0) 18)) (l.getD (i-15) 0/8))) (l.getD (i-7) 0)) (px (px (rr (l.getD (i-2) 0) 17) (rr (l.getD (i-2) 0) 19)) (l.getD (i-2) 0/1024)):=by rw[hi];rfl
     rw[hN]at hgo hse;rw[<-hi]at hL hse g15 g2 g16 g7⊢;clear hR he hN hg;generalize l.getD (i-16) 0=w16 at*;generalize l.getD (i-15) 0=w15 at*;generalize l.getD (i-7) 0=w7 at*;generalize l.getD (i-2) 0=w2 at*;have r7:=iJ w15 7 oC oC;have r18:=iJ w15 18 oC oC;have r17:=iJ w2 17 oC oC;have r19:=iJ w2 19 oC oC;refine Di (aN @hL (aN @g15 (aN @g2 (aN @g16 (aN @g7 (aN @pC @Wa)))))) @r7 @r18 @r17 @r19 ?_;refine hgo _ ?_;rw[dT (x:=ad (ad (ad w16 (px (px (rr w15 7) (rr w15 18)) (w15/8))) w7) (px (px (rr w2 17) (rr w2 19)) (w2/1024))) (by rw[br]at hL;omega) rfl,hse]
     (refine AS.Le.of (by first|decide|omega) ?_ ?_<;>simp[dA,dz,aS,aB,AV.bd,AV.bd.bdL,u8,aq,au,aA])
     all_goals first|omega|skip
    ·have hl64:l.length=64:=oO;rw[hl64]at he hi hL⊢;have he:l=sched blk:=he;rw[gS,List.replicate_zero,iu]at hL⊢;rw[<-he];have k1:List.take 64 (aF .u32 l)=aF .u32 l:=c9 (by rw[br];omega)
     have k3:(wl l).length=64:=by rw[pZ,hl64]
     have k4:=LB l hl64;have k5:=FX l;repeat' first|simp only[go_sem,seval,hL,k1,k3,k4,k5,iW,F3,N7]|refine oE ?_|apply xX<;>intro hc
     all_goals skip
theorem FI (n:Nat):UInt8.ofNat (IntKind.u8.wrap (n:Int)).toNat=UInt8.ofNat n:=by
 rw[qC];apply w9;simp;omega
theorem Lu (n:Nat):UInt8.ofNat (n%256)=UInt8.ofNat n:=by
 apply w9;simp
theorem Gw {s:Bytes} (hs:s.length<1000000000):aE 500 [.s s] (.s (pad s)):=by
 refine eW call500 func500 ?_;refine qY ?_;refine ak (α:=Nat) (fun c=>64-c) (fun c=>⟨[(0, .v (.s (s++128::zy c))),(3,E' s.length)],[],_⟩) (fun c=>c<=(119-s.length%64)%64) 0 (fun _=>aD _) (aR _) ?_ ?_
 ·(refine AS.Le.of (by first|decide|omega) ?_ ?_<;>simp[dA,dz,aS,aB,AV.bd,AV.bd.bdL,u8,aq,au,aA])
  all_goals rfl
 ·intro c hc R hR;have hl:(s++128::zy c).length=s.length+1+c:=by simp[G5];omega
  have hz:s++128::zy c++[0]=s++128::zy (c+1):=by
   rw[fD];congr 1;unfold zy;rw[CJ];rfl
  obtain⟨L,hLL⟩: ∃L,L=s++128::zy c:=⟨_,rfl⟩;rw[<-hLL]at hl hz⊢
  by_cases hlt:c=(119-s.length%64)%64
  ·have h5: ∀ _:True,(((s.length+1+c)%64:Nat):Int)=56:=fun _=>oO
   have w1: ∀ _:True,IntKind.u64.wrap (s.length:Int)=(s.length:Int):=fun _=>by rw[zZ];omega
   have w2: ∀ _:True,IntKind.u64.wrap ((s.length:Int)*8)=((s.length*8:Nat):Int):=fun _=>by rw[zZ];omega
   clear hR;refine eC (aN @hl (aN (h5 oT) (aN (w1 oT) (w2 oT)))) ?_;obtain⟨N,hN⟩: ∃N,N=s.length*8:=⟨_,rfl⟩;rw[<-hN];clear h5 w1 w2 hz;repeat' first|simp only[go_sem,seval,xY,o7,FI,Lu,eL,Nat.reduceMul]|(refine aj ?_)|refine oE ?_|apply xX<;>intro hc
   rw[hLL,hlt,hN,pad];simp only[be,zy,fD,List.cons_append,List.nil_append,Nat.reducePow,Nat.pow_zero,iq]
  ·have h5: ∀ _:True,¬(((s.length+1+c)%64:Nat):Int)=56:=fun _=>oO
   have hgo:=hR (c+1) oO oO;rw[<-hz]at hgo;clear hR hz;refine eC (aN @hl (h5 oT)) ?_;refine hgo _ ?_
   (refine AS.Le.of (by first|decide|omega) ?_ ?_<;>simp[dA,dz,aS,aB,AV.bd,AV.bd.bdL,u8,aq,au,aA])
   all_goals first|omega|skip
