/- Part of the proof. -/
import Derived.Test.YtkmahpcpmgedkaaGreatDoorFB20
set_option linter.all false
set_option maxHeartbeats 16000000
set_option maxRecDepth 100000
namespace Go.Proofs.Tryz
open Go Go.Dom
variable {el:Option TypeId}
def wl (l:List Nat):List PV:=l.map fun n:Nat=>PV.i .u32 n
theorem Pk (l:List Nat):List.map AV.v (wl l)=aC .u32 l:=by simp[wl,aC]
theorem qD (l:List Nat):(wl l).length=l.length:=aB ..
theorem jH {g:AV->Option PV} (hg: ∀n:Nat,g (.v (.i .u32 (n:Int)))=some (.i .u32 n)) (l:List Nat):bz g (aC .u32 l)=some (wl l):=by
 unfold aC wl
 induction l with
 |nil=>rfl
 |cons x l ih=>rw[br,br,bz,hg,ih]
theorem XF: ∀n:Fin 32,0<n.val->mU .u64 (IntKind.u64.wrap (-(n.val:Int))) 31=((32-n.val:Nat):Int):=by decide+kernel
theorem Ua (x n:Nat) (h0:0<n) (h:n<32):aD 480 [.i .u32 x,E (-(n:Int))] (.i .u32 (rr x n)):=by
 have e1:=XF ⟨n,h⟩ h0;simp only at e1;have e2: ∀ _:True,(if 32-n<=32 then 32-n else 32)=32-n:=fun _=>ah oO
 have e3: ∀ _:True,(32:Int)-((32-n:Nat):Int)=(n:Int):=fun _=>oO
 have e4: ∀ _:True,(if n<=32 then n else 32)=n:=fun _=>ah oO
 refine eW call480 func480 ?_;refine dH (aN @e1 (aN (e2 oT) (aN (e3 oT) (aN (e4 oT) (aN @XA @o_r))))) ?_;rw[rr,NM]
theorem lj (x n:Nat) (h0:0<n) (h:n<32):aD 473 [.i .u32 x,E n] (.i .u32 (rr x n)):=by
 have hr:=Ua x n h0 h;have e:(0:Int)-(n:Int)= -(n:Int):=oO;refine eW call473 func473 ?_;exact mi @e @hr
theorem MU:aD 446 [] (.agg (wl oP)):=by
 refine eW call446 func446 ?_;exact z0
theorem CM:aD 471 [] (.agg (wl pS)):=by
 refine eW call471 func471 ?_;exact z0
theorem YY (a b c d:UInt8):B1 (B1 (B1 (wP a.toNat 24) (wP b.toNat 16)) (wP c.toNat 8)) d.toNat=num [a,b,c,d]:=by
 have ha:=a.toNat_lt;have hb:=b.toNat_lt;have hc:=c.toNat_lt;have hd:=d.toNat_lt;have e1:wP a.toNat 24=a.toNat*2^24:=by unfold wP;omega
 have e2:wP b.toNat 16=b.toNat*2^16:=by unfold wP;omega
 have e3:wP c.toNat 8=c.toNat*2^8:=by unfold wP;omega
 have f1:B1 (wP a.toNat 24) (wP b.toNat 16)=a.toNat*2^24+b.toNat*2^16:=by
  rw[B1,e1,e2,bY oO,bY oO,Fj oO]
 have f2:B1 (B1 (wP a.toNat 24) (wP b.toNat 16)) (wP c.toNat 8)=(a.toNat*2^8+b.toNat)*2^16+c.toNat*2^8:=by
  rw[B1,f1,e3,bY oO,bY oO,show a.toNat*2^24+b.toNat*2^16=(a.toNat*2^8+b.toNat)*2^16 by omega,Fj oO]
 rw[B1,f2,bY oO,bY oO,show(a.toNat*2^8+b.toNat)*2^16+c.toNat*2^8=((a.toNat*2^8+b.toNat)*2^8+c.toNat)*2^8 by omega,Fj oO]
 simp[num];omega
theorem four (l:Bytes) {i:Nat} (h:4*i+4<=l.length): ∃a b c d,(l.drop (4*i)).take 4=[a,b,c,d]/\((l.map u8).take (4*i+4)).drop (4*i)=[u8 a,u8 b,u8 c,u8 d]:=by
 have hl:((l.drop (4*i)).take 4).length=4:=by simp;omega
 have e:((l.map u8).take (4*i+4)).drop (4*i)=((l.drop (4*i)).take 4).map u8:=by
  rw[<-yg,<-uG,uE];congr 2;omega
 generalize (l.drop (4*i)).take 4=m at hl e
 match m,hl with
 |[a,b,c,d],_=>exact⟨a,b,c,d,rfl,e⟩
theorem aak (a:Nat):IntKind.u32.wrap ((a:Int)*16777216)=((wP a 24:Nat):Int):=XA a 24
theorem aaj (a:Nat):IntKind.u32.wrap ((a:Int)*65536)=((wP a 16:Nat):Int):=XA a 16
theorem mk8 (a:Nat):IntKind.u32.wrap ((a:Int)*256)=((wP a 8:Nat):Int):=XA a 8
theorem YR (c:UInt8):IntKind.u32.wrap ((c.toNat:Nat):Int)=((c.toNat:Nat):Int):=by
 have:=c.toNat_lt;rw[Lt];omega
theorem Dv (l:List Nat) (n x:Nat) (h:l.length<n):(l++List.replicate (n-l.length) 0).set l.length x=(l++[x])++List.replicate (n-(l++[x]).length) 0:=by
 obtain⟨k,hk⟩: ∃k,n-l.length=k+1:=⟨n-l.length-1,oO⟩;rw[hk,List.replicate_succ,Ed _ _ (ay _),fA,List.set_cons_zero];have:n-(l++[x]).length=k:=by simp;omega
 rw[this];simp
theorem ET (l:List Nat) (k i:Nat) (h:i<l.length):(l++List.replicate k 0).getD i 0=l.getD i 0:=by
 simp[bu,uC h]
def zz (n:Nat):List Nat:=List.replicate n 0
theorem Jv:(aC .u32 (zz 64)).length=64:=by rw[bc];rfl
theorem FQ {blk:Bytes} (hb:blk.length=64):aD 472 [.sl (blk.map u8)] (.agg (wl (sched blk))):=by
 have lb:(blk.map u8).length=64:=by rw[aB,hb]
 refine eW call472 func472 ?_;refine pU ?_;refine af (α:=List Nat) (fun l=>16-l.length) (fun l=>⟨[(0, .v (.sl (blk.map u8))),(2, .p 1000 0 0),(3, .p 1001 0 0),(9,E' l.length)],[(1000,⟨0,aC .u32 (zz 64),false,some 471⟩),(1001,⟨0,aC .u32 (l++List.replicate (64-l.length) 0),false,some 471⟩)],_⟩) (fun l=>l.length<=16/\l=(List.range l.length).map (xu blk)) [] (fun _=>ay _) ⟨by decide,rfl⟩ ?_ ?_
 ·refine lG ?_;all_goals exact⟨rfl,rfl⟩
 ·rintro l ⟨hl,he⟩ R hR;have hL:(aC .u32 (l++List.replicate (64-l.length) 0)).length=64:=by rw[bc];simp;omega
  obtain⟨i,hi⟩: ∃i,i=l.length:=⟨_,rfl⟩
  by_cases hlt:l.length<16
  ·obtain⟨a,b,c,d,h4,h5⟩:=four blk (i:=i) oO;have hV:xu blk i=B1 (B1 (B1 (wP a.toNat 24) (wP b.toNat 16)) (wP c.toNat 8)) d.toNat:=by rw[YY,xu,h4]
   have hgo:=hR (l++[xu blk i]) ⟨by simp;omega,by
    rw[bJ,List.length_singleton,rj,jh,<-he,<-hi];rfl⟩ (by simp;omega)
   have hse:=Dv l 64 (xu blk i) oO;rw[hV]at hgo hse;have t1: ∀ _:True,((4:Int)*(i:Int)).toNat=4*i:=fun _=>oO
   have t2: ∀ _:True,((4:Int)*(i:Int)+4).toNat=4*i+4:=fun _=>oO
   have hcl: ∀x∈blk.map u8,x.cells.length=1:=fun x hx=>by obtain⟨c,-,rfl⟩:=bG.1 hx;rfl
   rw[<-hi]at hL⊢;clear hR he h4 hV;refine dH (aN @lb (aN @hL (aN (t1 oT) (aN (t2 oT) (aN @h5 (aN @aak (aN @aaj (aN @mk8 (aN @YR @o_r))))))))) ?_;refine⟨⟨oO,hcl⟩,oO,oO,?_⟩;refine xB ?_;refine hgo _ ?_;rw[<-hi]at hse;rw[eH (x:=B1 (B1 (B1 (wP a.toNat 24) (wP b.toNat 16)) (wP c.toNat 8)) d.toNat) (by rw[bc]at hL;omega) rfl,hse]
   (refine AS.Le.of (by first|decide|omega) ?_ ?_<;>simp[dy,dx,aO,az,AV.bd,AV.bd.bdL,u8,ar,ax,aA])
   all_goals first|omega|skip
  ·have hl16:l.length=16:=oO;have hs0:l=(List.range 16).map (xu blk):=by rw[<-hl16];exact he
   rw[hl16];rw[hl16]at hL;clear hR he hlt hl hi;refine pU ?_;refine af (α:=List Nat) (fun l=>64-l.length) (fun l=>⟨[(2, .p 1000 0 0),(3, .p 1001 0 0),(6,E' l.length)],[(1000,⟨0,aC .u32 (zz 64),false,some 471⟩),(1001,⟨0,aC .u32 (l++List.replicate (64-l.length) 0),false,some 471⟩)],_⟩) (fun l=>16<=l.length/\l.length<=64/\Lh (64-l.length) l=sched blk) l (fun _=>ay _) ⟨oO,oO,by rw[hl16,hs0];rfl⟩ ?_ ?_
   ·rw[hl16];exact lE
   ·clear hs0 hL hl16 i l;rintro l ⟨hl1,hl2,he⟩ R hR;have hL:(aC .u32 (l++List.replicate (64-l.length) 0)).length=64:=by rw[bc];simp;omega
    obtain⟨i,hi⟩: ∃i,i=l.length:=⟨_,rfl⟩
    by_cases hlt:l.length<64
    ·have hgo:=hR (l++[Dx l]) ⟨by simp;omega,by simp;omega,by
      have:64-l.length=(64-(l++[Dx l]).length)+1:=by simp;omega
      rw[this]at he;exact he⟩ (by simp;omega)
     have hse:=Dv l 64 (Dx l) hlt;have hg: ∀k:Nat,0<k->k<=16->(aC .u32 (l++List.replicate (64-l.length) 0)).getD ((i:Int)-(k:Int)).toNat .u= .v (.i .u32 (l.getD (i-k) 0:Nat)):=fun k h0 h1=>by
      rw[show((i:Int)-(k:Int)).toNat=i-k by omega,dA (by simp;omega),ET l _ _ oO]
     have g15:(aC .u32 (l++List.replicate (64-l.length) 0)).getD ((i:Int)-15).toNat .u= _:=hg 15 oC oC;have g2:(aC .u32 (l++List.replicate (64-l.length) 0)).getD ((i:Int)-2).toNat .u= _:=hg 2 oC oC;have g16:(aC .u32 (l++List.replicate (64-l.length) 0)).getD ((i:Int)-16).toNat .u= _:=hg 16 oC oC;have g7:(aC .u32 (l++List.replicate (64-l.length) 0)).getD ((i:Int)-7).toNat .u= _:=hg 7 oC oC;have hN:Dx l=ad (ad (ad (l.getD (i-16) 0) (pW (pW (rr (l.getD (i-15) 0) 7) (rr (l.getD (i-15) 0) 18)) (l.getD (i-15) 0/8))) (l.getD (i-7) 0)) (pW (pW (rr (l.getD (i-2) 0) 17) (rr (l.getD (i-2) 0) 19)) (l.getD (i-2) 0/1024)):=by rw[hi];rfl
     rw[hN]at hgo hse;rw[<-hi]at hL hse g15 g2 g16 g7⊢;clear hR he hN hg;generalize l.getD (i-16) 0=w16 at*;generalize l.getD (i-15) 0=w15 at*;generalize l.getD (i-7) 0=w7 at*;generalize l.getD (i-2) 0=w2 at*;have r7:=lj w15 7 oC oC;have r18:=lj w15 18 oC oC;have r17:=lj w2 17 oC oC;have r19:=lj w2 19 oC oC;refine wI (aN @hL (aN @g15 (aN @g2 (aN @g16 (aN @g7 (aN @qc @WG)))))) @r7 @r18 @r17 @r19 ?_;refine hgo _ ?_;rw[eH (x:=ad (ad (ad w16 (pW (pW (rr w15 7) (rr w15 18)) (w15/8))) w7) (pW (pW (rr w2 17) (rr w2 19)) (w2/1024))) (by rw[bc]at hL;omega) rfl,hse]
     (refine AS.Le.of (by first|decide|omega) ?_ ?_<;>simp[dy,dx,aO,az,AV.bd,AV.bd.bdL,u8,ar,ax,aA])
     all_goals first|omega|skip
    ·have hl64:l.length=64:=oO;rw[hl64]at he hi hL⊢;have he:l=sched blk:=he;rw[fA,List.replicate_zero,kf]at hL⊢;rw[<-he];have k1:List.take 64 (aC .u32 l)=aC .u32 l:=cb (by rw[bc];omega)
     have k2:List.drop 64 (aC .u32 (zz 64))=[]:=gU (by rw[Jv];decide)
     have k3:(wl l).length=64:=by rw[qD,hl64]
     repeat' first|simp only[go_sem,seval,hL,k1,k2,k3,jH,Pk,Jv]|refine oE ?_|apply xX<;>intro hc
     all_goals skip
theorem WE {l:List Nat} (h:l.length=8): ∃a b c d e f g i,l=[a,b,c,d,e,f,g,i]:=by
 match l,h with
 |[a,b,c,d,e,f,g,i],_=>exact⟨_,_,_,_,_,_,_,_,rfl⟩
theorem Zd (a b c d e f g h:Nat):aC .u32 [a,b,c,d,e,f,g,h]=[.v (.i .u32 (a:Int)), .v (.i .u32 (b:Int)), .v (.i .u32 (c:Int)), .v (.i .u32 (d:Int)), .v (.i .u32 (e:Int)), .v (.i .u32 (f:Int)), .v (.i .u32 (g:Int)), .v (.i .u32 (h:Int))]:=rfl
theorem Tw (k w a b c d e f g h:Nat):OT k w [a,b,c,d,e,f,g,h]=[ad (OV k w [a,b,c,d,e,f,g,h]) (Wg [a,b,c,d,e,f,g,h]),a,b,c,ad d (OV k w [a,b,c,d,e,f,g,h]),e,f,g]:=rfl
theorem Tx (k w a b c d e f g h:Nat):OV k w [a,b,c,d,e,f,g,h]=ad (ad (ad (ad h (pW (pW (rr e 6) (rr e 11)) (rr e 25))) (pW (Ly e f) (Ly (XE e) g))) k) w:=rfl
theorem Ty (a b c d e f g h:Nat):Wg [a,b,c,d,e,f,g,h]=ad (pW (pW (rr a 2) (rr a 13)) (rr a 22)) (pW (pW (Ly a b) (Ly a c)) (Ly b c)):=rfl
theorem Vg (e:Nat):IntKind.u32.wrap ((@BitVec.toNat 32 (@HXor.hXor (BitVec 32) (BitVec 32) (BitVec 32) (@instHXorOfXorOp (BitVec (IntKind.bits .u32)) (@BitVec.instXorOp (IntKind.bits .u32))) (BitVec.ofInt 32 (if IntKind.u32.signed=true then-1 else IntKind.u32.max)) (BitVec.ofNat 32 e)):Nat):Int)=((XE e:Nat):Int):=by
 have h:=n_r e;rw[gH]at h;exact h
theorem LX {st:List Nat} (hs:st.length=8) {blk:Bytes} (hb:blk.length=64):aD 447 [.agg (wl st), .sl (blk.map u8)] (.agg (wl (rq st blk))):=by
 have hc:=CM;have hd:=FQ hb;have k0:(wl st).length=8:=by rw[qD,hs]
 have k1:(wl pS).length=64:=rfl;have k2:(wl (sched blk)).length=64:=by rw[qD,mK]
 have k3:(aC .u32 st).length=8:=by rw[bc,hs]
 have k4:List.take 64 (aC .u32 (sched blk))=aC .u32 (sched blk):=cb (by rw[bc,mK];omega)
 have k5:List.take 64 (aC .u32 pS)=aC .u32 pS:=cb (by rw[bc];decide)
 have k6:List.take 8 (aC .u32 st)=aC .u32 st:=cb (by rw[bc];omega)
 have k7:(aC .u32 (sched blk)).length=64:=by rw[bc,mK]
 have k8:(aC .u32 pS).length=64:=by rw[bc];rfl
 refine eW call447 func447 ?_;refine Px (aN @k0 (aN @k1 (aN @k2 (aN @k3 (aN @k4 (aN @k5 (aN @k6 (aN @k7 (aN @k8 (aN @Pk @jH)))))))))) @hc @hd ?_;refine af (α:=List Nat×Nat) (fun p=>64-p.2) (fun p=>⟨[(2, .p 1000 0 0),(4, .p 1001 0 0),(5, .p 1005 0 0),(6, .p 1006 0 0),(7, .p 1010 0 0),(22,E' p.2)],[(1000,⟨0,aC .u32 st,false,none⟩),(1001,⟨0,[.v (.i .u32 0), .v (.i .u32 0), .v (.i .u32 0), .v (.i .u32 0), .v (.i .u32 0), .v (.i .u32 0), .v (.i .u32 0), .v (.i .u32 0)],false,some 448⟩),(1005,⟨0,aC .u32 pS,false,some 471⟩),(1006,⟨0,aC .u32 (sched blk),false,some 471⟩),(1010,⟨0,aC .u32 p.1,false,some 448⟩)],_⟩) (fun p=>p.1.length=8/\p.2<=64/\wA (sched blk) (64-p.2) p.1=wA (sched blk) 64 st) (st,0) (fun _=>ay _) ⟨hs,aJ _,rfl⟩ ?_ ?_
 ·exact lE
 ·rintro⟨v,i⟩ ⟨hv,hi,he⟩ R hR;obtain⟨a,b,c,d,e,f,g,h,rfl⟩:=WE hv
  by_cases hlt:i<64
  ·have hgo:=hR (OT (pS.getD i 0) ((sched blk).getD i 0) [a,b,c,d,e,f,g,h],i+1) ⟨rfl,hlt,by
    rw[show 64-i=(64-(i+1))+1 by omega,wA,show 63-(64-(i+1))=i by omega]at he;exact he⟩ (by simp;omega)
   have gk:(aC .u32 pS).getD i .u= .v (.i .u32 (pS.getD i 0:Nat)):=dA (by exact hlt)
   have gw:(aC .u32 (sched blk)).getD i .u= .v (.i .u32 ((sched blk).getD i 0:Nat)):=dA (by rw[mK];exact hlt)
   have r6:=lj e 6 oC oC;have r11:=lj e 11 oC oC;have r25:=lj e 25 oC oC;have r2:=lj a 2 oC oC;have r13:=lj a 13 oC oC;have r22:=lj a 22 oC oC;simp only[Tw,Tx,Ty,Zd]at hgo⊢;generalize pS.getD i 0=ki at hgo gk;generalize (sched blk).getD i 0=wi at hgo gw;clear hR he hv;refine SV (aN @k7 (aN @k8 (aN @gk (aN @gw (aN @qc (aN @WG (aN @Zc @Vg))))))) @r6 @r11 @r25 @r2 @r13 @r22 oT ?_;refine hgo _ ?_
   (refine AS.Le.of (by first|decide|omega) ?_ ?_<;>simp[dy,dx,aO,az,AV.bd,AV.bd.bdL,u8,ar,ax,aA])
   all_goals first|omega|(erw [Vg e];simp only[Zc,WG,qc,and_self])
  ·have hl:i=64:=oO;subst hl;have he:[a,b,c,d,e,f,g,h]=wA (sched blk) 64 st:=he;have hw:rq st blk=List.zipWith ad [a,b,c,d,e,f,g,h] st:=by rw[rq,<-he]
   rw[hw];clear hR he hv hw;obtain⟨s0,s1,s2,s3,s4,s5,s6,s7,rfl⟩:=WE hs;simp only[Zd];repeat' first|simp only[go_sem,seval,k7,k8,qc]|refine oE ?_|apply xX<;>intro hc
   all_goals refine ai ?_
   repeat' first|simp only[go_sem,seval,k7,k8,qc]|refine oE ?_|apply xX<;>intro hc
   all_goals refine ai ?_
   repeat' first|simp only[go_sem,seval,k7,k8,qc]|refine oE ?_|apply xX<;>intro hc
   all_goals refine ai ?_
   repeat' first|simp only[go_sem,seval,k7,k8,qc]|refine oE ?_|apply xX<;>intro hc
   all_goals refine ai ?_
   repeat' first|simp only[go_sem,seval,k7,k8,qc]|refine oE ?_|apply xX<;>intro hc
   all_goals refine ai ?_
   repeat' first|simp only[go_sem,seval,k7,k8,qc]|refine oE ?_|apply xX<;>intro hc
   all_goals refine ai ?_
   repeat' first|simp only[go_sem,seval,k7,k8,qc]|refine oE ?_|apply xX<;>intro hc
   all_goals refine ai ?_
   repeat' first|simp only[go_sem,seval,k7,k8,qc]|refine oE ?_|apply xX<;>intro hc
   all_goals refine ai ?_
   repeat' first|simp only[go_sem,seval,k7,k8,qc]|refine oE ?_|apply xX<;>intro hc
   all_goals refine ai ?_
   exact gn (aN @k7 (aN @k8 @qc))
def zy (n:Nat):Bytes:=List.replicate n 0
theorem HX (n:Nat):(zy n).length=n:=x8
theorem mk0 (n:Nat):(List.replicate n [AV.v (.i .u8 0)]).flatten=aG (zy n):=by
 unfold zy
 induction n with
 |zero=>rfl
 |succ n ih=>rw[List.replicate_succ,List.flatten_cons,ih,List.replicate_succ];rfl
theorem Gx (l:Bytes):(aG l).all AV.one=true:=by
 unfold aG
 induction l with
 |nil=>rfl
 |cons c l ih=>rw[br,List.all_cons,ih];rfl
theorem ot (l:Bytes) (n:Nat):List.drop n (aG l)=aG (l.drop n):=by unfold aG;exact(uG ..).symm
theorem nC (l:Bytes) (n:Nat):List.take n (aG l)=aG (l.take n):=by unfold aG;exact(yg ..).symm
theorem sW (l:Bytes) (n:Nat):aG l++[AV.v (.i .u8 (IntKind.u8.wrap (n:Int)))]=aG (l++[UInt8.ofNat n]):=by
 rw[<-kG];congr 1
theorem Ml (l:Bytes):aG l++[AV.v (.i .u8 0)]=aG (l++[0]):=by rw[<-kG];rfl
theorem Mm (l:Bytes):aG l++[AV.v (.i .u8 128)]=aG (l++[128]):=by rw[<-kG];rfl
theorem Ls {hf:Nat->Option aF} {f n ver o m:Nat} {l:Bytes} {gr:Bool} (hm:o+m<=l.length) (h:hf n=some ⟨ver,aG l,gr,el⟩):
  view hf (f+2) (.rs n ver o m 1)=some (.sl (((l.drop o).take m).map u8)):=by
 have h1:bz (view hf (f+1)) (aG ((l.drop o).take m))=some (((l.drop o).take m).map u8):=by
  have:=eQ hf f (((l.drop o).take m).map u8);rw[iB]at this;exact this
 have h2:(aG ((l.drop o).take m)).all AV.one=true:=Gx _;have h3:chunk 1 m (((l.drop o).take m).map u8)=((l.drop o).take m).map u8:=by
  have:=nZ (((l.drop o).take m).map u8)
  rwa[aB,bV,ly,pz oO]at this
 simp only[view,h,ot,nC,kH,dN,h1,h2,h3,hm,Option.map_some];simp
theorem HT {hf:Nat->Option aF} {f n ver o m:Nat} {l:Bytes} {gr:Bool} (h:hf n=some ⟨ver,aG l,gr,el⟩):
  aV hf (f+2) (.rs n ver o m 1)=[n]:=by
 have h1: ∀l:Bytes,(aG l).flatMap (aV hf (f+1))=[]:=fun l=>by
  unfold aG
  induction l with
  |nil=>rfl
  |cons x r ih=>simp_all[aV]
 simp only[aV,h,ot,nC,h1]
theorem pK (n:Nat):AV.byte (.v (.i .u8 (IntKind.u8.wrap (n:Int))))=UInt8.ofNat n:=by
 simp[AV.byte,PV.byte,re];apply yC;simp;omega
theorem zF (n:Nat):AV.isByte (.v (.i .u8 (IntKind.u8.wrap (n:Int))))=True:=by
 simp[AV.isByte,PV.isByte,re]
theorem Q3 (l:List Nat):(PV.agg (wl l)).flat=true:=by
 unfold wl
 induction l with
 |nil=>rfl
 |cons x l ih=>simp_all[PV.flat,PV.flat.flatL]
theorem TO {P:Program} [cu P] {Q:AX->AS->Prop} {nx:Nat} {bf:Option (List Nat)} {nn:Nat} {d:Option Nat} {ops:List kA} {k:Nat} {s:AS} {tr:List (Nat×List Nat×List Nat)} {K:List Fr} {nm:Nat} {f:FuncId} {n ver o m:Nat} {l:Bytes} {gr:Bool} {x r:PV}
  (he:ry P f [x, .sl (((l.drop o).take m).map u8)] r) (hr:r.flat=true) (hg:az s.h n=some ⟨ver,aG l,gr,el⟩) (hm:o+m<=l.length) (hK:RW P Q nx bf nn ops (k+1) (s.uh d (.v r) []) (AT bf k [n] [] tr) K):
  CR P Q nx bf nn nm (.v (.fn (.func f))) [.v x, .rs n ver o m 1] d ops k s tr K:=by
 refine qF he ?_ hr ?_
 ·simp[bz,Ls hm hg];rfl
 ·have:[AV.v x,AV.rs n ver o m 1].flatMap (aV (az s.h) 9)=[n]:=by simp[HT hg];rfl
  rw[this];exact hK
theorem vf {s:Bytes} (hs:s.length<1000000000):aD 387 [.s s] (.s (me s)):=by
 have hf:=MU;have t1: ∀ _:True,((s.length:Int)+72)=((s.length+72:Nat):Int):=fun _=>oO
 have e1:List.drop s.length (zy (s.length+72))=zy 72:=by
  unfold zy;rw[List.drop_replicate,Nat.add_sub_cancel_left]
 have e2:List.take s.length (s++zy 72)=s:=List.take_left' rfl;have e3:s.length<=(s++zy 72).length:=by simp
 have k1:(wl oP).length=8:=rfl;have k2:(aC .u32 oP).length=8:=rfl;have k3:List.take 8 (aC .u32 oP)=aC .u32 oP:=cb (by rw[bc];decide)
 have k4:List.drop 8 (aC .u32 oP)=[]:=gU (by rw[bc];decide)
 refine eW call387 func387 ?_;refine cU (aN (t1 oT) (aN @mk0 (aN @ot (aN @nC (aN @S6 (aN @kG (aN @Mm (aN @HX (aN @e1 @e2))))))))) ?_;refine af (α:=Nat) (fun c=>64-c) (fun c=>⟨[(0, .v (.s s)),(3, .rs 1006 (1+c) 0 (s.length+1+c) 1)],[(1006,⟨1+c,aG (s++128::zy c),true,none⟩)],1015⟩) (fun c=>c<=(119-s.length%64)%64) 0 (fun _=>ay _) (aJ _) ?_ ?_
 ·(refine AS.Le.of (by first|decide|omega) ?_ ?_<;>simp[dy,dx,aO,az,AV.bd,AV.bd.bdL,u8,ar,ax,aA])
  all_goals rfl
 ·intro c hc R hR;have hl:(s++128::zy c).length=s.length+1+c:=by simp[HX];omega
  have hT:List.take (s.length+1+c) (s++128::zy c)=s++128::zy c:=by rw[<-hl];exact ct
  have hz:s++128::zy c++[0]=s++128::zy (c+1):=by
   rw[fw];congr 1;unfold zy;rw[DV];rfl
  by_cases hlt:c=(119-s.length%64)%64
  ·have h5: ∀ _:True,(((s.length+1+c)%64:Nat):Int)=56:=fun _=>oO
   have w1: ∀ _:True,IntKind.u64.wrap (s.length:Int)=(s.length:Int):=fun _=>by rw[By];omega
   have w2: ∀ _:True,IntKind.u64.wrap ((s.length:Int)*8)=((s.length*8:Nat):Int):=fun _=>by rw[By];omega
   clear hR;refine dH (aN @hl (aN @hT (aN @Ml (aN @ot (aN @nC (aN (h5 oT) (aN (w1 oT) (w2 oT)))))))) ?_;obtain⟨N,hN⟩: ∃N,N=s.length*8:=⟨_,rfl⟩;obtain⟨M0,hM0⟩: ∃M,M=s++128::zy c:=⟨_,rfl⟩;rw[<-hN,<-hM0];obtain⟨m0,hm0⟩: ∃m,m=s.length+1+c:=⟨_,rfl⟩;rw[<-hm0];have hL0:M0.length=m0:=by rw[hM0,hm0,hl]
   have hT0:List.take m0 M0=M0:=by rw[hm0,hM0,hT]
   obtain⟨v0,hv0⟩: ∃v,v=1+c:=⟨_,rfl⟩;rw[<-hv0];have hb1:m0<2000000000:=oO;clear hl hT hc h5 w1 w2;refine ai ?_;repeat' first|simp only[go_sem,seval,hL0,hT0,sW,ot,nC]|refine oE ?_|apply xX<;>intro hc
   all_goals try refine⟨oO,?_⟩
   obtain⟨M1,hM1⟩: ∃x,x=M0++[UInt8.ofNat (N/72057594037927936)]:=⟨_,rfl⟩;obtain⟨m1,hm1⟩: ∃x,x=m0+1:=⟨_,rfl⟩;obtain⟨v1,hv1⟩: ∃x,x=v0+1:=⟨_,rfl⟩;rw[<-hM1,<-hm1,<-hv1];have hL1:M1.length=m1:=by rw[hM1,hm1,bJ,hL0];rfl
   have hT1:List.take m1 M1=M1:=by rw[<-hL1];exact ct
   refine ai ?_;repeat' first|simp only[go_sem,seval,hL1,hT1,sW,ot,nC]|refine oE ?_|apply xX<;>intro hc
   all_goals try refine⟨oO,?_⟩
   obtain⟨M2,hM2⟩: ∃x,x=M1++[UInt8.ofNat (N/281474976710656)]:=⟨_,rfl⟩;obtain⟨m2,hm2⟩: ∃x,x=m1+1:=⟨_,rfl⟩;obtain⟨v2,hv2⟩: ∃x,x=v1+1:=⟨_,rfl⟩;rw[<-hM2,<-hm2,<-hv2];have hL2:M2.length=m2:=by rw[hM2,hm2,bJ,hL1];rfl
   have hT2:List.take m2 M2=M2:=by rw[<-hL2];exact ct
   refine ai ?_;repeat' first|simp only[go_sem,seval,hL2,hT2,sW,ot,nC]|refine oE ?_|apply xX<;>intro hc
   all_goals try refine⟨oO,?_⟩
   obtain⟨M3,hM3⟩: ∃x,x=M2++[UInt8.ofNat (N/1099511627776)]:=⟨_,rfl⟩;obtain⟨m3,hm3⟩: ∃x,x=m2+1:=⟨_,rfl⟩;obtain⟨v3,hv3⟩: ∃x,x=v2+1:=⟨_,rfl⟩;rw[<-hM3,<-hm3,<-hv3];have hL3:M3.length=m3:=by rw[hM3,hm3,bJ,hL2];rfl
   have hT3:List.take m3 M3=M3:=by rw[<-hL3];exact ct
   refine ai ?_;repeat' first|simp only[go_sem,seval,hL3,hT3,sW,ot,nC]|refine oE ?_|apply xX<;>intro hc
   all_goals try refine⟨oO,?_⟩
   obtain⟨M4,hM4⟩: ∃x,x=M3++[UInt8.ofNat (N/4294967296)]:=⟨_,rfl⟩;obtain⟨m4,hm4⟩: ∃x,x=m3+1:=⟨_,rfl⟩;obtain⟨v4,hv4⟩: ∃x,x=v3+1:=⟨_,rfl⟩;rw[<-hM4,<-hm4,<-hv4];have hL4:M4.length=m4:=by rw[hM4,hm4,bJ,hL3];rfl
   have hT4:List.take m4 M4=M4:=by rw[<-hL4];exact ct
   refine ai ?_;repeat' first|simp only[go_sem,seval,hL4,hT4,sW,ot,nC]|refine oE ?_|apply xX<;>intro hc
   all_goals try refine⟨oO,?_⟩
   obtain⟨M5,hM5⟩: ∃x,x=M4++[UInt8.ofNat (N/16777216)]:=⟨_,rfl⟩;obtain⟨m5,hm5⟩: ∃x,x=m4+1:=⟨_,rfl⟩;obtain⟨v5,hv5⟩: ∃x,x=v4+1:=⟨_,rfl⟩;rw[<-hM5,<-hm5,<-hv5];have hL5:M5.length=m5:=by rw[hM5,hm5,bJ,hL4];rfl
   have hT5:List.take m5 M5=M5:=by rw[<-hL5];exact ct
   refine ai ?_;repeat' first|simp only[go_sem,seval,hL5,hT5,sW,ot,nC]|refine oE ?_|apply xX<;>intro hc
   all_goals try refine⟨oO,?_⟩
   obtain⟨M6,hM6⟩: ∃x,x=M5++[UInt8.ofNat (N/65536)]:=⟨_,rfl⟩;obtain⟨m6,hm6⟩: ∃x,x=m5+1:=⟨_,rfl⟩;obtain⟨v6,hv6⟩: ∃x,x=v5+1:=⟨_,rfl⟩;rw[<-hM6,<-hm6,<-hv6];have hL6:M6.length=m6:=by rw[hM6,hm6,bJ,hL5];rfl
   have hT6:List.take m6 M6=M6:=by rw[<-hL6];exact ct
   refine ai ?_;repeat' first|simp only[go_sem,seval,hL6,hT6,sW,ot,nC]|refine oE ?_|apply xX<;>intro hc
   all_goals try refine⟨oO,?_⟩
   obtain⟨M7,hM7⟩: ∃x,x=M6++[UInt8.ofNat (N/256)]:=⟨_,rfl⟩;obtain⟨m7,hm7⟩: ∃x,x=m6+1:=⟨_,rfl⟩;obtain⟨v7,hv7⟩: ∃x,x=v6+1:=⟨_,rfl⟩;rw[<-hM7,<-hm7,<-hv7];have hL7:M7.length=m7:=by rw[hM7,hm7,bJ,hL6];rfl
   have hT7:List.take m7 M7=M7:=by rw[<-hL7];exact ct
   refine ai ?_;repeat' first|simp only[go_sem,seval,hL7,hT7,sW,ot,nC]|refine oE ?_|apply xX<;>intro hc
   all_goals try refine⟨oO,?_⟩
   obtain⟨M8,hM8⟩: ∃x,x=M7++[UInt8.ofNat (N/1)]:=⟨_,rfl⟩;obtain⟨m8,hm8⟩: ∃x,x=m7+1:=⟨_,rfl⟩;obtain⟨v8,hv8⟩: ∃x,x=v7+1:=⟨_,rfl⟩;rw[<-hM8,<-hm8,<-hv8];have hL8:M8.length=m8:=by rw[hM8,hm8,bJ,hL7];rfl
   have hT8:List.take m8 M8=M8:=by rw[<-hL8];exact ct
   have hP:M8=pad s:=by
    rw[hM8,hM7,hM6,hM5,hM4,hM3,hM2,hM1,hM0,hlt,hN,pad];simp only[be,zy,fw,List.cons_append,List.nil_append,Nat.reducePow,Nat.pow_zero,iR]
   clear hM8 hM7 hM6 hM5 hM4 hM3 hM2 hM1 hM0 hT0 hT1 hT2 hT3 hT4 hT5 hT6 hT7 hL0 hL1 hL2 hL3 hL4 hL5 hL6 hL7;subst hP;refine ai ?_;refine kz (aN @k1 (aN @k2 (aN @k3 (aN @k4 @Pk)))) @hf ?_;clear hT8;obtain⟨l,hl⟩: ∃l,l=pad s:=⟨_,rfl⟩;have hm6:l.length=l.length/64*64:=by rw[hl];exact N0 s
   have hsum:me s=(oh (l.length/64) l oP).flatMap VI:=by rw[hl];rfl
   rw[hsum];rw[<-hl]at hL8⊢;clear hsum hl hv1 hv2 hv3 hv4 hv5 hv6 hv7 hv8 hv0 hlt hN e1 e2 e3 t1;have hb8:m8<2000000008:=oO;have hm8:m8=m8/64*64:=oO;clear hb1 hm0 hm1 hm2 hm3 hm4 hm5 hm6 hm7;rw[hL8];refine af (α:=Nat×Nat×List Nat) (fun p=>p.2.1) (fun p=>⟨[(3, .rs 1006 v8 p.1 p.2.1 1),(6, .p 1132 0 0)],[(1006,⟨v8,aG l,true,none⟩),(1132,⟨0,aC .u32 p.2.2,false,some 448⟩)],_⟩) (fun p=>p.1+p.2.1=m8/\p.2.1=p.2.1/64*64/\p.2.2.length=8/\oh (p.2.1/64) (l.drop p.1) p.2.2=oh (m8/64) l oP) (0,m8,oP) (fun _=>ay _) ⟨dq _,hm8,rfl,rfl⟩ ?_ ?_
   ·exact lE
   ·rintro⟨o,r,st⟩ ⟨ho,hr,hst,he⟩ R hR;have ho:o+r=m8:=ho;have hr:r=r/64*64:=hr;have hst:st.length=8:=hst;have he:oh (r/64) (l.drop o) st=oh (m8/64) l oP:=he;have q1:(aC .u32 st).length=8:=by rw[bc,hst]
    have q2:List.take 8 (aC .u32 st)=aC .u32 st:=cb oO;rcases j6 (r/64)with h0|h0
    ·have hr0:r=0:=oO;subst hr0;have he:st=oh (m8/64) l oP:=by rw[<-he];rfl
     rw[<-he];clear hR he h0 hr;obtain⟨a,b,c,d,e,f,g,i,rfl⟩:=WE hst;have w8:wl [a,b,c,d,e,f,g,i]=[.i .u32 (a:Int), .i .u32 (b:Int), .i .u32 (c:Int), .i .u32 (d:Int), .i .u32 (e:Int), .i .u32 (f:Int), .i .u32 (g:Int), .i .u32 (i:Int)]:=rfl;refine dH (aN @q1 (aN @q2 (aN @jH @k1))) ?_;rw[w8];refine ai ?_;refine cU (aN @zF @pK) ?_;refine ai ?_;refine cU (aN @zF @pK) ?_;refine ai ?_;refine cU (aN @zF @pK) ?_;refine ai ?_;refine cU (aN @zF @pK) ?_;refine ai ?_;refine cU (aN @zF @pK) ?_;refine ai ?_;refine cU (aN @zF @pK) ?_;refine ai ?_;refine cU (aN @zF @pK) ?_;refine ai ?_;refine cU (aN @zF @pK) ?_;refine ai ?_;exact gn (aN @zF @pK)
    ·obtain⟨r',rfl⟩: ∃r',r=r'+64:=⟨r-64,oO⟩;have f1:o+64+r'=m8:=oO;have f2:r'=r'/64*64:=oO;have hgo:=hR (o+64,r',rq st ((l.drop o).take 64)) ⟨f1,f2,oN _ hst,by
      rw[show(r'+64)/64=r'/64+1 by omega,oh,yc]at he
      rw[ij o 64];rw[ij o 64]at he;exact he⟩ (by simp)
     have hblk:((l.drop o).take 64).length=64:=by rw[bV,ly];omega
     have ha:=LX hst hblk;have q3:(wl (rq st ((l.drop o).take 64))).length=8:=by rw[qD,oN _ hst]
     have q4:List.drop 8 (aC .u32 st)=[]:=gU oO;have hfl:=Q3 (rq st ((l.drop o).take 64));clear hR he h0;repeat' first|simp only[go_sem,seval,q1,q2,q3,q4,jH,Pk]|(refine TO (gr:=true) (el:=none) (ver:=v8) (l:=l) ha hfl (by simp[az]) oO ?_)|refine oE ?_|apply xX<;>intro hc
     refine⟨by rw[bc];exact oN _ hst,rfl,oO,hgo _ ?_⟩
     (refine AS.Le.of (by first|decide|omega) ?_ ?_<;>simp[dy,dx,aO,az,AV.bd,AV.bd.bdL,u8,ar,ax,aA])
     all_goals first|omega|skip
  ·have h5: ∀ _:True,¬(((s.length+1+c)%64:Nat):Int)=56:=fun _=>oO
   have hgo:=hR (c+1) oO oO;clear hR;refine dH (aN @hl (aN @hT (aN @Ml (aN @ot (aN @nC (aN @hz (h5 oT))))))) ?_;refine hgo _ ?_
   (refine AS.Le.of (by first|decide|omega) ?_ ?_<;>simp[dy,dx,aO,az,AV.bd,AV.bd.bdL,u8,ar,ax,aA])
   all_goals first|omega|skip
theorem ja (x n:Nat) (h0:0<n) (h:n<32):aD 478 [.i .u32 x,E n] (.i .u32 (rr x n)):=by
 have e2: ∀ _:True,(if 32-n<=32 then 32-n else 32)=32-n:=fun _=>ah oO
 have e3: ∀ _:True,(32:Int)-(n:Int)=((32-n:Nat):Int):=fun _=>oO
 have e4: ∀ _:True,(if n<=32 then n else 32)=n:=fun _=>ah oO
 refine eW call478 func478 ?_;exact gn (aN (e2 oT) (aN (e3 oT) (aN (e4 oT) (aN @XA @o_r))))
theorem Bs:aD 477 [] (.sl (wl pS)):=by
 refine eW call477 func477 ?_;exact z0
def tZ (l:List Nat) (x:Nat):List AV:=aC .u32 (l++x::List.replicate (63-l.length) 0)
theorem OD (l:List Nat) (x:Nat) (h:l.length<64):(tZ l x).length=64:=by
 rw[tZ,bc];simp;omega
theorem OC (l:List Nat) (x:Nat):(tZ l x).getD l.length .u= .v (.i .u32 (x:Int)):=by
 rw[tZ,dA (by simp)];simp
theorem OE (l:List Nat) (x y:Nat):List.take l.length (tZ l x)++[AV.v (.i .u32 (y:Int))]++List.drop (l.length+1) (tZ l x)=tZ l y:=by
 rw[tZ,eH (x:=y) (by simp) rfl,tZ];simp
theorem Wc (l:List Nat) (h:l.length<64):aC .u32 (l++List.replicate (64-l.length) 0)=tZ l 0:=by
 obtain⟨k,hk⟩: ∃k,64-l.length=k+1:=⟨63-l.length,oO⟩;rw[tZ,hk,List.replicate_succ,show 63-l.length=k by omega]
theorem Wd (l:List Nat) (x:Nat) (h:l.length<64):tZ l x=aC .u32 ((l++[x])++List.replicate (64-(l++[x]).length) 0):=by
 rw[tZ,fw,bJ,List.length_singleton,show 64-(l.length+1)=63-l.length by omega];rfl
theorem w0:IntKind.u32.wrap 0=0:=rfl
def m8 (x c:Nat):Nat:=(x*256+c)%4294967296
theorem aai (x c:Nat):IntKind.u32.wrap (IntKind.u32.wrap ((x:Int)*256)+(c:Int))=((m8 x c:Nat):Int):=by
 rw[Lt,Lt,m8];omega
theorem aah (a b c d:UInt8):m8 (m8 (m8 a.toNat b.toNat) c.toNat) d.toNat=num [a,b,c,d]:=by
 have ha:=a.toNat_lt;have hb:=b.toNat_lt;have hc:=c.toNat_lt;have hd:=d.toNat_lt;simp only[m8,num,List.length_cons,List.length_nil];omega
theorem Xr {l:Bytes} {i:Nat} {a b c d:UInt8} (h:(l.drop (4*i)).take 4=[a,b,c,d]):l.getD (4*i) 0=a/\l.getD (4*i+1) 0=b/\l.getD (4*i+2) 0=c/\l.getD (4*i+3) 0=d:=by
 have hg: ∀k,k<4->l.getD (4*i+k) 0=[a,b,c,d].getD k 0:=fun k hk=>by
  rw[<-h];simp[bu,fB,hk]
 exact⟨hg 0 oC,hg 1 oC,hg 2 oC,hg 3 oC⟩
theorem Mv (l:List Nat) {n:Nat} (h:l.length=n):chunk 1 n (wl l)=wl l:=by
 subst h;have:=nZ (wl l)
 rwa[qD]at this
theorem GN (l:List Nat):(aC .u32 l).all AV.one=true:=by
 unfold aC
 induction l with
 |nil=>rfl
 |cons c l ih=>rw[br,List.all_cons,ih];rfl
theorem GW (hf:Nat->Option aF) (l:List Nat):bz (view hf 8) (aC .u32 l)=some (wl l):=jH (fun _=>rfl) l
theorem Dk {blk:Bytes} (hb:blk.length=64):aD 476 [.s blk] (.sl (wl (sched blk))):=by
 refine eW call476 func476 ?_;refine pU ?_;refine af (α:=List Nat) (fun l=>16-l.length) (fun l=>⟨[(0, .v (.s blk)),(3, .rs 1001 0 0 64 1),(4,E' l.length)],[(1001,⟨0,aC .u32 (l++List.replicate (64-l.length) 0),false,none⟩)],_⟩) (fun l=>l.length<=16/\l=(List.range l.length).map (xu blk)) [] (fun _=>ay _) ⟨by decide,rfl⟩ ?_ ?_
 ·(refine AS.Le.of (by first|decide|omega) ?_ ?_<;>simp[dy,dx,aO,az,AV.bd,AV.bd.bdL,u8,ar,ax,aA])
  all_goals rfl
 ·rintro l ⟨hl,he⟩ R hR;have hL:(aC .u32 (l++List.replicate (64-l.length) 0)).length=64:=by rw[bc];simp;omega
  by_cases hlt:l.length<16
  ·obtain⟨i,hi⟩: ∃i,i=l.length:=⟨_,rfl⟩;obtain⟨a,b,c,d,h4,-⟩:=four blk (i:=i) oO;obtain⟨q0,q1,q2,q3⟩:=Xr h4;have hV:xu blk i=m8 (m8 (m8 a.toNat b.toNat) c.toNat) d.toNat:=by rw[aah,xu,h4]
   have hgo:=hR (l++[xu blk i]) ⟨by simp;omega,by
    rw[bJ,List.length_singleton,rj,jh,<-he,<-hi];rfl⟩ (by simp;omega)
   rw[<-Wd l _ oO,bJ,List.length_singleton]at hgo;rw[Wc l oO];have hg:=OC l;have hp:=OE l;have hn:=fun x=>OD l x oO
   rw[hV]at hgo;rw[<-hi]at hg hp hgo⊢;have t0: ∀ _:True,((4:Int)*(i:Int)).toNat=4*i:=fun _=>oO
   have t1: ∀ _:True,((4:Int)*(i:Int)+1).toNat=4*i+1:=fun _=>oO
   have t2: ∀ _:True,((4:Int)*(i:Int)+2).toNat=4*i+2:=fun _=>oO
   have t3: ∀ _:True,((4:Int)*(i:Int)+3).toNat=4*i+3:=fun _=>oO
   clear hR he h4 hV hL;repeat' first|simp only[go_sem,seval,hb,hg,hp,hn,t0 oT,t1 oT,t2 oT,t3 oT,q0,q1,q2,q3,YR,aai,w0,Int.add_zero,yA]|(refine ai ?_)|refine oE ?_|apply xX<;>intro hc
   refine hgo _ ?_
   (refine AS.Le.of (by first|decide|omega) ?_ ?_<;>simp[dy,dx,aO,az,AV.bd,AV.bd.bdL,u8,ar,ax,aA])
   all_goals first|omega|(unfold tZ;simp[aA])
  ·have hl16:l.length=16:=oO;have hs0:l=(List.range 16).map (xu blk):=by rw[<-hl16];exact he
   rw[hl16];rw[hl16]at hL;clear hR he hlt hl;refine pU ?_;refine af (α:=List Nat) (fun l=>64-l.length) (fun l=>⟨[(3, .rs 1001 0 0 64 1),(6,E' l.length)],[(1001,⟨0,aC .u32 (l++List.replicate (64-l.length) 0),false,none⟩)],_⟩) (fun l=>16<=l.length/\l.length<=64/\Lh (64-l.length) l=sched blk) l (fun _=>ay _) ⟨oO,oO,by rw[hl16,hs0];rfl⟩ ?_ ?_
   ·rw[hl16];exact lE
   ·clear hs0 hL hl16 l;rintro l ⟨hl1,hl2,he⟩ R hR;have hL:(aC .u32 (l++List.replicate (64-l.length) 0)).length=64:=by rw[bc];simp;omega
    obtain⟨i,hi⟩: ∃i,i=l.length:=⟨_,rfl⟩
    by_cases hlt:l.length<64
    ·have hgo:=hR (l++[Dx l]) ⟨by simp;omega,by simp;omega,by
      have:64-l.length=(64-(l++[Dx l]).length)+1:=by simp;omega
      rw[this]at he;exact he⟩ (by simp;omega)
     have hse:=Dv l 64 (Dx l) hlt;have hg: ∀k:Nat,0<k->k<=16->(aC .u32 (l++List.replicate (64-l.length) 0)).getD ((i:Int)-(k:Int)).toNat .u= .v (.i .u32 (l.getD (i-k) 0:Nat)):=fun k h0 h1=>by
      rw[show((i:Int)-(k:Int)).toNat=i-k by omega,dA (by simp;omega),ET l _ _ oO]
     have g15:(aC .u32 (l++List.replicate (64-l.length) 0)).getD ((i:Int)-15).toNat .u= _:=hg 15 oC oC;have g2:(aC .u32 (l++List.replicate (64-l.length) 0)).getD ((i:Int)-2).toNat .u= _:=hg 2 oC oC;have g16:(aC .u32 (l++List.replicate (64-l.length) 0)).getD ((i:Int)-16).toNat .u= _:=hg 16 oC oC;have g7:(aC .u32 (l++List.replicate (64-l.length) 0)).getD ((i:Int)-7).toNat .u= _:=hg 7 oC oC;have hN:Dx l=ad (ad (ad (l.getD (i-16) 0) (pW (pW (rr (l.getD (i-15) 0) 7) (rr (l.getD (i-15) 0) 18)) (l.getD (i-15) 0/8))) (l.getD (i-7) 0)) (pW (pW (rr (l.getD (i-2) 0) 17) (rr (l.getD (i-2) 0) 19)) (l.getD (i-2) 0/1024)):=by rw[hi];rfl
     rw[hN]at hgo hse;rw[<-hi]at hL hse g15 g2 g16 g7⊢;clear hR he hN hg;generalize l.getD (i-16) 0=w16 at*;generalize l.getD (i-15) 0=w15 at*;generalize l.getD (i-7) 0=w7 at*;generalize l.getD (i-2) 0=w2 at*;have r7:=ja w15 7 oC oC;have r18:=ja w15 18 oC oC;have r17:=ja w2 17 oC oC;have r19:=ja w2 19 oC oC;refine wI (aN @hL (aN @g15 (aN @g2 (aN @g16 (aN @g7 (aN @qc @WG)))))) @r7 @r18 @r17 @r19 ?_;refine hgo _ ?_;rw[eH (x:=ad (ad (ad w16 (pW (pW (rr w15 7) (rr w15 18)) (w15/8))) w7) (pW (pW (rr w2 17) (rr w2 19)) (w2/1024))) (by rw[bc]at hL;omega) rfl,hse]
     (refine AS.Le.of (by first|decide|omega) ?_ ?_<;>simp[dy,dx,aO,az,AV.bd,AV.bd.bdL,u8,ar,ax,aA])
     all_goals first|omega|skip
    ·have hl64:l.length=64:=oO;rw[hl64]at he hi hL⊢;have he:l=sched blk:=he;rw[fA,List.replicate_zero,kf]at hL⊢;rw[<-he];have k1:List.take 64 (aC .u32 l)=aC .u32 l:=cb (by rw[bc];omega)
     have k3:(wl l).length=64:=by rw[qD,hl64]
     have k4:=Mv l hl64;have k5:=GN l;repeat' first|simp only[go_sem,seval,hL,k1,k3,k4,k5,jH,GW,Pk]|refine oE ?_|apply xX<;>intro hc
     all_goals skip
theorem GB (n:Nat):UInt8.ofNat (IntKind.u8.wrap (n:Int)).toNat=UInt8.ofNat n:=by
 rw[re];apply yC;simp;omega
theorem Mo (n:Nat):UInt8.ofNat (n%256)=UInt8.ofNat n:=by
 apply yC;simp
theorem Hp {s:Bytes} (hs:s.length<1000000000):aD 458 [.s s] (.s (pad s)):=by
 refine eW call458 func458 ?_;refine pU ?_;refine af (α:=Nat) (fun c=>64-c) (fun c=>⟨[(0, .v (.s (s++128::zy c))),(3,E' s.length)],[],_⟩) (fun c=>c<=(119-s.length%64)%64) 0 (fun _=>ay _) (aJ _) ?_ ?_
 ·(refine AS.Le.of (by first|decide|omega) ?_ ?_<;>simp[dy,dx,aO,az,AV.bd,AV.bd.bdL,u8,ar,ax,aA])
  all_goals rfl
 ·intro c hc R hR;have hl:(s++128::zy c).length=s.length+1+c:=by simp[HX];omega
  have hz:s++128::zy c++[0]=s++128::zy (c+1):=by
   rw[fw];congr 1;unfold zy;rw[DV];rfl
  obtain⟨L,hLL⟩: ∃L,L=s++128::zy c:=⟨_,rfl⟩;rw[<-hLL]at hl hz⊢
  by_cases hlt:c=(119-s.length%64)%64
  ·have h5: ∀ _:True,(((s.length+1+c)%64:Nat):Int)=56:=fun _=>oO
   have w1: ∀ _:True,IntKind.u64.wrap (s.length:Int)=(s.length:Int):=fun _=>by rw[By];omega
   have w2: ∀ _:True,IntKind.u64.wrap ((s.length:Int)*8)=((s.length*8:Nat):Int):=fun _=>by rw[By];omega
   clear hR;refine dH (aN @hl (aN (h5 oT) (aN (w1 oT) (w2 oT)))) ?_;obtain⟨N,hN⟩: ∃N,N=s.length*8:=⟨_,rfl⟩;rw[<-hN];clear h5 w1 w2 hz;repeat' first|simp only[go_sem,seval,zF,pK,GB,Mo,eZ,Nat.reduceMul]|(refine ai ?_)|refine oE ?_|apply xX<;>intro hc
   rw[hLL,hlt,hN,pad];simp only[be,zy,fw,List.cons_append,List.nil_append,Nat.reducePow,Nat.pow_zero,iR]
  ·have h5: ∀ _:True,¬(((s.length+1+c)%64:Nat):Int)=56:=fun _=>oO
   have hgo:=hR (c+1) oO oO;rw[<-hz]at hgo;clear hR hz;refine dH (aN @hl (h5 oT)) ?_;refine hgo _ ?_
   (refine AS.Le.of (by first|decide|omega) ?_ ?_<;>simp[dy,dx,aO,az,AV.bd,AV.bd.bdL,u8,ar,ax,aA])
   all_goals first|omega|skip
