/- Part of the proof. -/
import Derived.Test.YtkmahpcpmgedkaaGreatDoorFC19
set_option linter.all false
set_option maxHeartbeats 16000000
set_option maxRecDepth 100000
namespace Go.Proofs.Tryz
open Go Go.Dom
variable {el:Option TypeId}
def wl (l:List Nat):List PV:=l.map fun n:Nat=>PV.i .u32 n
theorem Pc (l:List Nat):List.map AV.v (wl l)=aB .u32 l:=by simp[wl,aB]
theorem qA (l:List Nat):(wl l).length=l.length:=aC ..
theorem jR {g:AV->Option PV} (hg: ∀n:Nat,g (.v (.i .u32 (n:Int)))=some (.i .u32 n)) (l:List Nat):bz g (aB .u32 l)=some (wl l):=by
 unfold aB wl
 induction l with
 |nil=>rfl
 |cons x l ih=>rw[bC,bC,bz,hg,ih]
theorem XD: ∀n:Fin 32,0<n.val->mT .u64 (IntKind.u64.wrap (-(n.val:Int))) 31=((32-n.val:Nat):Int):=by decide+kernel
theorem TW (x n:Nat) (h0:0<n) (h:n<32):aE 480 [.i .u32 x,E (-(n:Int))] (.i .u32 (rr x n)):=by
 have e1:=XD ⟨n,h⟩ h0;simp only at e1;have e2: ∀ _:True,(if 32-n<=32 then 32-n else 32)=32-n:=fun _=>ah oO
 have e3: ∀ _:True,(32:Int)-((32-n:Nat):Int)=(n:Int):=fun _=>oO
 have e4: ∀ _:True,(if n<=32 then n else 32)=n:=fun _=>ah oO
 refine eW call480 func480 ?_;refine dI (aN @e1 (aN (e2 oT) (aN (e3 oT) (aN (e4 oT) (aN @Xy @o_r))))) ?_;rw[rr,NF]
theorem lu (x n:Nat) (h0:0<n) (h:n<32):aE 473 [.i .u32 x,E n] (.i .u32 (rr x n)):=by
 have hr:=TW x n h0 h;have e:(0:Int)-(n:Int)= -(n:Int):=oO;refine eW call473 func473 ?_;exact m9 @e @hr
theorem ML:aE 446 [] (.agg (wl oW)):=by
 refine eW call446 func446 ?_;exact z0
theorem Cp:aE 471 [] (.agg (wl pZ)):=by
 refine eW call471 func471 ?_;exact z0
theorem YZ (a b c d:UInt8):BE (BE (BE (wu a.toNat 24) (wu b.toNat 16)) (wu c.toNat 8)) d.toNat=num [a,b,c,d]:=by
 have ha:=a.toNat_lt;have hb:=b.toNat_lt;have hc:=c.toNat_lt;have hd:=d.toNat_lt;have e1:wu a.toNat 24=a.toNat*2^24:=by unfold wu;omega
 have e2:wu b.toNat 16=b.toNat*2^16:=by unfold wu;omega
 have e3:wu c.toNat 8=c.toNat*2^8:=by unfold wu;omega
 have f1:BE (wu a.toNat 24) (wu b.toNat 16)=a.toNat*2^24+b.toNat*2^16:=by
  rw[BE,e1,e2,b9 oO,b9 oO,Fa oO]
 have f2:BE (BE (wu a.toNat 24) (wu b.toNat 16)) (wu c.toNat 8)=(a.toNat*2^8+b.toNat)*2^16+c.toNat*2^8:=by
  rw[BE,f1,e3,b9 oO,b9 oO,show a.toNat*2^24+b.toNat*2^16=(a.toNat*2^8+b.toNat)*2^16 by omega,Fa oO]
 rw[BE,f2,b9 oO,b9 oO,show(a.toNat*2^8+b.toNat)*2^16+c.toNat*2^8=((a.toNat*2^8+b.toNat)*2^8+c.toNat)*2^8 by omega,Fa oO]
 simp[num];omega
theorem four (l:Bytes) {i:Nat} (h:4*i+4<=l.length): ∃a b c d,(l.drop (4*i)).take 4=[a,b,c,d]/\((l.map u8).take (4*i+4)).drop (4*i)=[u8 a,u8 b,u8 c,u8 d]:=by
 have hl:((l.drop (4*i)).take 4).length=4:=by simp;omega
 have e:((l.map u8).take (4*i+4)).drop (4*i)=((l.drop (4*i)).take 4).map u8:=by
  rw[<-x7,<-uA,tZ];congr 2;omega
 generalize (l.drop (4*i)).take 4=m at hl e
 match m,hl with
 |[a,b,c,d],_=>exact⟨a,b,c,d,rfl,e⟩
theorem aak (a:Nat):IntKind.u32.wrap ((a:Int)*16777216)=((wu a 24:Nat):Int):=Xy a 24
theorem aaj (a:Nat):IntKind.u32.wrap ((a:Int)*65536)=((wu a 16:Nat):Int):=Xy a 16
theorem mk8 (a:Nat):IntKind.u32.wrap ((a:Int)*256)=((wu a 8:Nat):Int):=Xy a 8
theorem YR (c:UInt8):IntKind.u32.wrap ((c.toNat:Nat):Int)=((c.toNat:Nat):Int):=by
 have:=c.toNat_lt;rw[Lm];omega
theorem Dd (l:List Nat) (n x:Nat) (h:l.length<n):(l++List.replicate (n-l.length) 0).set l.length x=(l++[x])++List.replicate (n-(l++[x]).length) 0:=by
 obtain⟨k,hk⟩: ∃k,n-l.length=k+1:=⟨n-l.length-1,oO⟩;rw[hk,List.replicate_succ,DN _ _ (aA _),fC,List.set_cons_zero];have:n-(l++[x]).length=k:=by simp;omega
 rw[this];simp
theorem EH (l:List Nat) (k i:Nat) (h:i<l.length):(l++List.replicate k 0).getD i 0=l.getD i 0:=by
 simp[br,uC h]
def zz (n:Nat):List Nat:=List.replicate n 0
theorem Jk:(aB .u32 (zz 64)).length=64:=by rw[bj];rfl
theorem FI {blk:Bytes} (hb:blk.length=64):aE 472 [.sl (blk.map u8)] (.agg (wl (sched blk))):=by
 have lb:(blk.map u8).length=64:=by rw[aC,hb]
 refine eW call472 func472 ?_;refine qB ?_;refine af (α:=List Nat) (fun l=>16-l.length) (fun l=>⟨[(0, .v (.sl (blk.map u8))),(2, .p 1000 0 0),(3, .p 1001 0 0),(9,E' l.length)],[(1000,⟨0,aB .u32 (zz 64),false,some 471⟩),(1001,⟨0,aB .u32 (l++List.replicate (64-l.length) 0),false,some 471⟩)],_⟩) (fun l=>l.length<=16/\l=(List.range l.length).map (wR blk)) [] (fun _=>aA _) ⟨by decide,rfl⟩ ?_ ?_
 ·refine lG ?_;all_goals exact⟨rfl,rfl⟩
 ·rintro l ⟨hl,he⟩ R hR;have hL:(aB .u32 (l++List.replicate (64-l.length) 0)).length=64:=by rw[bj];simp;omega
  obtain⟨i,hi⟩: ∃i,i=l.length:=⟨_,rfl⟩
  by_cases hlt:l.length<16
  ·obtain⟨a,b,c,d,h4,h5⟩:=four blk (i:=i) oO;have hV:wR blk i=BE (BE (BE (wu a.toNat 24) (wu b.toNat 16)) (wu c.toNat 8)) d.toNat:=by rw[YZ,wR,h4]
   have hgo:=hR (l++[wR blk i]) ⟨by simp;omega,by
    rw[bT,List.length_singleton,re,jv,<-he,<-hi];rfl⟩ (by simp;omega)
   have hse:=Dd l 64 (wR blk i) oO;rw[hV]at hgo hse;have t1: ∀ _:True,((4:Int)*(i:Int)).toNat=4*i:=fun _=>oO
   have t2: ∀ _:True,((4:Int)*(i:Int)+4).toNat=4*i+4:=fun _=>oO
   have hcl: ∀x∈blk.map u8,x.cells.length=1:=fun x hx=>by obtain⟨c,-,rfl⟩:=bm.1 hx;rfl
   rw[<-hi]at hL⊢;clear hR he h4 hV;refine dI (aN @lb (aN @hL (aN (t1 oT) (aN (t2 oT) (aN @h5 (aN @aak (aN @aaj (aN @mk8 (aN @YR @o_r))))))))) ?_;refine⟨⟨oO,hcl⟩,oO,oO,?_⟩;refine wV ?_;refine hgo _ ?_;rw[<-hi]at hse;rw[eD (x:=BE (BE (BE (wu a.toNat 24) (wu b.toNat 16)) (wu c.toNat 8)) d.toNat) (by rw[bj]at hL;omega) rfl,hse]
   (refine AS.Le.of (by first|decide|omega) ?_ ?_<;>simp[dC,dA,aP,ay,AV.bd,AV.bd.bdL,u8,ar,au,az])
   all_goals first|omega|skip
  ·have hl16:l.length=16:=oO;have hs0:l=(List.range 16).map (wR blk):=by rw[<-hl16];exact he
   rw[hl16];rw[hl16]at hL;clear hR he hlt hl hi;refine qB ?_;refine af (α:=List Nat) (fun l=>64-l.length) (fun l=>⟨[(2, .p 1000 0 0),(3, .p 1001 0 0),(6,E' l.length)],[(1000,⟨0,aB .u32 (zz 64),false,some 471⟩),(1001,⟨0,aB .u32 (l++List.replicate (64-l.length) 0),false,some 471⟩)],_⟩) (fun l=>16<=l.length/\l.length<=64/\La (64-l.length) l=sched blk) l (fun _=>aA _) ⟨oO,oO,by rw[hl16,hs0];rfl⟩ ?_ ?_
   ·rw[hl16];exact lE
   ·clear hs0 hL hl16 i l;rintro l ⟨hl1,hl2,he⟩ R hR;have hL:(aB .u32 (l++List.replicate (64-l.length) 0)).length=64:=by rw[bj];simp;omega
    obtain⟨i,hi⟩: ∃i,i=l.length:=⟨_,rfl⟩
    by_cases hlt:l.length<64
    ·have hgo:=hR (l++[Df l]) ⟨by simp;omega,by simp;omega,by
      have:64-l.length=(64-(l++[Df l]).length)+1:=by simp;omega
      rw[this]at he;exact he⟩ (by simp;omega)
     have hse:=Dd l 64 (Df l) hlt;have hg: ∀k:Nat,0<k->k<=16->(aB .u32 (l++List.replicate (64-l.length) 0)).getD ((i:Int)-(k:Int)).toNat .u= .v (.i .u32 (l.getD (i-k) 0:Nat)):=fun k h0 h1=>by
      rw[show((i:Int)-(k:Int)).toNat=i-k by omega,dD (by simp;omega),EH l _ _ oO]
     have g15:(aB .u32 (l++List.replicate (64-l.length) 0)).getD ((i:Int)-15).toNat .u= _:=hg 15 oC oC;have g2:(aB .u32 (l++List.replicate (64-l.length) 0)).getD ((i:Int)-2).toNat .u= _:=hg 2 oC oC;have g16:(aB .u32 (l++List.replicate (64-l.length) 0)).getD ((i:Int)-16).toNat .u= _:=hg 16 oC oC;have g7:(aB .u32 (l++List.replicate (64-l.length) 0)).getD ((i:Int)-7).toNat .u= _:=hg 7 oC oC;have hN:Df l=ad (ad (ad (l.getD (i-16) 0) (p9 (p9 (rr (l.getD (i-15) 0) 7) (rr (l.getD (i-15) 0) 18)) (l.getD (i-15) 0/8))) (l.getD (i-7) 0)) (p9 (p9 (rr (l.getD (i-2) 0) 17) (rr (l.getD (i-2) 0) 19)) (l.getD (i-2) 0/1024)):=by rw[hi];rfl
     rw[hN]at hgo hse;rw[<-hi]at hL hse g15 g2 g16 g7⊢;clear hR he hN hg;generalize l.getD (i-16) 0=w16 at*;generalize l.getD (i-15) 0=w15 at*;generalize l.getD (i-7) 0=w7 at*;generalize l.getD (i-2) 0=w2 at*;have r7:=lu w15 7 oC oC;have r18:=lu w15 18 oC oC;have r17:=lu w2 17 oC oC;have r19:=lu w2 19 oC oC;refine vZ (aN @hL (aN @g15 (aN @g2 (aN @g16 (aN @g7 (aN @qe @Wz)))))) @r7 @r18 @r17 @r19 ?_;refine hgo _ ?_;rw[eD (x:=ad (ad (ad w16 (p9 (p9 (rr w15 7) (rr w15 18)) (w15/8))) w7) (p9 (p9 (rr w2 17) (rr w2 19)) (w2/1024))) (by rw[bj]at hL;omega) rfl,hse]
     (refine AS.Le.of (by first|decide|omega) ?_ ?_<;>simp[dC,dA,aP,ay,AV.bd,AV.bd.bdL,u8,ar,au,az])
     all_goals first|omega|skip
    ·have hl64:l.length=64:=oO;rw[hl64]at he hi hL⊢;have he:l=sched blk:=he;rw[fC,List.replicate_zero,kx]at hL⊢;rw[<-he];have k1:List.take 64 (aB .u32 l)=aB .u32 l:=cl (by rw[bj];omega)
     have k2:List.drop 64 (aB .u32 (zz 64))=[]:=il (by rw[Jk];decide)
     have k3:(wl l).length=64:=by rw[qA,hl64]
     repeat' first|simp only[go_sem,seval,hL,k1,k2,k3,jR,Pc,Jk]|refine oE ?_|apply xX<;>intro hc
     all_goals skip
theorem Wy {l:List Nat} (h:l.length=8): ∃a b c d e f g i,l=[a,b,c,d,e,f,g,i]:=by
 match l,h with
 |[a,b,c,d,e,f,g,i],_=>exact⟨_,_,_,_,_,_,_,_,rfl⟩
theorem Zd (a b c d e f g h:Nat):aB .u32 [a,b,c,d,e,f,g,h]=[.v (.i .u32 (a:Int)), .v (.i .u32 (b:Int)), .v (.i .u32 (c:Int)), .v (.i .u32 (d:Int)), .v (.i .u32 (e:Int)), .v (.i .u32 (f:Int)), .v (.i .u32 (g:Int)), .v (.i .u32 (h:Int))]:=rfl
theorem Tj (k w a b c d e f g h:Nat):OL k w [a,b,c,d,e,f,g,h]=[ad (ON k w [a,b,c,d,e,f,g,h]) (V7 [a,b,c,d,e,f,g,h]),a,b,c,ad d (ON k w [a,b,c,d,e,f,g,h]),e,f,g]:=rfl
theorem Tk (k w a b c d e f g h:Nat):ON k w [a,b,c,d,e,f,g,h]=ad (ad (ad (ad h (p9 (p9 (rr e 6) (rr e 11)) (rr e 25))) (p9 (Lr e f) (Lr (XC e) g))) k) w:=rfl
theorem Tl (a b c d e f g h:Nat):V7 [a,b,c,d,e,f,g,h]=ad (p9 (p9 (rr a 2) (rr a 13)) (rr a 22)) (p9 (p9 (Lr a b) (Lr a c)) (Lr b c)):=rfl
theorem U6 (e:Nat):IntKind.u32.wrap ((@BitVec.toNat 32 (@HXor.hXor (BitVec 32) (BitVec 32) (BitVec 32) (@instHXorOfXorOp (BitVec (IntKind.bits .u32)) (@BitVec.instXorOp (IntKind.bits .u32))) (BitVec.ofInt 32 (if IntKind.u32.signed=true then-1 else IntKind.u32.max)) (BitVec.ofNat 32 e)):Nat):Int)=((XC e:Nat):Int):=by
 have h:=n_r e;rw[gH]at h;exact h
theorem LK {st:List Nat} (hs:st.length=8) {blk:Bytes} (hb:blk.length=64):aE 447 [.agg (wl st), .sl (blk.map u8)] (.agg (wl (ru st blk))):=by
 have hc:=Cp;have hd:=FI hb;have k0:(wl st).length=8:=by rw[qA,hs]
 have k1:(wl pZ).length=64:=rfl;have k2:(wl (sched blk)).length=64:=by rw[qA,mH]
 have k3:(aB .u32 st).length=8:=by rw[bj,hs]
 have k4:List.take 64 (aB .u32 (sched blk))=aB .u32 (sched blk):=cl (by rw[bj,mH];omega)
 have k5:List.take 64 (aB .u32 pZ)=aB .u32 pZ:=cl (by rw[bj];decide)
 have k6:List.take 8 (aB .u32 st)=aB .u32 st:=cl (by rw[bj];omega)
 have k7:(aB .u32 (sched blk)).length=64:=by rw[bj,mH]
 have k8:(aB .u32 pZ).length=64:=by rw[bj];rfl
 refine eW call447 func447 ?_;refine HH (aN @k0 (aN @k1 (aN @k2 (aN @k3 (aN @k4 (aN @k5 (aN @k6 (aN @k7 (aN @k8 (aN @Pc @jR)))))))))) @hc @hd ?_;refine af (α:=List Nat×Nat) (fun p=>64-p.2) (fun p=>⟨[(2, .p 1000 0 0),(4, .p 1001 0 0),(5, .p 1005 0 0),(6, .p 1006 0 0),(7, .p 1010 0 0),(22,E' p.2)],[(1000,⟨0,aB .u32 st,false,none⟩),(1001,⟨0,[.v (.i .u32 0), .v (.i .u32 0), .v (.i .u32 0), .v (.i .u32 0), .v (.i .u32 0), .v (.i .u32 0), .v (.i .u32 0), .v (.i .u32 0)],false,some 448⟩),(1005,⟨0,aB .u32 pZ,false,some 471⟩),(1006,⟨0,aB .u32 (sched blk),false,some 471⟩),(1010,⟨0,aB .u32 p.1,false,some 448⟩)],_⟩) (fun p=>p.1.length=8/\p.2<=64/\vP (sched blk) (64-p.2) p.1=vP (sched blk) 64 st) (st,0) (fun _=>aA _) ⟨hs,aI _,rfl⟩ ?_ ?_
 ·exact lE
 ·rintro⟨v,i⟩ ⟨hv,hi,he⟩ R hR;obtain⟨a,b,c,d,e,f,g,h,rfl⟩:=Wy hv
  by_cases hlt:i<64
  ·have hgo:=hR (OL (pZ.getD i 0) ((sched blk).getD i 0) [a,b,c,d,e,f,g,h],i+1) ⟨rfl,hlt,by
    rw[show 64-i=(64-(i+1))+1 by omega,vP,show 63-(64-(i+1))=i by omega]at he;exact he⟩ (by simp;omega)
   have gk:(aB .u32 pZ).getD i .u= .v (.i .u32 (pZ.getD i 0:Nat)):=dD (by exact hlt)
   have gw:(aB .u32 (sched blk)).getD i .u= .v (.i .u32 ((sched blk).getD i 0:Nat)):=dD (by rw[mH];exact hlt)
   have r6:=lu e 6 oC oC;have r11:=lu e 11 oC oC;have r25:=lu e 25 oC oC;have r2:=lu a 2 oC oC;have r13:=lu a 13 oC oC;have r22:=lu a 22 oC oC;simp only[Tj,Tk,Tl,Zd]at hgo⊢;generalize pZ.getD i 0=ki at hgo gk;generalize (sched blk).getD i 0=wi at hgo gw;clear hR he hv;refine Sz (aN @k7 (aN @k8 (aN @gk (aN @gw (aN @qe (aN @Wz (aN @Zc @U6))))))) @r6 @r11 @r25 @r2 @r13 @r22 oT ?_;refine hgo _ ?_
   (refine AS.Le.of (by first|decide|omega) ?_ ?_<;>simp[dC,dA,aP,ay,AV.bd,AV.bd.bdL,u8,ar,au,az])
   all_goals first|omega|(erw [U6 e];simp only[Zc,Wz,qe,and_self])
  ·have hl:i=64:=oO;subst hl;have he:[a,b,c,d,e,f,g,h]=vP (sched blk) 64 st:=he;have hw:ru st blk=List.zipWith ad [a,b,c,d,e,f,g,h] st:=by rw[ru,<-he]
   rw[hw];clear hR he hv hw;obtain⟨s0,s1,s2,s3,s4,s5,s6,s7,rfl⟩:=Wy hs;simp only[Zd];repeat' first|simp only[go_sem,seval,k7,k8,qe]|refine oE ?_|apply xX<;>intro hc
   all_goals refine ai ?_
   repeat' first|simp only[go_sem,seval,k7,k8,qe]|refine oE ?_|apply xX<;>intro hc
   all_goals refine ai ?_
   repeat' first|simp only[go_sem,seval,k7,k8,qe]|refine oE ?_|apply xX<;>intro hc
   all_goals refine ai ?_
   repeat' first|simp only[go_sem,seval,k7,k8,qe]|refine oE ?_|apply xX<;>intro hc
   all_goals refine ai ?_
   repeat' first|simp only[go_sem,seval,k7,k8,qe]|refine oE ?_|apply xX<;>intro hc
   all_goals refine ai ?_
   repeat' first|simp only[go_sem,seval,k7,k8,qe]|refine oE ?_|apply xX<;>intro hc
   all_goals refine ai ?_
   repeat' first|simp only[go_sem,seval,k7,k8,qe]|refine oE ?_|apply xX<;>intro hc
   all_goals refine ai ?_
   repeat' first|simp only[go_sem,seval,k7,k8,qe]|refine oE ?_|apply xX<;>intro hc
   all_goals refine ai ?_
   repeat' first|simp only[go_sem,seval,k7,k8,qe]|refine oE ?_|apply xX<;>intro hc
   all_goals refine ai ?_
   exact gi (aN @k7 (aN @k8 @qe))
def zy (n:Nat):Bytes:=List.replicate n 0
theorem HJ (n:Nat):(zy n).length=n:=xN
theorem mk0 (n:Nat):(List.replicate n [AV.v (.i .u8 0)]).flatten=aH (zy n):=by
 unfold zy
 induction n with
 |zero=>rfl
 |succ n ih=>rw[List.replicate_succ,List.flatten_cons,ih,List.replicate_succ];rfl
theorem Gq (l:Bytes):(aH l).all AV.one=true:=by
 unfold aH
 induction l with
 |nil=>rfl
 |cons c l ih=>rw[bC,List.all_cons,ih];rfl
theorem oz (l:Bytes) (n:Nat):List.drop n (aH l)=aH (l.drop n):=by unfold aH;exact(uA ..).symm
theorem nA (l:Bytes) (n:Nat):List.take n (aH l)=aH (l.take n):=by unfold aH;exact(x7 ..).symm
theorem sU (l:Bytes) (n:Nat):aH l++[AV.v (.i .u8 (IntKind.u8.wrap (n:Int)))]=aH (l++[UInt8.ofNat n]):=by
 rw[<-kI];congr 1
theorem Mc (l:Bytes):aH l++[AV.v (.i .u8 0)]=aH (l++[0]):=by rw[<-kI];rfl
theorem Md (l:Bytes):aH l++[AV.v (.i .u8 128)]=aH (l++[128]):=by rw[<-kI];rfl
theorem Ll {hf:Nat->Option aF} {f n ver o m:Nat} {l:Bytes} {gr:Bool} (hm:o+m<=l.length) (h:hf n=some ⟨ver,aH l,gr,el⟩):
  view hf (f+2) (.rs n ver o m 1)=some (.sl (((l.drop o).take m).map u8)):=by
 have h1:bz (view hf (f+1)) (aH ((l.drop o).take m))=some (((l.drop o).take m).map u8):=by
  have:=fm hf f (((l.drop o).take m).map u8);rw[iV]at this;exact this
 have h2:(aH ((l.drop o).take m)).all AV.one=true:=Gq _;have h3:chunk 1 m (((l.drop o).take m).map u8)=((l.drop o).take m).map u8:=by
  have:=oe (((l.drop o).take m).map u8)
  rwa[aC,bL,lC,kj oO]at this
 simp only[view,h,oz,nA,mN,db,h1,h2,h3,hm,Option.map_some];simp
theorem HE {hf:Nat->Option aF} {f n ver o m:Nat} {l:Bytes} {gr:Bool} (h:hf n=some ⟨ver,aH l,gr,el⟩):
  aU hf (f+2) (.rs n ver o m 1)=[n]:=by
 have h1: ∀l:Bytes,(aH l).flatMap (aU hf (f+1))=[]:=fun l=>by
  unfold aH
  induction l with
  |nil=>rfl
  |cons x r ih=>simp_all[aU]
 simp only[aU,h,oz,nA,h1]
theorem pR (n:Nat):AV.byte (.v (.i .u8 (IntKind.u8.wrap (n:Int))))=UInt8.ofNat n:=by
 simp[AV.byte,PV.byte,qZ];apply xP;simp;omega
theorem y9 (n:Nat):AV.isByte (.v (.i .u8 (IntKind.u8.wrap (n:Int))))=True:=by
 simp[AV.isByte,PV.isByte,qZ]
theorem QT (l:List Nat):(PV.agg (wl l)).flat=true:=by
 unfold wl
 induction l with
 |nil=>rfl
 |cons x l ih=>simp_all[PV.flat,PV.flat.flatL]
theorem TA {P:Program} [cG P] {Q:AX->AS->Prop} {nx:Nat} {bf:Option (List Nat)} {nn:Nat} {d:Option Nat} {ops:List kB} {k:Nat} {s:AS} {tr:List (Nat×List Nat×List Nat)} {K:List Fr} {nm:Nat} {f:FuncId} {n ver o m:Nat} {l:Bytes} {gr:Bool} {x r:PV}
  (he:rv P f [x, .sl (((l.drop o).take m).map u8)] r) (hr:r.flat=true) (hg:ay s.h n=some ⟨ver,aH l,gr,el⟩) (hm:o+m<=l.length) (hK:RW P Q nx bf nn ops (k+1) (s.tU d (.v r) []) (At bf k [n] [] tr) K):
  CR P Q nx bf nn nm (.v (.fn (.func f))) [.v x, .rs n ver o m 1] d ops k s tr K:=by
 refine o5 he ?_ hr ?_
 ·simp[bz,Ll hm hg];rfl
 ·have:[AV.v x,AV.rs n ver o m 1].flatMap (aU (ay s.h) 9)=[n]:=by simp[HE hg];rfl
  rw[this];exact hK
theorem uM {s:Bytes} (hs:s.length<1000000000):aE 387 [.s s] (.s (mn s)):=by
 have hf:=ML;have t1: ∀ _:True,((s.length:Int)+72)=((s.length+72:Nat):Int):=fun _=>oO
 have e1:List.drop s.length (zy (s.length+72))=zy 72:=by
  unfold zy;rw[List.drop_replicate,Nat.add_sub_cancel_left]
 have e2:List.take s.length (s++zy 72)=s:=List.take_left' rfl;have e3:s.length<=(s++zy 72).length:=by simp
 have k1:(wl oW).length=8:=rfl;have k2:(aB .u32 oW).length=8:=rfl;have k3:List.take 8 (aB .u32 oW)=aB .u32 oW:=cl (by rw[bj];decide)
 have k4:List.drop 8 (aB .u32 oW)=[]:=il (by rw[bj];decide)
 refine eW call387 func387 ?_;refine dH (aN (t1 oT) (aN @mk0 (aN @oz (aN @nA (aN @SL (aN @kI (aN @Md (aN @HJ (aN @e1 @e2))))))))) ?_;refine af (α:=Nat) (fun c=>64-c) (fun c=>⟨[(0, .v (.s s)),(3, .rs 1006 (1+c) 0 (s.length+1+c) 1)],[(1006,⟨1+c,aH (s++128::zy c),true,none⟩)],1015⟩) (fun c=>c<=(119-s.length%64)%64) 0 (fun _=>aA _) (aI _) ?_ ?_
 ·(refine AS.Le.of (by first|decide|omega) ?_ ?_<;>simp[dC,dA,aP,ay,AV.bd,AV.bd.bdL,u8,ar,au,az])
  all_goals rfl
 ·intro c hc R hR;have hl:(s++128::zy c).length=s.length+1+c:=by simp[HJ];omega
  have hT:List.take (s.length+1+c) (s++128::zy c)=s++128::zy c:=by rw[<-hl];exact cd
  have hz:s++128::zy c++[0]=s++128::zy (c+1):=by
   rw[fI];congr 1;unfold zy;rw[Dy];rfl
  by_cases hlt:c=(119-s.length%64)%64
  ·have h5: ∀ _:True,(((s.length+1+c)%64:Nat):Int)=56:=fun _=>oO
   have w1: ∀ _:True,IntKind.u64.wrap (s.length:Int)=(s.length:Int):=fun _=>by rw[Ba];omega
   have w2: ∀ _:True,IntKind.u64.wrap ((s.length:Int)*8)=((s.length*8:Nat):Int):=fun _=>by rw[Ba];omega
   clear hR;refine dI (aN @hl (aN @hT (aN @Mc (aN @oz (aN @nA (aN (h5 oT) (aN (w1 oT) (w2 oT)))))))) ?_;obtain⟨N,hN⟩: ∃N,N=s.length*8:=⟨_,rfl⟩;obtain⟨M0,hM0⟩: ∃M,M=s++128::zy c:=⟨_,rfl⟩;rw[<-hN,<-hM0];obtain⟨m0,hm0⟩: ∃m,m=s.length+1+c:=⟨_,rfl⟩;rw[<-hm0];have hL0:M0.length=m0:=by rw[hM0,hm0,hl]
   have hT0:List.take m0 M0=M0:=by rw[hm0,hM0,hT]
   obtain⟨v0,hv0⟩: ∃v,v=1+c:=⟨_,rfl⟩;rw[<-hv0];have hb1:m0<2000000000:=oO;clear hl hT hc h5 w1 w2;refine ai ?_;repeat' first|simp only[go_sem,seval,hL0,hT0,sU,oz,nA]|refine oE ?_|apply xX<;>intro hc
   all_goals try refine⟨oO,?_⟩
   obtain⟨M1,hM1⟩: ∃x,x=M0++[UInt8.ofNat (N/72057594037927936)]:=⟨_,rfl⟩;obtain⟨m1,hm1⟩: ∃x,x=m0+1:=⟨_,rfl⟩;obtain⟨v1,hv1⟩: ∃x,x=v0+1:=⟨_,rfl⟩;rw[<-hM1,<-hm1,<-hv1];have hL1:M1.length=m1:=by rw[hM1,hm1,bT,hL0];rfl
   have hT1:List.take m1 M1=M1:=by rw[<-hL1];exact cd
   refine ai ?_;repeat' first|simp only[go_sem,seval,hL1,hT1,sU,oz,nA]|refine oE ?_|apply xX<;>intro hc
   all_goals try refine⟨oO,?_⟩
   obtain⟨M2,hM2⟩: ∃x,x=M1++[UInt8.ofNat (N/281474976710656)]:=⟨_,rfl⟩;obtain⟨m2,hm2⟩: ∃x,x=m1+1:=⟨_,rfl⟩;obtain⟨v2,hv2⟩: ∃x,x=v1+1:=⟨_,rfl⟩;rw[<-hM2,<-hm2,<-hv2];have hL2:M2.length=m2:=by rw[hM2,hm2,bT,hL1];rfl
   have hT2:List.take m2 M2=M2:=by rw[<-hL2];exact cd
   refine ai ?_;repeat' first|simp only[go_sem,seval,hL2,hT2,sU,oz,nA]|refine oE ?_|apply xX<;>intro hc
   all_goals try refine⟨oO,?_⟩
   obtain⟨M3,hM3⟩: ∃x,x=M2++[UInt8.ofNat (N/1099511627776)]:=⟨_,rfl⟩;obtain⟨m3,hm3⟩: ∃x,x=m2+1:=⟨_,rfl⟩;obtain⟨v3,hv3⟩: ∃x,x=v2+1:=⟨_,rfl⟩;rw[<-hM3,<-hm3,<-hv3];have hL3:M3.length=m3:=by rw[hM3,hm3,bT,hL2];rfl
   have hT3:List.take m3 M3=M3:=by rw[<-hL3];exact cd
   refine ai ?_;repeat' first|simp only[go_sem,seval,hL3,hT3,sU,oz,nA]|refine oE ?_|apply xX<;>intro hc
   all_goals try refine⟨oO,?_⟩
   obtain⟨M4,hM4⟩: ∃x,x=M3++[UInt8.ofNat (N/4294967296)]:=⟨_,rfl⟩;obtain⟨m4,hm4⟩: ∃x,x=m3+1:=⟨_,rfl⟩;obtain⟨v4,hv4⟩: ∃x,x=v3+1:=⟨_,rfl⟩;rw[<-hM4,<-hm4,<-hv4];have hL4:M4.length=m4:=by rw[hM4,hm4,bT,hL3];rfl
   have hT4:List.take m4 M4=M4:=by rw[<-hL4];exact cd
   refine ai ?_;repeat' first|simp only[go_sem,seval,hL4,hT4,sU,oz,nA]|refine oE ?_|apply xX<;>intro hc
   all_goals try refine⟨oO,?_⟩
   obtain⟨M5,hM5⟩: ∃x,x=M4++[UInt8.ofNat (N/16777216)]:=⟨_,rfl⟩;obtain⟨m5,hm5⟩: ∃x,x=m4+1:=⟨_,rfl⟩;obtain⟨v5,hv5⟩: ∃x,x=v4+1:=⟨_,rfl⟩;rw[<-hM5,<-hm5,<-hv5];have hL5:M5.length=m5:=by rw[hM5,hm5,bT,hL4];rfl
   have hT5:List.take m5 M5=M5:=by rw[<-hL5];exact cd
   refine ai ?_;repeat' first|simp only[go_sem,seval,hL5,hT5,sU,oz,nA]|refine oE ?_|apply xX<;>intro hc
   all_goals try refine⟨oO,?_⟩
   obtain⟨M6,hM6⟩: ∃x,x=M5++[UInt8.ofNat (N/65536)]:=⟨_,rfl⟩;obtain⟨m6,hm6⟩: ∃x,x=m5+1:=⟨_,rfl⟩;obtain⟨v6,hv6⟩: ∃x,x=v5+1:=⟨_,rfl⟩;rw[<-hM6,<-hm6,<-hv6];have hL6:M6.length=m6:=by rw[hM6,hm6,bT,hL5];rfl
   have hT6:List.take m6 M6=M6:=by rw[<-hL6];exact cd
   refine ai ?_;repeat' first|simp only[go_sem,seval,hL6,hT6,sU,oz,nA]|refine oE ?_|apply xX<;>intro hc
   all_goals try refine⟨oO,?_⟩
   obtain⟨M7,hM7⟩: ∃x,x=M6++[UInt8.ofNat (N/256)]:=⟨_,rfl⟩;obtain⟨m7,hm7⟩: ∃x,x=m6+1:=⟨_,rfl⟩;obtain⟨v7,hv7⟩: ∃x,x=v6+1:=⟨_,rfl⟩;rw[<-hM7,<-hm7,<-hv7];have hL7:M7.length=m7:=by rw[hM7,hm7,bT,hL6];rfl
   have hT7:List.take m7 M7=M7:=by rw[<-hL7];exact cd
   refine ai ?_;repeat' first|simp only[go_sem,seval,hL7,hT7,sU,oz,nA]|refine oE ?_|apply xX<;>intro hc
   all_goals try refine⟨oO,?_⟩
   obtain⟨M8,hM8⟩: ∃x,x=M7++[UInt8.ofNat (N/1)]:=⟨_,rfl⟩;obtain⟨m8,hm8⟩: ∃x,x=m7+1:=⟨_,rfl⟩;obtain⟨v8,hv8⟩: ∃x,x=v7+1:=⟨_,rfl⟩;rw[<-hM8,<-hm8,<-hv8];have hL8:M8.length=m8:=by rw[hM8,hm8,bT,hL7];rfl
   have hT8:List.take m8 M8=M8:=by rw[<-hL8];exact cd
   have hP:M8=pad s:=by
    rw[hM8,hM7,hM6,hM5,hM4,hM3,hM2,hM1,hM0,hlt,hN,pad];simp only[be,zy,fI,List.cons_append,List.nil_append,Nat.reducePow,Nat.pow_zero,iW]
   clear hM8 hM7 hM6 hM5 hM4 hM3 hM2 hM1 hM0 hT0 hT1 hT2 hT3 hT4 hT5 hT6 hT7 hL0 hL1 hL2 hL3 hL4 hL5 hL6 hL7;subst hP;refine ai ?_;refine jm (aN @k1 (aN @k2 (aN @k3 (aN @k4 @Pc)))) @hf ?_;clear hT8;obtain⟨l,hl⟩: ∃l,l=pad s:=⟨_,rfl⟩;have hm6:l.length=l.length/64*64:=by rw[hl];exact NU s
   have hsum:mn s=(om (l.length/64) l oW).flatMap Vy:=by rw[hl];rfl
   rw[hsum];rw[<-hl]at hL8⊢;clear hsum hl hv1 hv2 hv3 hv4 hv5 hv6 hv7 hv8 hv0 hlt hN e1 e2 e3 t1;have hb8:m8<2000000008:=oO;have hm8:m8=m8/64*64:=oO;clear hb1 hm0 hm1 hm2 hm3 hm4 hm5 hm6 hm7;rw[hL8];refine af (α:=Nat×Nat×List Nat) (fun p=>p.2.1) (fun p=>⟨[(3, .rs 1006 v8 p.1 p.2.1 1),(6, .p 1132 0 0)],[(1006,⟨v8,aH l,true,none⟩),(1132,⟨0,aB .u32 p.2.2,false,some 448⟩)],_⟩) (fun p=>p.1+p.2.1=m8/\p.2.1=p.2.1/64*64/\p.2.2.length=8/\om (p.2.1/64) (l.drop p.1) p.2.2=om (m8/64) l oW) (0,m8,oW) (fun _=>aA _) ⟨dF _,hm8,rfl,rfl⟩ ?_ ?_
   ·exact lE
   ·rintro⟨o,r,st⟩ ⟨ho,hr,hst,he⟩ R hR;have ho:o+r=m8:=ho;have hr:r=r/64*64:=hr;have hst:st.length=8:=hst;have he:om (r/64) (l.drop o) st=om (m8/64) l oW:=he;have q1:(aB .u32 st).length=8:=by rw[bj,hst]
    have q2:List.take 8 (aB .u32 st)=aB .u32 st:=cl oO;rcases kf (r/64)with h0|h0
    ·have hr0:r=0:=oO;subst hr0;have he:st=om (m8/64) l oW:=by rw[<-he];rfl
     rw[<-he];clear hR he h0 hr;obtain⟨a,b,c,d,e,f,g,i,rfl⟩:=Wy hst;have w8:wl [a,b,c,d,e,f,g,i]=[.i .u32 (a:Int), .i .u32 (b:Int), .i .u32 (c:Int), .i .u32 (d:Int), .i .u32 (e:Int), .i .u32 (f:Int), .i .u32 (g:Int), .i .u32 (i:Int)]:=rfl;refine dI (aN @q1 (aN @q2 (aN @jR @k1))) ?_;rw[w8];refine ai ?_;refine dH (aN @y9 @pR) ?_;refine ai ?_;refine dH (aN @y9 @pR) ?_;refine ai ?_;refine dH (aN @y9 @pR) ?_;refine ai ?_;refine dH (aN @y9 @pR) ?_;refine ai ?_;refine dH (aN @y9 @pR) ?_;refine ai ?_;refine dH (aN @y9 @pR) ?_;refine ai ?_;refine dH (aN @y9 @pR) ?_;refine ai ?_;refine dH (aN @y9 @pR) ?_;refine ai ?_;exact gi (aN @y9 @pR)
    ·obtain⟨r',rfl⟩: ∃r',r=r'+64:=⟨r-64,oO⟩;have f1:o+64+r'=m8:=oO;have f2:r'=r'/64*64:=oO;have hgo:=hR (o+64,r',ru st ((l.drop o).take 64)) ⟨f1,f2,oV _ hst,by
      rw[show(r'+64)/64=r'/64+1 by omega,om,xB]at he
      rw[ij o 64];rw[ij o 64]at he;exact he⟩ (by simp)
     have hblk:((l.drop o).take 64).length=64:=by rw[bL,lC];omega
     have ha:=LK hst hblk;have q3:(wl (ru st ((l.drop o).take 64))).length=8:=by rw[qA,oV _ hst]
     have q4:List.drop 8 (aB .u32 st)=[]:=il oO;have hfl:=QT (ru st ((l.drop o).take 64));clear hR he h0;repeat' first|simp only[go_sem,seval,q1,q2,q3,q4,jR,Pc]|(refine TA (gr:=true) (el:=none) (ver:=v8) (l:=l) ha hfl (by simp[ay]) oO ?_)|refine oE ?_|apply xX<;>intro hc
     refine⟨by rw[bj];exact oV _ hst,rfl,oO,hgo _ ?_⟩
     (refine AS.Le.of (by first|decide|omega) ?_ ?_<;>simp[dC,dA,aP,ay,AV.bd,AV.bd.bdL,u8,ar,au,az])
     all_goals first|omega|skip
  ·have h5: ∀ _:True,¬(((s.length+1+c)%64:Nat):Int)=56:=fun _=>oO
   have hgo:=hR (c+1) oO oO;clear hR;refine dI (aN @hl (aN @hT (aN @Mc (aN @oz (aN @nA (aN @hz (h5 oT))))))) ?_;refine hgo _ ?_
   (refine AS.Le.of (by first|decide|omega) ?_ ?_<;>simp[dC,dA,aP,ay,AV.bd,AV.bd.bdL,u8,ar,au,az])
   all_goals first|omega|skip
theorem jj (x n:Nat) (h0:0<n) (h:n<32):aE 478 [.i .u32 x,E n] (.i .u32 (rr x n)):=by
 have e2: ∀ _:True,(if 32-n<=32 then 32-n else 32)=32-n:=fun _=>ah oO
 have e3: ∀ _:True,(32:Int)-(n:Int)=((32-n:Nat):Int):=fun _=>oO
 have e4: ∀ _:True,(if n<=32 then n else 32)=n:=fun _=>ah oO
 refine eW call478 func478 ?_;exact gi (aN (e2 oT) (aN (e3 oT) (aN (e4 oT) (aN @Xy @o_r))))
theorem AP:aE 477 [] (.sl (wl pZ)):=by
 refine eW call477 func477 ?_;exact z0
def tO (l:List Nat) (x:Nat):List AV:=aB .u32 (l++x::List.replicate (63-l.length) 0)
theorem Oy (l:List Nat) (x:Nat) (h:l.length<64):(tO l x).length=64:=by
 rw[tO,bj];simp;omega
theorem Ox (l:List Nat) (x:Nat):(tO l x).getD l.length .u= .v (.i .u32 (x:Int)):=by
 rw[tO,dD (by simp)];simp
theorem Oz (l:List Nat) (x y:Nat):List.take l.length (tO l x)++[AV.v (.i .u32 (y:Int))]++List.drop (l.length+1) (tO l x)=tO l y:=by
 rw[tO,eD (x:=y) (by simp) rfl,tO];simp
theorem V4 (l:List Nat) (h:l.length<64):aB .u32 (l++List.replicate (64-l.length) 0)=tO l 0:=by
 obtain⟨k,hk⟩: ∃k,64-l.length=k+1:=⟨63-l.length,oO⟩;rw[tO,hk,List.replicate_succ,show 63-l.length=k by omega]
theorem V5 (l:List Nat) (x:Nat) (h:l.length<64):tO l x=aB .u32 ((l++[x])++List.replicate (64-(l++[x]).length) 0):=by
 rw[tO,fI,bT,List.length_singleton,show 64-(l.length+1)=63-l.length by omega];rfl
theorem w0:IntKind.u32.wrap 0=0:=rfl
def m8 (x c:Nat):Nat:=(x*256+c)%4294967296
theorem aai (x c:Nat):IntKind.u32.wrap (IntKind.u32.wrap ((x:Int)*256)+(c:Int))=((m8 x c:Nat):Int):=by
 rw[Lm,Lm,m8];omega
theorem aah (a b c d:UInt8):m8 (m8 (m8 a.toNat b.toNat) c.toNat) d.toNat=num [a,b,c,d]:=by
 have ha:=a.toNat_lt;have hb:=b.toNat_lt;have hc:=c.toNat_lt;have hd:=d.toNat_lt;simp only[m8,num,List.length_cons,List.length_nil];omega
theorem Xq {l:Bytes} {i:Nat} {a b c d:UInt8} (h:(l.drop (4*i)).take 4=[a,b,c,d]):l.getD (4*i) 0=a/\l.getD (4*i+1) 0=b/\l.getD (4*i+2) 0=c/\l.getD (4*i+3) 0=d:=by
 have hg: ∀k,k<4->l.getD (4*i+k) 0=[a,b,c,d].getD k 0:=fun k hk=>by
  rw[<-h];simp[br,fB,hk]
 exact⟨hg 0 oC,hg 1 oC,hg 2 oC,hg 3 oC⟩
theorem Ml (l:List Nat) {n:Nat} (h:l.length=n):chunk 1 n (wl l)=wl l:=by
 subst h;have:=oe (wl l)
 rwa[qA]at this
theorem GD (l:List Nat):(aB .u32 l).all AV.one=true:=by
 unfold aB
 induction l with
 |nil=>rfl
 |cons c l ih=>rw[bC,List.all_cons,ih];rfl
theorem GK (hf:Nat->Option aF) (l:List Nat):bz (view hf 8) (aB .u32 l)=some (wl l):=jR (fun _=>rfl) l
theorem C5 {blk:Bytes} (hb:blk.length=64):aE 476 [.s blk] (.sl (wl (sched blk))):=by
 refine eW call476 func476 ?_;refine qB ?_;refine af (α:=List Nat) (fun l=>16-l.length) (fun l=>⟨[(0, .v (.s blk)),(3, .rs 1001 0 0 64 1),(4,E' l.length)],[(1001,⟨0,aB .u32 (l++List.replicate (64-l.length) 0),false,none⟩)],_⟩) (fun l=>l.length<=16/\l=(List.range l.length).map (wR blk)) [] (fun _=>aA _) ⟨by decide,rfl⟩ ?_ ?_
 ·(refine AS.Le.of (by first|decide|omega) ?_ ?_<;>simp[dC,dA,aP,ay,AV.bd,AV.bd.bdL,u8,ar,au,az])
  all_goals rfl
 ·rintro l ⟨hl,he⟩ R hR;have hL:(aB .u32 (l++List.replicate (64-l.length) 0)).length=64:=by rw[bj];simp;omega
  by_cases hlt:l.length<16
  ·obtain⟨i,hi⟩: ∃i,i=l.length:=⟨_,rfl⟩;obtain⟨a,b,c,d,h4,-⟩:=four blk (i:=i) oO;obtain⟨q0,q1,q2,q3⟩:=Xq h4;have hV:wR blk i=m8 (m8 (m8 a.toNat b.toNat) c.toNat) d.toNat:=by rw[aah,wR,h4]
   have hgo:=hR (l++[wR blk i]) ⟨by simp;omega,by
    rw[bT,List.length_singleton,re,jv,<-he,<-hi];rfl⟩ (by simp;omega)
   rw[<-V5 l _ oO,bT,List.length_singleton]at hgo;rw[V4 l oO];have hg:=Ox l;have hp:=Oz l;have hn:=fun x=>Oy l x oO
   rw[hV]at hgo;rw[<-hi]at hg hp hgo⊢;have t0: ∀ _:True,((4:Int)*(i:Int)).toNat=4*i:=fun _=>oO
   have t1: ∀ _:True,((4:Int)*(i:Int)+1).toNat=4*i+1:=fun _=>oO
   have t2: ∀ _:True,((4:Int)*(i:Int)+2).toNat=4*i+2:=fun _=>oO
   have t3: ∀ _:True,((4:Int)*(i:Int)+3).toNat=4*i+3:=fun _=>oO
   clear hR he h4 hV hL;repeat' first|simp only[go_sem,seval,hb,hg,hp,hn,t0 oT,t1 oT,t2 oT,t3 oT,q0,q1,q2,q3,YR,aai,w0,Int.add_zero,xT]|(refine ai ?_)|refine oE ?_|apply xX<;>intro hc
   refine hgo _ ?_
   (refine AS.Le.of (by first|decide|omega) ?_ ?_<;>simp[dC,dA,aP,ay,AV.bd,AV.bd.bdL,u8,ar,au,az])
   all_goals first|omega|(unfold tO;simp[az])
  ·have hl16:l.length=16:=oO;have hs0:l=(List.range 16).map (wR blk):=by rw[<-hl16];exact he
   rw[hl16];rw[hl16]at hL;clear hR he hlt hl;refine qB ?_;refine af (α:=List Nat) (fun l=>64-l.length) (fun l=>⟨[(3, .rs 1001 0 0 64 1),(6,E' l.length)],[(1001,⟨0,aB .u32 (l++List.replicate (64-l.length) 0),false,none⟩)],_⟩) (fun l=>16<=l.length/\l.length<=64/\La (64-l.length) l=sched blk) l (fun _=>aA _) ⟨oO,oO,by rw[hl16,hs0];rfl⟩ ?_ ?_
   ·rw[hl16];exact lE
   ·clear hs0 hL hl16 l;rintro l ⟨hl1,hl2,he⟩ R hR;have hL:(aB .u32 (l++List.replicate (64-l.length) 0)).length=64:=by rw[bj];simp;omega
    obtain⟨i,hi⟩: ∃i,i=l.length:=⟨_,rfl⟩
    by_cases hlt:l.length<64
    ·have hgo:=hR (l++[Df l]) ⟨by simp;omega,by simp;omega,by
      have:64-l.length=(64-(l++[Df l]).length)+1:=by simp;omega
      rw[this]at he;exact he⟩ (by simp;omega)
     have hse:=Dd l 64 (Df l) hlt;have hg: ∀k:Nat,0<k->k<=16->(aB .u32 (l++List.replicate (64-l.length) 0)).getD ((i:Int)-(k:Int)).toNat .u= .v (.i .u32 (l.getD (i-k) 0:Nat)):=fun k h0 h1=>by
      rw[show((i:Int)-(k:Int)).toNat=i-k by omega,dD (by simp;omega),EH l _ _ oO]
     have g15:(aB .u32 (l++List.replicate (64-l.length) 0)).getD ((i:Int)-15).toNat .u= _:=hg 15 oC oC;have g2:(aB .u32 (l++List.replicate (64-l.length) 0)).getD ((i:Int)-2).toNat .u= _:=hg 2 oC oC;have g16:(aB .u32 (l++List.replicate (64-l.length) 0)).getD ((i:Int)-16).toNat .u= _:=hg 16 oC oC;have g7:(aB .u32 (l++List.replicate (64-l.length) 0)).getD ((i:Int)-7).toNat .u= _:=hg 7 oC oC;have hN:Df l=ad (ad (ad (l.getD (i-16) 0) (p9 (p9 (rr (l.getD (i-15) 0) 7) (rr (l.getD (i-15) 0) 18)) (l.getD (i-15) 0/8))) (l.getD (i-7) 0)) (p9 (p9 (rr (l.getD (i-2) 0) 17) (rr (l.getD (i-2) 0) 19)) (l.getD (i-2) 0/1024)):=by rw[hi];rfl
     rw[hN]at hgo hse;rw[<-hi]at hL hse g15 g2 g16 g7⊢;clear hR he hN hg;generalize l.getD (i-16) 0=w16 at*;generalize l.getD (i-15) 0=w15 at*;generalize l.getD (i-7) 0=w7 at*;generalize l.getD (i-2) 0=w2 at*;have r7:=jj w15 7 oC oC;have r18:=jj w15 18 oC oC;have r17:=jj w2 17 oC oC;have r19:=jj w2 19 oC oC;refine vZ (aN @hL (aN @g15 (aN @g2 (aN @g16 (aN @g7 (aN @qe @Wz)))))) @r7 @r18 @r17 @r19 ?_;refine hgo _ ?_;rw[eD (x:=ad (ad (ad w16 (p9 (p9 (rr w15 7) (rr w15 18)) (w15/8))) w7) (p9 (p9 (rr w2 17) (rr w2 19)) (w2/1024))) (by rw[bj]at hL;omega) rfl,hse]
     (refine AS.Le.of (by first|decide|omega) ?_ ?_<;>simp[dC,dA,aP,ay,AV.bd,AV.bd.bdL,u8,ar,au,az])
     all_goals first|omega|skip
    ·have hl64:l.length=64:=oO;rw[hl64]at he hi hL⊢;have he:l=sched blk:=he;rw[fC,List.replicate_zero,kx]at hL⊢;rw[<-he];have k1:List.take 64 (aB .u32 l)=aB .u32 l:=cl (by rw[bj];omega)
     have k3:(wl l).length=64:=by rw[qA,hl64]
     have k4:=Ml l hl64;have k5:=GD l;repeat' first|simp only[go_sem,seval,hL,k1,k3,k4,k5,jR,GK,Pc]|refine oE ?_|apply xX<;>intro hc
     all_goals skip
theorem Gu (n:Nat):UInt8.ofNat (IntKind.u8.wrap (n:Int)).toNat=UInt8.ofNat n:=by
 rw[qZ];apply xP;simp;omega
theorem Mf (n:Nat):UInt8.ofNat (n%256)=UInt8.ofNat n:=by
 apply xP;simp
theorem Hd {s:Bytes} (hs:s.length<1000000000):aE 458 [.s s] (.s (pad s)):=by
 refine eW call458 func458 ?_;refine qB ?_;refine af (α:=Nat) (fun c=>64-c) (fun c=>⟨[(0, .v (.s (s++128::zy c))),(3,E' s.length)],[],_⟩) (fun c=>c<=(119-s.length%64)%64) 0 (fun _=>aA _) (aI _) ?_ ?_
 ·(refine AS.Le.of (by first|decide|omega) ?_ ?_<;>simp[dC,dA,aP,ay,AV.bd,AV.bd.bdL,u8,ar,au,az])
  all_goals rfl
 ·intro c hc R hR;have hl:(s++128::zy c).length=s.length+1+c:=by simp[HJ];omega
  have hz:s++128::zy c++[0]=s++128::zy (c+1):=by
   rw[fI];congr 1;unfold zy;rw[Dy];rfl
  obtain⟨L,hLL⟩: ∃L,L=s++128::zy c:=⟨_,rfl⟩;rw[<-hLL]at hl hz⊢
  by_cases hlt:c=(119-s.length%64)%64
  ·have h5: ∀ _:True,(((s.length+1+c)%64:Nat):Int)=56:=fun _=>oO
   have w1: ∀ _:True,IntKind.u64.wrap (s.length:Int)=(s.length:Int):=fun _=>by rw[Ba];omega
   have w2: ∀ _:True,IntKind.u64.wrap ((s.length:Int)*8)=((s.length*8:Nat):Int):=fun _=>by rw[Ba];omega
   clear hR;refine dI (aN @hl (aN (h5 oT) (aN (w1 oT) (w2 oT)))) ?_;obtain⟨N,hN⟩: ∃N,N=s.length*8:=⟨_,rfl⟩;rw[<-hN];clear h5 w1 w2 hz;repeat' first|simp only[go_sem,seval,y9,pR,Gu,Mf,eS,Nat.reduceMul]|(refine ai ?_)|refine oE ?_|apply xX<;>intro hc
   rw[hLL,hlt,hN,pad];simp only[be,zy,fI,List.cons_append,List.nil_append,Nat.reducePow,Nat.pow_zero,iW]
  ·have h5: ∀ _:True,¬(((s.length+1+c)%64:Nat):Int)=56:=fun _=>oO
   have hgo:=hR (c+1) oO oO;rw[<-hz]at hgo;clear hR hz;refine dI (aN @hl (h5 oT)) ?_;refine hgo _ ?_
   (refine AS.Le.of (by first|decide|omega) ?_ ?_<;>simp[dC,dA,aP,ay,AV.bd,AV.bd.bdL,u8,ar,au,az])
   all_goals first|omega|skip
