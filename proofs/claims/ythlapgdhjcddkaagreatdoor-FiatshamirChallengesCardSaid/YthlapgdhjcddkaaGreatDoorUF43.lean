/- Part of the proof. -/
import Derived.Test.YthlapgdhjcddkaaGreatDoorUF42
import Derived.Test.YthlapgdhjcddkaaGreatDoorUF41
set_option linter.all false
set_option maxHeartbeats 16000000
set_option maxRecDepth 100000
namespace Go.Dom
theorem Qt (a:Bytes):(gp a).length<=a.length:=by
 obtain⟨k,e,-⟩:=tR a;have:=congrArg List.length e;simp at this;omega
end Go.Dom
namespace Go.Proofs.Tryz
open Go Go.Dom
variable {blk kd:Bytes}
theorem WD: ∀n:Fin 10,List.drop n.val (List.take (n.val+1) ([48,49,50,51,52,53,54,55,56,57]:Bytes))=cF n.val:=by decide+kernel
theorem jG (x n:Nat) (h0:0<n) (h:n<32):aH 327 [.i .u32 x,E n] (.i .u32 (rr x n)):=by
 have e2: ∀ _:True,(if 32-n<=32 then 32-n else 32)=32-n:=fun _=>af oO
 have e3: ∀ _:True,(32:Int)-(n:Int)=((32-n:Nat):Int):=fun _=>oO
 have e4: ∀ _:True,(if n<=32 then n else 32)=n:=fun _=>af oO
 refine eW call327 func327 ?_;exact fz (aN (e2 oT) (aN (e3 oT) (aN (e4 oT) (aN @l_r @o_r))))
theorem BN:aH 326 [] (.sl (wl qF)):=by
 refine eW call326 func326 ?_;exact z0
def uU (l:List Nat) (x:Nat):List AV:=aF .u32 (l++x::List.replicate (63-l.length) 0)
theorem PY (l:List Nat) (x:Nat) (h:l.length<64):(uU l x).length=64:=by
 rw[uU,bH];simp;omega
theorem PW (l:List Nat) (x:Nat):(uU l x).getD l.length .u= .v (.i .u32 (x:Int)):=by
 rw[uU,dV (by simp)];simp
theorem PZ (l:List Nat) (x y:Nat):List.take l.length (uU l x)++[AV.v (.i .u32 (y:Int))]++List.drop (l.length+1) (uU l x)=uU l y:=by
 rw[uU,eL (x:=y) (by simp) rfl,uU];simp
theorem Yk (l:List Nat) (h:l.length<64):aF .u32 (l++List.replicate (64-l.length) 0)=uU l 0:=by
 obtain⟨k,hk⟩: ∃k,64-l.length=k+1:=⟨63-l.length,oO⟩;rw[uU,hk,List.replicate_succ,show 63-l.length=k by omega]
theorem Yl (l:List Nat) (x:Nat) (h:l.length<64):uU l x=aF .u32 ((l++[x])++List.replicate (64-(l++[x]).length) 0):=by
 rw[uU,eg,bR,List.length_singleton,show 64-(l.length+1)=63-l.length by omega];rfl
theorem acD (x c:Nat):IntKind.u32.wrap (IntKind.u32.wrap ((x:Int)*256)+(c:Int))=((m8 x c:Nat):Int):=by
 rw[LV,LV,m8];omega
theorem acC (a b c d:UInt8):m8 (m8 (m8 a.toNat b.toNat) c.toNat) d.toNat=num [a,b,c,d]:=by
 have ha:=a.toNat_lt;have hb:=b.toNat_lt;have hc:=c.toNat_lt;have hd:=d.toNat_lt;simp only[m8,num,List.length_cons,List.length_nil];omega
theorem ZR {l:Bytes} {i:Nat} {a b c d:UInt8} (h:(l.drop (4*i)).take 4=[a,b,c,d]):l.getD (4*i) 0=a/\l.getD (4*i+1) 0=b/\l.getD (4*i+2) 0=c/\l.getD (4*i+3) 0=d:=by
 have hg: ∀k,k<4->l.getD (4*i+k) 0=[a,b,c,d].getD k 0:=fun k hk=>by
  rw[<-h];simp[bu,eS,hk]
 exact⟨hg 0 oC,hg 1 oC,hg 2 oC,hg 3 oC⟩
theorem Nh (l:List Nat) {n:Nat} (h:l.length=n):chunk 1 n (wl l)=wl l:=by
 subst h;have:=zQ (wl l)
 rwa[rv]at this
theorem HK (l:List Nat):(aF .u32 l).all AV.one=true:=by
 unfold aF
 induction l with
 |nil=>rfl
 |cons c l ih=>rw[b8,List.all_cons,ih];rfl
theorem HO (hf:Nat->Option aI) (l:List Nat):bA (view hf 8) (aF .u32 l)=some (wl l):=ko (fun _=>rfl) l
theorem DX (hb:blk.length=64):aH 325 [.s blk] (.sl (wl (sched blk))):=by
 refine eW call325 func325 ?_;refine pO ?_;refine ah (α:=List Nat) (fun l=>16-l.length) (fun l=>⟨[(0, .v (.s blk)),(3, .rs 1001 0 0 64 1),(4,E' l.length)],[(1001,⟨0,aF .u32 (l++List.replicate (64-l.length) 0),false,none⟩)],_⟩) (fun l=>l.length<=16/\l=(List.range l.length).map (ya blk)) [] (fun _=>aA _) ⟨by decide,rfl⟩ ?_ ?_
 ·(refine AS.Le.of (by first|decide|omega) ?_ ?_<;>simp[cU,cT,aO,az,AV.bd,AV.bd.bdL,u8,aj,ak,an])
  all_goals rfl
 ·rintro l ⟨hl,he⟩ R hR;have hL:(aF .u32 (l++List.replicate (64-l.length) 0)).length=64:=by rw[bH];simp;omega
  by_cases hlt:l.length<16
  ·obtain⟨i,hi⟩: ∃i,i=l.length:=⟨_,rfl⟩;obtain⟨a,b,c,d,h4,-⟩:=four blk (i:=i) oO;obtain⟨q0,q1,q2,q3⟩:=ZR h4;have hV:ya blk i=m8 (m8 (m8 a.toNat b.toNat) c.toNat) d.toNat:=by rw[acC,ya,h4]
   have hgo:=hR (l++[ya blk i]) ⟨by simp;omega,by
    rw[bR,List.length_singleton,List.range_succ,mR,<-he,<-hi];rfl⟩ (by simp;omega)
   rw[<-Yl l _ oO,bR,List.length_singleton]at hgo;rw[Yk l oO];have hg:=PW l;have hp:=PZ l;have hn:=fun x=>PY l x oO
   rw[hV]at hgo;rw[<-hi]at hg hp hgo⊢;have t0: ∀ _:True,((4:Int)*(i:Int)).toNat=4*i:=fun _=>oO
   have t1: ∀ _:True,((4:Int)*(i:Int)+1).toNat=4*i+1:=fun _=>oO
   have t2: ∀ _:True,((4:Int)*(i:Int)+2).toNat=4*i+2:=fun _=>oO
   have t3: ∀ _:True,((4:Int)*(i:Int)+3).toNat=4*i+3:=fun _=>oO
   clear hR he h4 hV hL;repeat' first|simp only[go_sem,seval,hb,hg,hp,hn,t0 oT,t1 oT,t2 oT,t3 oT,q0,q1,q2,q3,abe,acD,w0,Int.add_zero,yR]|(refine aq ?_)|refine oE ?_|apply xX<;>intro hc
   refine hgo _ ?_
   (refine AS.Le.of (by first|decide|omega) ?_ ?_<;>simp[cU,cT,aO,az,AV.bd,AV.bd.bdL,u8,aj,ak,an])
   all_goals first|omega|(unfold uU;simp[an])
  ·have hl16:l.length=16:=oO;have hs0:l=(List.range 16).map (ya blk):=by rw[<-hl16];exact he
   rw[hl16];rw[hl16]at hL;clear hR he hlt hl;refine pO ?_;refine ah (α:=List Nat) (fun l=>64-l.length) (fun l=>⟨[(3, .rs 1001 0 0 64 1),(6,E' l.length)],[(1001,⟨0,aF .u32 (l++List.replicate (64-l.length) 0),false,none⟩)],_⟩) (fun l=>16<=l.length/\l.length<=64/\LL (64-l.length) l=sched blk) l (fun _=>aA _) ⟨oO,oO,by rw[hl16,hs0];rfl⟩ ?_ ?_
   ·rw[hl16];exact lE
   ·clear hs0 hL hl16 l;rintro l ⟨hl1,hl2,he⟩ R hR;have hL:(aF .u32 (l++List.replicate (64-l.length) 0)).length=64:=by rw[bH];simp;omega
    obtain⟨i,hi⟩: ∃i,i=l.length:=⟨_,rfl⟩
    by_cases hlt:l.length<64
    ·have hgo:=hR (l++[D9 l]) ⟨by simp;omega,by simp;omega,by
      have:64-l.length=(64-(l++[D9 l]).length)+1:=by simp;omega
      rw[this]at he;exact he⟩ (by simp;omega)
     have hse:=D8 l 64 (D9 l) hlt;have hg: ∀k:Nat,0<k->k<=16->(aF .u32 (l++List.replicate (64-l.length) 0)).getD ((i:Int)-(k:Int)).toNat .u= .v (.i .u32 (l.getD (i-k) 0:Nat)):=fun k h0 h1=>by
      rw[show((i:Int)-(k:Int)).toNat=i-k by omega,dV (by simp;omega),FK l _ _ oO]
     have g15:(aF .u32 (l++List.replicate (64-l.length) 0)).getD ((i:Int)-15).toNat .u= _:=hg 15 oC oC;have g2:(aF .u32 (l++List.replicate (64-l.length) 0)).getD ((i:Int)-2).toNat .u= _:=hg 2 oC oC;have g16:(aF .u32 (l++List.replicate (64-l.length) 0)).getD ((i:Int)-16).toNat .u= _:=hg 16 oC oC;have g7:(aF .u32 (l++List.replicate (64-l.length) 0)).getD ((i:Int)-7).toNat .u= _:=hg 7 oC oC;have hN:D9 l=ad (ad (ad (l.getD (i-16) 0) (qI (qI (rr (l.getD (i-15) 0) 7) (rr (l.getD (i-15) 0) 18)) (l.getD (i-15) 0/8))) (l.getD (i-7) 0)) (qI (qI (rr (l.getD (i-2) 0) 17) (rr (l.getD (i-2) 0) 19)) (l.getD (i-2) 0/1024)):=by rw[hi];rfl
     rw[hN]at hgo hse;rw[<-hi]at hL hse g15 g2 g16 g7⊢;clear hR he hN hg;generalize l.getD (i-16) 0=w16 at*;generalize l.getD (i-15) 0=w15 at*;generalize l.getD (i-7) 0=w7 at*;generalize l.getD (i-2) 0=w2 at*;have r7:=jG w15 7 oC oC;have r18:=jG w15 18 oC oC;have r17:=jG w2 17 oC oC;have r19:=jG w2 19 oC oC;refine nX (aN @hL (aN @g15 (aN @g2 (aN @g16 (aN @g7 (aN @qL @YW)))))) @r7 @r18 @r17 @r19 ?_;refine hgo _ ?_;rw[eL (x:=ad (ad (ad w16 (qI (qI (rr w15 7) (rr w15 18)) (w15/8))) w7) (qI (qI (rr w2 17) (rr w2 19)) (w2/1024))) (by rw[bH]at hL;omega) rfl,hse]
     (refine AS.Le.of (by first|decide|omega) ?_ ?_<;>simp[cU,cT,aO,az,AV.bd,AV.bd.bdL,u8,aj,ak,an])
     all_goals first|omega|skip
    ·have hl64:l.length=64:=oO;rw[hl64]at he hi hL⊢;have he:l=sched blk:=he;rw[gD,List.replicate_zero,j6]at hL⊢;rw[<-he];have k1:List.take 64 (aF .u32 l)=aF .u32 l:=cQ (by rw[bH];omega)
     have k3:(wl l).length=64:=by rw[rv,hl64]
     have k4:=Nh l hl64;have k5:=HK l;repeat' first|simp only[go_sem,seval,hL,k1,k3,k4,k5,ko,HO,QH]|refine oE ?_|apply xX<;>intro hc
     all_goals skip
theorem Hx (n:Nat):UInt8.ofNat (IntKind.u8.wrap (n:Int)).toNat=UInt8.ofNat n:=by
 rw[sE];apply zf;simp;omega
theorem MX (n:Nat):UInt8.ofNat (n%256)=UInt8.ofNat n:=by
 apply zf;simp
theorem Ie {s:Bytes} (hs:s.length<1000000000):aH 260 [.s s] (.s (pad s)):=by
 refine eW call260 func260 ?_;refine pO ?_;refine ah (α:=Nat) (fun c=>64-c) (fun c=>⟨[(0, .v (.s (s++128::zy c))),(3,E' s.length)],[],_⟩) (fun c=>c<=(119-s.length%64)%64) 0 (fun _=>aA _) (aD _) ?_ ?_
 ·(refine AS.Le.of (by first|decide|omega) ?_ ?_<;>simp[cU,cT,aO,az,AV.bd,AV.bd.bdL,u8,aj,ak,an])
  all_goals rfl
 ·intro c hc R hR;have hl:(s++128::zy c).length=s.length+1+c:=by simp[IH];omega
  have hz:s++128::zy c++[0]=s++128::zy (c+1):=by
   rw[eg];congr 1;unfold zy;rw[Ew];rfl
  obtain⟨L,hLL⟩: ∃L,L=s++128::zy c:=⟨_,rfl⟩;rw[<-hLL]at hl hz⊢
  by_cases hlt:c=(119-s.length%64)%64
  ·have h5: ∀ _:True,(((s.length+1+c)%64:Nat):Int)=56:=fun _=>oO
   have w1: ∀ _:True,IntKind.u64.wrap (s.length:Int)=(s.length:Int):=fun _=>by rw[BT];omega
   have w2: ∀ _:True,IntKind.u64.wrap ((s.length:Int)*8)=((s.length*8:Nat):Int):=fun _=>by rw[BT];omega
   clear hR;refine dw (aN @hl (aN (h5 oT) (aN (w1 oT) (w2 oT)))) ?_;obtain⟨N,hN⟩: ∃N,N=s.length*8:=⟨_,rfl⟩;rw[<-hN];clear h5 w1 w2 hz;repeat' first|simp only[go_sem,seval,An,qx,Hx,MX,ff,Nat.reduceMul]|(refine aq ?_)|refine oE ?_|apply xX<;>intro hc
   rw[hLL,hlt,hN,pad];simp only[be,zy,eg,List.cons_append,List.nil_append,Nat.reducePow,Nat.pow_zero,jx]
  ·have h5: ∀ _:True,¬(((s.length+1+c)%64:Nat):Int)=56:=fun _=>oO
   have hgo:=hR (c+1) oO oO;rw[<-hz]at hgo;clear hR hz;refine dw (aN @hl (h5 oT)) ?_;refine hgo _ ?_
   (refine AS.Le.of (by first|decide|omega) ?_ ?_<;>simp[cU,cT,aO,az,AV.bd,AV.bd.bdL,u8,aj,ak,an])
   all_goals first|omega|skip
theorem QG (l:List Nat) {i:Nat} (h:i<l.length):(wl l).getD i .fn0= .i .u32 (l.getD i 0:Nat):=by
 simp[wl,bu,h]
theorem QF (l:List Nat):List.map AV.v (List.flatMap PV.cells (wl l))=aF .u32 l:=by
 unfold wl aF
 induction l with
 |nil=>rfl
 |cons x l ih=>rw[b8,ft,mR,ih,b8];rfl
theorem uO {st:List Nat} (hs:st.length=8) (hb:blk.length=64):aH 261 [.sl (wl st), .s blk] (.sl (wl (sL st blk))):=by
 have hc:=BN;have hd:=DX hb;have k0:(wl st).length=8:=by rw[rv,hs]
 have k1:(wl qF).length=64:=rfl;have k2:(wl (sched blk)).length=64:=by rw[rv,nh]
 refine eW call261 func261 ?_;refine rz (aN @k0 (aN @k1 (aN @k2 @QF))) @hc @hd ?_;refine⟨⟨fun x hx=>by obtain⟨c,-,rfl⟩:=cx.1 hx;rfl,fun y hy=>by obtain⟨c,-,rfl⟩:=cx.1 hy;rfl⟩,?_⟩
 refine ah (α:=Nat×Nat×Bool×List Nat×Nat) (fun p=>64-p.2.2.2.2) (fun p=>⟨[(0, .v (.sl (wl st))),(5, .v (.sl (wl (sched blk)))),(6, .v (.sl (wl qF))),(7, .rs (p.1+1006) p.2.1 0 8 1),(8,E' p.2.2.2.2)],[(p.1+1006,⟨p.2.1,aF .u32 p.2.2.2.1,p.2.2.1,none⟩)],p.1+1011⟩) (fun p=>p.2.2.2.1.length=8/\p.2.2.2.2<=64/\w9 (sched blk) (64-p.2.2.2.2) p.2.2.2.1=w9 (sched blk) 64 st) (0,1,true,st,0) (fun _=>Nat.le_add_left _ _) ⟨hs,aD _,rfl⟩ ?_ ?_
 ·exact lE
 ·rintro⟨k,ver,gr,v,i⟩ ⟨hv,hi,he⟩ R hR;have hv:v.length=8:=hv;have hi:i<=64:=hi;have he:w9 (sched blk) (64-i) v=w9 (sched blk) 64 st:=he;obtain⟨a,b,c,d,e,f,g,h,rfl⟩:=YQ hv
  by_cases hlt:i<64
  ·have hgo:=fun k'=>hR (k',0,false,Qe (qF.getD i 0) ((sched blk).getD i 0) [a,b,c,d,e,f,g,h],i+1) ⟨rfl,hlt,by
    rw[show 64-i=(64-(i+1))+1 by omega,w9,show 63-(64-(i+1))=i by omega]at he;exact he⟩ (by simp;omega)
   have gk:(wl qF).getD i .fn0= .i .u32 (qF.getD i 0:Nat):=QG _ (by exact hlt)
   have gw:(wl (sched blk)).getD i .fn0= .i .u32 ((sched blk).getD i 0:Nat):=QG _ (by rw[nh];exact hlt)
   have r6:=jG e 6 oC oC;have r11:=jG e 11 oC oC;have r25:=jG e 25 oC oC;have r2:=jG a 2 oC oC;have r13:=jG a 13 oC oC;have r22:=jG a 22 oC oC;simp only[Vb,Vc,Vd,ic8]at hgo⊢;generalize qF.getD i 0=ki at hgo gk;generalize (sched blk).getD i 0=wi at hgo gw;clear hR he hv;repeat' first|simp only[go_sem,seval,k1,k2,gk,gw,qL,YW,a_r]|refine cP r6 ?_|refine cP r11 ?_|refine cP r25 ?_|refine cP r2 ?_|refine cP r13 ?_|refine cP r22 ?_|(refine And.intro (show QX _ _=true from rfl) ?_)|refine oE ?_|apply xX<;>intro hc
   have hgo:=hgo (k+98);simp only[show k+98+1006=k+1011+2+24+32+21+14 by omega]at hgo
   refine hgo _ ?_
   (refine AS.Le.of (by first|decide|omega) ?_ ?_<;>simp[cU,cT,aO,az,AV.bd,AV.bd.bdL,u8,aj,ak,an])
   all_goals first|omega|(erw [Xa e];simp only[a_r,YW,qL,and_self])
  ·have hl:i=64:=oO;subst hl;have he:[a,b,c,d,e,f,g,h]=w9 (sched blk) 64 st:=he;have hw:sL st blk=List.zipWith ad [a,b,c,d,e,f,g,h] st:=by rw[sL,<-he]
   rw[hw];clear hR he hv hw;obtain⟨s0,s1,s2,s3,s4,s5,s6,s7,rfl⟩:=YQ hs;simp only[ic8];have w8:wl [s0,s1,s2,s3,s4,s5,s6,s7]=[.i .u32 (s0:Int), .i .u32 (s1:Int), .i .u32 (s2:Int), .i .u32 (s3:Int), .i .u32 (s4:Int), .i .u32 (s5:Int), .i .u32 (s6:Int), .i .u32 (s7:Int)]:=rfl;repeat' first|simp only[go_sem,seval,k1,k2,qL,w8]|(refine And.intro (show QX _ _=true from rfl) ?_)|(refine aq ?_)|refine oE ?_|apply xX<;>intro hc
   all_goals rfl
theorem TW {s:Bytes} (hs:s.length<1000000000):aH 170 [.s s] (.s (mJ s)):=by
 have hp:=Ie hs;have hL:(pad s).length=(pad s).length/64*64:=Pe s;have hL0:64<=(pad s).length:=by rw[DS]at hL⊢;omega
 have hL1:(pad s).length<2000000000:=by rw[DS];omega
 have hsum:mJ s=(o9 ((pad s).length/64) (pad s) pK).flatMap XL:=rfl;rw[hsum];obtain⟨l,hl⟩: ∃l,l=pad s:=⟨_,rfl⟩;rw[<-hl]at hp hL hL0 hL1⊢;have hc:=uO (st:=pK) rfl (blk:=l.take 64) (by rw[bQ];omega)
 have hlt: ∀ _:True,((0:Int)<(l.length:Int))=True:=fun _=>by simp;omega
 refine eW call170 func170 ?_;refine zl1 @hp ?_;refine aq ?_;have h00: ∀ _:True,decide ((0:Int)<(l.length:Int))=true:=fun _=>by simp;omega
 have h01: ∀ _:True,(0:Int)<(l.length:Int):=fun _=>oO
 repeat' first|simp only[go_sem,seval,h00 oT,h01 oT]|(refine II [1001] hc rfl rfl rfl ?_)|refine oE ?_|apply xX<;>intro hc
 have e0:o9 (l.length/64) l pK=o9 ((l.length-64)/64) (l.drop 64) (sL pK (l.take 64)):=by
  rw[show l.length/64=(l.length-64)/64+1 by omega,o9]
 rw[e0];have hst0:(sL pK (l.take 64)).length=8:=pJ _ rfl;obtain⟨st0,hs0⟩: ∃x,x=sL pK (l.take 64):=⟨_,rfl⟩;rw[<-hs0]at hst0⊢;refine ah (α:=Nat×List Nat) (fun p=>l.length-p.1) (fun p=>⟨[(3, .v (.sl (wl p.2))),(4, .v (.s l)),(5,E' p.1)],[],_⟩) (fun p=>p.1<=l.length/\l.length-p.1=(l.length-p.1)/64*64/\p.2.length=8/\o9 ((l.length-p.1)/64) (l.drop p.1) p.2=o9 ((l.length-64)/64) (l.drop 64) st0) (64,st0) (fun _=>aA _) ⟨hL0,oO,hst0,rfl⟩ ?_ ?_
 ·exact lE
 ·rintro⟨o,st⟩ ⟨ho,hr,hst,he⟩ R hR;have ho:o<=l.length:=ho;have hr:l.length-o=(l.length-o)/64*64:=hr;have hst:st.length=8:=hst;have he:o9 ((l.length-o)/64) (l.drop o) st=o9 ((l.length-64)/64) (l.drop 64) st0:=he
  by_cases hlt:o<l.length
  ·have f1:o+64<=l.length:=oO;have f2:l.length-(o+64)=(l.length-(o+64))/64*64:=oO;have hgo:=hR (o+64,sL st ((l.drop o).take 64)) ⟨f1,f2,pJ _ hst,by
    rw[show(l.length-o)/64=(l.length-(o+64))/64+1 by omega,o9,yL]at he
    exact he⟩ (by simp;omega)
   have hx:(l.take (o+64)).drop o=(l.drop o).take 64:=by rw[vE];congr 1;omega
   have hc:=uO hst (blk:=(l.drop o).take 64) (by rw[bQ,mc];omega)
   clear hR he hr h00 h01 e0;have t64: ∀ _:True,((o:Int)+64).toNat=o+64:=fun _=>oO
   repeat' first|simp only[go_sem,seval,hx,t64 oT]|refine cP hc ?_|refine oE ?_|apply xX<;>intro hc
   all_goals try refine⟨oO,?_⟩
   refine hgo _ ?_
   (refine AS.Le.of (by first|decide|omega) ?_ ?_<;>simp[cU,cT,aO,az,AV.bd,AV.bd.bdL,u8,aj,ak,an])
   all_goals first|omega|skip
  ·have hl:o=l.length:=oO;have he:st=o9 ((l.length-64)/64) (l.drop 64) st0:=by rw[<-he,hl,gD];rfl
   rw[<-he];clear hR he;obtain⟨a,b,c,d,e,f,g,i,rfl⟩:=YQ hst;have w8:wl [a,b,c,d,e,f,g,i]=[.i .u32 (a:Int), .i .u32 (b:Int), .i .u32 (c:Int), .i .u32 (d:Int), .i .u32 (e:Int), .i .u32 (f:Int), .i .u32 (g:Int), .i .u32 (i:Int)]:=rfl;rw[w8];exact QS (aN @An (aN @qx (aN @Hx @MX)))
theorem acu (n:Nat):PV.isByte (.i .u8 (IntKind.u8.wrap (n:Int)))=True:=by
 simp[PV.isByte,sE]
theorem ab9 (n:Nat):PV.byte (.i .u8 (IntKind.u8.wrap (n:Int)))=UInt8.ofNat n:=qx n
theorem wT (n:Nat) (hn:n<4611686018427387904):aH 88 [.i .i64 (n:Int)] (.s (be 8 n)):=by
 refine eW call88 func88 ?_;repeat' first|simp only[go_sem,seval,acu,ab9,Hx,MX,ff,Nat.reduceMul]|(refine aq ?_)|refine oE ?_|apply xX<;>intro hc
 simp only[be,Nat.reducePow,Nat.pow_zero,jx]
theorem PA (hk:kd.length=1) (l:List Bytes) (hn:l.length<=1000) (hb: ∀s∈l,s.length<=100000):aH 83 [.s kd, .sl (l.map .s)] (.s (mJ (kd++be 8 l.length++c9 l))):=by
 have h0:=wT l.length oO;have hPb: ∀i,i<=l.length->(kd++be 8 l.length++c9 (l.take i)).length<=9+i*100008:=fun i hi=>by
  have h1:=nJ (l.take i) (n:=100000) fun s hs=>hb s (kG hs)
  rw[bQ,oS hi]at h1;rw[bR,bR,hk,cX];omega
 have hkl:(be 8 l.length).length=8:=cX _ _;refine eW call83 func83 ?_;refine jA (aN @hk @hkl) @h0 ?_;refine ah (α:=Nat) (fun i=>l.length-i) (fun i=>⟨[(1, .v (.sl (l.map .s))),(5, .v (.s (kd++be 8 l.length++c9 (l.take i)))),(6,E' i)],[],_⟩) (fun i=>i<=l.length) 0 (fun _=>aA _) (aD _) ?_ ?_
 ·(refine AS.Le.of (by first|decide|omega) ?_ ?_<;>simp[cU,cT,aO,az,AV.bd,AV.bd.bdL,u8,aj,ak,an])
  all_goals rfl
 ·intro i hi R hR
  by_cases hit:i<l.length
  ·have e2:=getD_map PV.s l ([]:Bytes) hit;have hgo:=hR (i+1) oO oO;have hbs:=hb (l.getD i []) (ai [] hit);have hPi:=hPb i hi;rw[aL ([]:Bytes) hit,mC,<-eg]at hgo;generalize l.getD i []=y at e2 hgo hbs;generalize hB:kd++be 8 l.length++c9 (l.take i)=B at hgo hPi⊢;have h1:=wT y.length oO;have hyl:(be 8 y.length).length=8:=cX _ _;have hBl:B.length+(8+y.length)<=9223372036854775807:=oO;clear hR hPb hb hkl h0;refine gR (aN @e2 @hyl) @h1 ?_;refine⟨by rw[bR,hyl];exact hBl,rfl,hgo _ ?_⟩
   (refine AS.Le.of (by first|decide|omega) ?_ ?_<;>simp[cU,cT,aO,az,AV.bd,AV.bd.bdL,u8,aj,ak,an])
   all_goals first|omega|skip
  ·have h:i=l.length:=oO;rw[h,bm];have hl2:=hPb l.length (aA _);rw[bm]at hl2;generalize kd++be 8 l.length++c9 l=B at hl2⊢;have hs:=TW (s:=B) oO;exact z1 @hs
theorem wU (k:Nat) (hk:kd=[UInt8.ofNat k]) (l:List Bytes) (hn:l.length<=1000) (hb: ∀s∈l,s.length<=100000):aH 83 [.s kd, .sl (l.map .s)] (.s (mJ (iw k l))):=by
 have h:=PA (kd:=kd) (by rw[hk];rfl) l hn hb
 rw[hk,eg]at h;rw[hk];exact h
theorem Q8 {P:Program} [cW P] {Q:AX->AS->Prop} {nx:Nat} {bf:Option (List Nat)} {nn:Nat} {d:Option Nat} {ops:List j9} {k:Nat} {s:AS} {tr:List (Nat×List Nat×List Nat)} {K:List Fr} {nm:Nat} {f:FuncId} {α:Type} {g:α->PV} {z n ver m:Nat} {l:List α} {gr:Bool} {el:Option TypeId} {x r:PV}
  (he:qG P f [x, .sl (l.map g)] r) (hrow:cH g z) (hr:r.flat=true) (hg:az s.h n=some ⟨ver,aP g l,gr,el⟩) (hm:m=l.length) (hK:RW P Q nx bf nn ops (k+1) (s.sM d (.v r) []) (xJ bf k [n] [] tr) K):
  CR P Q nx bf nn nm (.v (.fn (.func f))) [.v x, .rs n ver 0 m z] d ops k s tr K:=by
 refine lO he ?_ hr ?_
 ·simp[bA,iH hrow hm hg];rfl
 ·have:[AV.v x,AV.rs n ver 0 m z].flatMap (aW (az s.h) 9)=[n]:=by simp[nQ hrow hm hg];rfl
  rw[this];exact hK
theorem TN (l:Bytes) (hl:l.length<=100000):aH 38 [.s l] (.s (mG l)):=by
 have h:=wU 78 (kd:=[78]) rfl [l] (by simp) (by simp;omega)
 simp only[b8,cb]at h;refine eW call38 func38 ?_;exact z1 @h
theorem iG (st l d:Bytes) (h1:st.length<=100000) (h2:l.length<=100000) (h3:d.length<=100000):aH 37 [.s st, .s l, .s d] (.s (cZ st l d)):=by
 have h:=wU 65 (kd:=[65]) rfl [st,l,d] (by simp) (by intro s hs;simp at hs;rcases hs with rfl|rfl|rfl<;>assumption)
 simp only[b8,cb]at h;refine eW call37 func37 ?_;exact z1 @h
theorem qe (st l:Bytes) (n:Bool) (a:Bytes) (h1:st.length<=100000) (h2:l.length<=100000) (h3:a.length<=99999):aH 85 [.s st, .s l, .sl [.agg [.b n, .s a]]] (.s (Ef st l [(n,a)])):=by
 have h:=wU 73 (kd:=[73]) rfl [st,l,nV (n,a)] (by simp) (by intro s hs;simp at hs;rcases hs with rfl|rfl|rfl<;>first|assumption|(simp[nV];omega))
 cases n;all_goals simp only[nV,b8,cb]at h
 refine eW call85 func85 ?_;repeat' first|simp only[go_sem,seval]|refine cV h ?_|(refine aq ?_)|refine oE ?_|apply xX<;>intro hc
 all_goals try rfl
 refine eW call85 func85 ?_;repeat' first|simp only[go_sem,seval]|refine cV h ?_|(refine aq ?_)|refine oE ?_|apply xX<;>intro hc
 all_goals try rfl
theorem iy (st l:Bytes) (xs:List Bytes) (h1:st.length<=100000) (h2:l.length<=100000) (h0:xs≠[]) (hn:xs.length<=900) (h3: ∀x∈xs,x.length<=100000):aH 41 [.s st, .s l, .sl (xs.map .s)] (.s (cY st l xs)):=by
 have h:=wU 76 (kd:=[76]) rfl (st::l::xs) (by simp;omega) (by intro s hs;simp at hs;rcases hs with rfl|rfl|hs<;>first|assumption|exact h3 s hs)
 obtain⟨m0,mr,hmr⟩: ∃m0 mr,xs=m0::mr:=by cases xs with
  |nil=>exact aJ rfl h0
  |cons a b=>exact⟨a,b,rfl⟩
 have hml:xs.length=mr.length+1:=by rw[hmr];rfl
 have hpos: ∀ _:True,(0:Int)<(xs.length:Int):=fun _=>oO
 have g0:(xs.map PV.s).getD 0 .fn0= .s m0:=by rw[hmr];rfl
 refine eW call41 func41 ?_;refine pO ?_;refine aq ?_;refine dw (aN @g0 (hpos oT)) ?_;have hro:[AV.v (PV.s st),AV.v (PV.s l),AV.v (PV.s m0)]=aP PV.s (st::l::xs.take 1):=by rw[hmr];rfl
 rw[hro];clear hro g0 h1 h2 h3;refine ah (α:=Nat) (fun j=>xs.length-j) (fun j=>⟨[(2, .v (.sl (xs.map .s))),(7, .rs 1016 j 0 (3+j) 1),(8,E' (j+1))],[(1016,⟨j,aP PV.s (st::l::xs.take (j+1)),true,some 9⟩)],1021⟩) (fun j=>j+1<=xs.length) 0 (fun _=>cd rfl) oO ?_ ?_
 ·refine lG ?_;all_goals exact fun c hc=>bj hc
 ·intro j hj R hR;have hlr:(st::l::xs.take (j+1)).length=3+j:=by rw[List.length_cons,List.length_cons,bQ];omega
  have q0:(aP PV.s (st::l::xs.take (j+1))).length=3+j:=by rw[bT cH.s,hlr,dr]
  have q1:List.take (3+j) (aP PV.s (st::l::xs.take (j+1)))=aP PV.s (st::l::xs.take (j+1)):=cQ oO
  by_cases hjt:j+1<xs.length
  ·have e2:=getD_map PV.s xs ([]:Bytes) hjt;have hgo:=hR (j+1) oO oO;rw[aL ([]:Bytes) hjt,<-List.cons_append,<-List.cons_append,bU]at hgo;generalize xs.getD (j+1) []=y at e2 hgo;have e3: ∀ _:True,((j:Int)+1).toNat=j+1:=fun _=>oO
   clear hR hlr h;refine dw (aN @q0 (aN @q1 (aN @e2 (e3 oT)))) ?_;refine hgo _ ?_
   (refine AS.Le.of (by first|decide|omega) ?_ ?_<;>simp[cU,cT,aO,az,AV.bd,AV.bd.bdL,u8,aj,ak,an])
   all_goals first|omega|exact⟨rfl,fun c hc=>by rcases hc with hc|⟨a,ha,rfl⟩;exact bj hc;rfl⟩|skip
  ·have hj2:j+1=xs.length:=oO;rw[hj2,bm]at hlr q0 q1⊢;repeat' first|simp only[go_sem,seval,q0,q1]|(refine Q8 (l:=st::l::xs) (g:=PV.s) (ver:=j) (gr:=true) (el:=some 9) h cH.s rfl (by simp[az]) hlr.symm ?_)|refine oE ?_|apply xX<;>intro hc
   all_goals rfl
theorem x7 (st b:Bytes) (hs:st.length<=100000) (vb:ae b=true) (b0:b≠[]) (lb:b.length<=8):aH 42 [.s st, .s b] (.tup [N (ic st b),E 0]):=by
 have hv:=aU b;rw[vb]at hv;have hbb:(b==([]:Bytes))=false:=by simpa using b0
 have he:aH 88 [.i .i64 0] (.s (be 8 0)):=wT 0 oC;have hp:=wU 67 (kd:=[67]) rfl [st,be 8 0] (by simp) (by intro s hs';simp at hs';rcases hs' with rfl|rfl;exact hs;simp[cX])
 simp only[b8,cb]at hp;have hp:aH 83 [.s [67], .sl [.s st, .s (be 8 0)]] (.s (ru st)):=hp;have hcl:=Bo st;have htr:ic st b=num ((ru st).take (b.length+8))%num b:=rfl;rw[htr];generalize ru st=code at*;have hd1: ∀ _:True,decide ((0:Int)<(b.length:Int)+8)=true:=fun _=>by simp;omega
 have hd2: ∀ _:True,decide ((32:Int)<(b.length:Int)+8)=false:=fun _=>by simp;omega
 have ht8: ∀ _:True,((b.length:Int)+8).toNat=b.length+8:=fun _=>oO
 refine eW call42 func42 ?_;refine jA @hbb @hv ?_;refine aq ?_;refine Bw (aN @hbb (aN (hd1 oT) @hcl)) @he @hp ?_;refine aq ?_;refine rz (aN @hbb (aN (hd2 oT) (aN @hcl (ht8 oT)))) @he @hp ?_;have hll:(code.take (b.length+8)).length<=32:=by rw[bQ];omega
 generalize code.take (b.length+8)=l0 at hll⊢;have hm0:0<num b:=by
  rcases kH (num b)with h|h
  ·exact aJ (by have:=fA vb;rw[h]at this;injection this with h1;exact h1.symm) b0
  ·exact h
 have hov:=uR (a:=gp l0) (b:=b) (tS l0) (bJ vb) hm0 (by have:=Qt l0;omega) oO
 rw[AG]at hov;clear hp he hd1 hd2 ht8 hv;refine ah (α:=Bytes) (fun l=>l.length) (fun l=>⟨[(1, .v (.s b)),(6, .v (.s l))],[],_⟩) (fun l=>gp l=gp l0) l0 (fun _=>aA _) rfl ?_ ?_
 ·exact lE
 ·intro l hl R hR
  match l,hl with
  |[],hl=>
   have hl:gp l0=[]:=hl.symm;rw[hl]at hov;clear hR;exact z1 @hov
  |x::r,hl=>
   by_cases hx:x=0
   ·subst hx;have hgo:=hR r (by rw[<-hl];rfl) (by simp)
    clear hR;refine ye ?_;refine hgo _ ?_
    (refine AS.Le.of (by first|decide|omega) ?_ ?_<;>simp[cU,cT,aO,az,AV.bd,AV.bd.bdL,u8,aj,ak,an])
    all_goals first|omega|skip
   ·have hl:gp l0=x::r:=by rw[<-hl,gp,aa hx]
    rw[hl]at hov;have hx2: ∀ _:True,((x.toNat:Int)==0)=false:=fun _=>by
     simp only[du,ne_eq];intro h;exact hx (zf (by simp;omega))
    clear hR;exact iE (hx2 oT) @hov
theorem CM (n:Nat) (h:n<10):aH 84 [.i .i64 (n:Int)] (.s (cF n)):=by
 have hb:=WD ⟨n,h⟩;have t1: ∀ _:True,((n:Int)+1).toNat=n+1:=fun _=>oO
 refine eW call84 func84 ?_;repeat' first|simp only[go_sem,seval,t1 oT]|refine oE ?_|apply xX<;>intro hc
 all_goals first|omega|exact congrArg PV.s hb|skip
theorem il (n:Nat) (hn:n<100):aH 84 [.i .i64 (n:Int)] (.s (cF n)):=by
 by_cases h:n<10
 ·exact CM n h
 ·have h1:=CM (n/10) oO;have hb:=WD ⟨n%10,aV _ oC⟩;have t1: ∀ _:True,(((n%10:Nat):Int)+1).toNat=n%10+1:=fun _=>oO
  have e:cF n=cF (n/10)++cF (n%10):=by
   unfold cF;rw[aa h,af oO,af oO];rfl
  simp only at hb;rw[e];refine eW call84 func84 ?_;refine gR (t1 oT) @h1 ?_;have hb':List.drop (n%10) (48::List.take (n%10) ([49,50,51,52,53,54,55,56,57]:Bytes))=cF (n%10):=hb;have l1:=dA (n/10);have l2:=dA (n%10);rw[hb'];exact⟨oO,rfl,rfl⟩
end Go.Proofs.Tryz
namespace Go.Proofs.Tryz
open Go Go.Dom Go.Num
theorem DU (n:Nat) (h:n<10):aH 172 [.i .i64 (n:Int)] (.s (cF n)):=by
 have hb:=WD ⟨n,h⟩;have t1: ∀ _:True,((n:Int)+1).toNat=n+1:=fun _=>oO
 refine eW call172 func172 ?_;repeat' first|simp only[go_sem,seval,t1 oT]|refine oE ?_|apply xX<;>intro hc
 all_goals first|omega|exact congrArg PV.s hb|skip
theorem Py (n:Nat) (hn:n<100):aH 172 [.i .i64 (n:Int)] (.s (cF n)):=by
 by_cases h:n<10
 ·exact DU n h
 ·have h1:=DU (n/10) oO;have h2:=DU (n%10) oO;have e:cF n=cF (n/10)++cF (n%10):=by
   unfold cF;rw[aa h,af oO,af oO];rfl
  rw[e];have l1:=dA (n/10);have l2:=dA (n%10);generalize cF (n/10)=x at*;generalize cF (n%10)=y at*;refine eW call172 func172 ?_;repeat' first|simp only[go_sem,seval]|refine cP h1 ?_|refine cP h2 ?_|refine oE ?_|apply xX<;>intro hc
  all_goals first|omega|skip
theorem P0 {G:List Gt} (hl:G.length<1000000) (hb: ∀g∈G,g.kids.length<100): ∀(f n c:Nat),(eN G f (n:Int) n c).1=true->(eN G f (n:Int) n c).2.2<=100->aH 87 [E6 G,E (n:Int)] (.s (Eh G f n)):=by
 have l1:(G.map Gt.pv).length=G.length:=au ..;intro f
 induction f with
 |zero=>intro n c h;cases h
 |succ f ih=>
  intro n c h h100;have hlt:n<G.length:=Ep h;have e1:=getD_map Gt.pv G eC hlt;have hkl:=hb _ (ai eC hlt);rw[eN]at h h100;rw[Eh]
  by_cases c1:(n:Int)≠n\/G.length<=n
  ·rw[af c1]at h;cases h
  rw[aa c1]at h h100;clear c1;obtain⟨g,hg⟩: ∃g,g=G.getD n eC:=⟨_,rfl⟩;rw[<-hg]at e1 hkl h h100⊢;clear hg;obtain⟨need,kids,leaf⟩:=g;have l2:(kids.map rB).length=kids.length:=au ..;simp only[Gt.pv]at e1;simp only at hkl h h100⊢
  by_cases hk:kids=[]
  ·subst hk;rw[af rfl]at h h100;rw[af rfl];simp only[bc,a8]at h;obtain⟨-,rfl⟩:=h;have hc:c<100:=by simp only at h100;omega
   have c2:=Py c hc;rw[Int.toNat_natCast];clear ih;refine eW call87 func87 ?_;exact iE (aN @l1 @e1) @c2
  rw[aa hk]at h h100;rw[aa hk]
  by_cases c2:need<1\/need>kids.length\/leaf≠0
  ·rw[af c2]at h;cases h
  rw[aa c2]at h h100;obtain⟨m,rfl⟩: ∃m:Nat,need=(m:Int):=⟨need.toNat,by have:=fun h=>c2 (.inl h);omega⟩
  have hm:m<100:=by have:=fun h=>c2 (.inr (.inl h));omega
  clear c2;rw[Int.toNat_natCast];have hd:=dA m;have c3:=Py m hm;have hkp: ∀ _:True,((kids.length:Int)==0)=false:=fun _=>by
   rw[du];intro h;exact hk (dt.1 oO)
  have ha: ∀k n c,(eN G f k n c).1=true->k=n:=fun k n c=>yF
  have hT:=ve G f;have hce:=vk G f;have hle:=qj G f;generalize eN G f=v at*;generalize Eh G f=t at*;obtain⟨r,hr⟩: ∃r,r=ix v kids (n+1) c:=⟨_,rfl⟩;rw[<-hr]at h h100;obtain⟨B,hB⟩: ∃B,B=cF m++mA t 40 kids:=⟨_,rfl⟩;have hBe:cF m++(mA t 40 kids++[UInt8.ofNat 41])=B++[41]:=by rw[hB,eg];rfl
  rw[hBe];clear hBe;refine eW call87 func87 ?_;refine jA (aN @l1 (aN @l2 (aN @e1 (hkp oT)))) @c3 ?_;refine ah (α:=Nat×Nat×Nat×Bytes) (fun x=>kids.length-x.1) (fun x=>⟨[(2, .p 1000 0 0),(5, .p 1007 0 0),(6, .v (.s x.2.2.2)),(7,E' x.1)],[(1000,⟨0,[.v (.sl (G.map Gt.pv))],false,none⟩),(1007,⟨0,[.v (E (m:Int)), .v (.sl (kids.map rB)), .v (E leaf)],false,some 174⟩)],_⟩) (fun x=>x.1<=kids.length/\ix v (kids.drop x.1) x.2.1 x.2.2.1=r/\x.2.2.2++(if x.1=0 then(mA t 40 kids).drop 1 else mA t 44 (kids.drop x.1))=B/\x.2.2.2.length<=5*x.2.1/\x.2.1<=G.length) (0,n+1,c,cF m++[40]) (fun _=>aA _) ⟨aD _,hr.symm,?_,by simp only[bR,List.length_cons,List.length_nil];omega,hlt⟩ ?_ ?_
  ·obtain⟨a,l,rfl⟩:=List.exists_cons_of_ne_nil hk;rw[hB,mA];simp
  ·(refine AS.Le.of (by first|decide|omega) ?_ ?_<;>simp[cU,cT,aO,az,AV.bd,AV.bd.bdL,u8,aj,ak,an])
   all_goals rfl
  ·rintro⟨j,n',c',b'⟩ ⟨hj,hx,hbb,hbl,hnl⟩ R hR;simp only at hj hx hbb hbl hnl
   by_cases hjt:j<kids.length
   ·have e2:=getD_map rB kids 0 hjt;have hd0:j=0->(mA t 40 kids).drop 1=t (kids.getD j 0).toNat++mA t 44 (kids.drop (j+1)):=fun h=>by
     subst h;obtain⟨a,l,rfl⟩:=List.exists_cons_of_ne_nil hk;rw[mA];rfl
    rw[aE 0 hjt]at hx hbb;rw[mA]at hbb;obtain⟨k1,k2⟩:=rJ (by rw[hx];exact h)
    rw[hx]at k2;generalize kids.getD j 0=k at*;obtain rfl:=ha _ _ _ k1;rw[Int.toNat_natCast]at hbb hd0;have a1:=hT n' c' k1;have a2:=hle (n':Int) n' c' hnl;have a3:(v (n':Int) n' c').2.2<=100:=by
     have:=qU hce (kids.drop (j+1)) (v (n':Int) n' c').2.1 (v (n':Int) n' c').2.2;rw[<-k2]at this;omega
    have hih:=ih n' c' k1 a3;simp only[rB]at e2;have hz:decide ((j:Int)>0)= !decide (j=0):=by rw[cu];simp;omega
    by_cases hj0:j=0
    ·subst hj0;have hd0:=hd0 rfl;rw[af rfl,hd0]at hbb;have hgo:=hR (1,(v (n':Int) n' c').2.1,(v (n':Int) n' c').2.2,b'++t n') ⟨by simp only;omega,k2.symm,by simp only[Nat.one_ne_zero,aB];rw[<-hbb,eg],by simp only[bR];omega,a2⟩ (by simp only;omega)
     simp only at hgo;clear hR ih hT hce hle ha hbb hd0;refine gR (aN @l2 @e2) @hih ?_;refine hgo _ ?_
     (refine AS.Le.of (by first|decide|omega) ?_ ?_<;>simp[cU,cT,aO,az,AV.bd,AV.bd.bdL,u8,aj,ak,an])
     all_goals first|omega|rfl|skip
    ·rw[aa hj0]at hbb;have hgo:=hR (j+1,(v (n':Int) n' c').2.1,(v (n':Int) n' c').2.2,b'++[44]++t n') ⟨by simp only;omega,k2.symm,by simp only[Nat.add_one_ne_zero,aB];rw[<-hbb,eg,eg];rfl,by simp only[bR,List.length_cons,List.length_nil];omega,a2⟩ (by simp only;omega)
     simp only[hj0,decide_false,dW]at hz;have hs1:(b'++[44]).length=b'.length+1:=by simp
     simp only at hgo;clear hR ih hT hce hle ha hbb hd0;refine gR (aN @l2 (aN @e2 (aN @hz @hs1))) @hih ?_;refine hgo _ ?_
     (refine AS.Le.of (by first|decide|omega) ?_ ?_<;>simp[cU,cT,aO,az,AV.bd,AV.bd.bdL,u8,aj,ak,an])
     all_goals first|omega|rfl|skip
   ·obtain rfl:j=kids.length:=oO;have hk0:kids.length≠0:=fun e=>hk (dt.1 e)
    rw[bw,aa hk0,mA,j6]at hbb;subst hbb;clear hR ih hT hce hle ha;repeat' first|simp only[go_sem,seval,l2]|refine oE ?_|apply xX<;>intro hc
    all_goals first|omega|rfl|skip
theorem PJ {G:List Gt} (hl:G.length<=512) (hb: ∀g∈G,g.kids.length<100) {c:Nat} (h:DI G=some c) (hc:c<=100):aH 40 [E6 G] (.tup [.s (tw G),E 0]):=by
 have l1:(G.map Gt.pv).length=G.length:=au ..;obtain⟨d,hv,-⟩:=Gw hl (fun g hg=>by have:=hb g hg;omega)
 rw[h]at hv;simp only[Option.isSome_some]at hv;unfold tw
 by_cases h0:G=[]
 ·subst h0;rw[af rfl];refine eW call40 func40 ?_;exact z1 @hv
 rw[aa h0];have hz: ∀ _:True,((G.length:Int)==0)=false:=fun _=>by
  rw[du];intro e;exact h0 (dt.1 oO)
 obtain⟨e,-⟩:=yA h h0;have ht:=P0 oO hb (G.length+1) 0 0 (by rw[show((0:Nat):Int)=0 from rfl,e]) (by rw[show((0:Nat):Int)=0 from rfl,e];exact hc)
 rw[show((0:Nat):Int)=0 from rfl]at ht
 generalize Eh G (G.length+1) 0=x at*;refine eW call40 func40 ?_;exact vV (aN @l1 (hz oT)) @hv @ht
