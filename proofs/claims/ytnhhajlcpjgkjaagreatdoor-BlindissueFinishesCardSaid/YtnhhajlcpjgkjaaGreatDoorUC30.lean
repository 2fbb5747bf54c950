/- Part of the proof. -/
import Derived.Test.YtnhhajlcpjgkjaaGreatDoorUC29
set_option linter.all false
set_option maxHeartbeats 16000000
set_option maxRecDepth 100000
namespace Go.Proofs.Tryz
open Go Go.Dom
theorem yC (k:Nat) {c:Int} (hc:c=IntKind.u8.wrap (k:Int)) (l:List Bytes) (hm:l≠[]) (hn:l.length<=1000) (hb: ∀s∈l,s.length<=100000):aE 331 [.i .u8 c, .sl (l.map .s)] (.s (lg (iD k l))):=by
 have h:=PM k hc [] l hm (by simpa using hn) (by simpa using hb)
 rw[List.nil_append,bj]at h;refine eW call331 func331 ?_;repeat' first|simp only[go_sem,seval]|refine cV h ?_|refine oE ?_|apply xX<;>intro hc
theorem Q9 (l:Bytes) (hl:l.length<=100000):aE 205 [.s l] (.s (kX l)):=by
 have h:=yC 78 (c:=78) rfl [l] (by simp) (by simp) (by simp;omega)
 simp only[bV,bj]at h;refine eW call205 func205 ?_;exact z1 @h
theorem wz (st l d:Bytes) (h1:st.length<=100000) (h2:l.length<=100000) (h3:d.length<=100000):aE 204 [.s st, .s l, .s d] (.s (fw st l d)):=by
 have h:=yC 65 (c:=65) rfl [st,l,d] (by simp) (by simp) (by intro s hs;simp at hs;rcases hs with rfl|rfl|rfl<;>assumption)
 simp only[bV,bj]at h;refine eW call204 func204 ?_;exact z1 @h
theorem pV (st l:Bytes) (xs:List Bytes) (h1:st.length<=100000) (h2:l.length<=100000) (h0:xs≠[]) (hn:xs.length<=900) (h3: ∀x∈xs,x.length<=100000):aE 208 [.s st, .s l, .sl (xs.map .s)] (.s (gb st l xs)):=by
 have h:=PL 76 (c:=76) rfl [st,l] xs h0 (by simp;omega) (by intro s hs;simp at hs;rcases hs with rfl|rfl|hs<;>first|assumption|exact h3 s hs)
 simp only[bV,bj]at h;refine eW call208 func208 ?_;exact z1 @h
theorem NS (st l:Bytes) (n:Bool) (a:Bytes) (h1:st.length<=100000) (h2:l.length<=100000) (h3:a.length<=99999):aE 333 [.s st, .s l, .sl [.agg [.b n, .s a]]] (.s (Cu st l [(n,a)])):=by
 have h:=PK 73 (c:=73) rfl [st,l] n a (by simp) (by intro s hs;simp at hs;rcases hs with rfl|rfl|rfl<;>first|assumption|(simp[mF];omega))
 simp only[bV,bj]at h;refine eW call333 func333 ?_;exact z1 @h
theorem ON:(2^64)+(2^64)<dC:=by decide+kernel
theorem Xr {a b m:Nat} (ha:a<m) (hb:b<m) (hm:m<(2^64)):aE 351 [N a,N b,N m] (N ((a+b)%m)):=by
 have hW:=ON;have h1:=zV (a:=m) (b:=b) oO oO;have h2:=DI (a:=a) (b:=m-b) oO oO
 by_cases hge:m-b<=a
 ·have h3:=zV (a:=a) (b:=m-b) hge oO;have h4: ∀ _:True,(0:Int)<=aZ a (m-b):=fun _=>fH.2 hge
  have h5: ∀ _:True,decide (aZ a (m-b)>=0)=true:=fun _=>aV (h4 oT)
  have e:(a+b)%m=a-(m-b):=by rw[show a+b=(a-(m-b))+m by omega,Nat.add_mod_right,bw oO]
  rw[e];generalize aZ a (m-b)=cm at*;refine eW call351 func351 ?_;exact zB (h5 oT) @h1 @h2 @h3 oT
 ·have h3:=SQ (a:=a) (b:=b) oO;have h4: ∀ _:True,¬(0:Int)<=aZ a (m-b):=fun _ h=>hge (fH.1 h)
  have h5: ∀ _:True,decide (aZ a (m-b)>=0)=false:=fun _=>bL (h4 oT)
  rw[bw oO];generalize aZ a (m-b)=cm at*;refine eW call351 func351 ?_;exact zB (h5 oT) @h1 @h2 @h3 oT
theorem Xh {a b m:Nat} (ha:a<(2^64)) (hb:b<(2^64)) (hm:m<(2^64)) (h0:0<m):aE 220 [N a,N b,N m] (.tup [N ((a+b)%m),E 0]):=by
 have hc:=fun nm=>FK nm (bR a) (bR b) (bR m)
 rw[DG ha (vN hb) hm h0]at hc;have hp:=Xr (a:=a%m) (b:=b%m) (m:=m) (aP _ h0) (aP _ h0) hm;rw[<-kU]at hp;refine eW call220 func220 ?_;repeat' first|simp only[go_sem,seval]|(refine bE (hc _) (by simp) ?_)|refine cP (kP ha hm h0) ?_|refine cP (kP hb hm h0) ?_|refine cP hp ?_|refine oE ?_|apply xX<;>intro hc
abbrev SB:TypeId:=383
theorem zW (st b:Bytes) (hs:st.length<=100000) (vb:aa b=true) (b0:b≠[]) (lb:b.length<=8):aE 209 [.s st, .s b] (.tup [N (gK st b),E 0]):=by
 have hv:=aG b;rw[vb]at hv;have hbb:(b==([]:Bytes))=false:=by simpa using b0
 have w1:=fun nm=>ZF SB 1007 nm
 have w2:=fun nm=>TI 1014 nm 0 oC
 have w3:=fun nm=>NR FR 1014 1016 nm 7 (be 8 0) oC oC oC
 have hp:=yC 67 (c:=67) rfl [st,be 8 0] (by simp) (by simp) (by intro s hs';simp at hs';rcases hs' with rfl|rfl;exact hs;simp[cH])
 simp only[bV,bj]at hp;have hp:aE 331 [.i .u8 67, .sl [.s st, .s (be 8 0)]] (.s (pY st)):=hp;have hcl:=zf st;have htr:gK st b=num ((pY st).take (b.length+8))%num b:=rfl;rw[htr];generalize pY st=code at*;have w4:=fun nm=>wsF SB Xf 1007 nm code oO oO
 have w5:=fun nm=>ZE SB 1007 1022 nm 0 code oC
 have w6:=fun nm=>NR SB 1007 1022 nm 0 code oC oO oO
 have hd1: ∀ _:True,decide ((0:Int)<(b.length:Int)+8)=true:=fun _=>by simp;omega
 refine eW call209 func209 ?_;refine rU @hbb @hv ?_;refine aj ?_;repeat' first|simp only[go_sem,seval,hbb,hd1 oT]|(refine bE (w1 _) (by simp[aB,bF]) ?_)|(refine bE (w2 _) (by simp[aB,bF]) ?_)|(refine bE (w3 _) (by simp[aB]) ?_)|(refine bE (w4 _) (by simp[aB,bF]) ?_)|refine cP hp ?_|refine oE ?_|apply xX<;>intro hc
 refine aj ?_;have hd2: ∀ _:True,decide ((32:Int)<(b.length:Int)+8)=false:=fun _=>by simp;omega
 have ht8: ∀ _:True,((b.length:Int)+8).toNat=b.length+8:=fun _=>oO
 rw[hcl]at w5;repeat' first|simp only[go_sem,seval,hcl,hd2 oT,ht8 oT]|(refine bE (w5 _) (by simp[aB]) ?_)|(refine bE (w6 _) (by simp[aB]) ?_)|refine oE ?_|apply xX<;>intro hc
 have hll:(code.take (b.length+8)).length<=32:=by rw[cf];omega
 generalize code.take (b.length+8)=l at hll⊢;have hm:=dO lb;have hm0:0<num b:=by
  rcases jv (num b)with h|h
  ·exact aM (by have:=dZ vb;rw[h]at this;injection this with h1;exact h1.symm) b0
  ·exact h
 have hN:(.s b:PV)=N (num b):=(dZ vb).symm;rw[hN];generalize num b=m at*;have h256:aE 86 [.i .u64 256] (N 256):=pz 256 oC;clear w1 w2 w3 w4 w5 w6 hp hd1 hd2 ht8 hv;refine ak (α:=Nat) (fun i=>l.length-i) (fun i=>⟨[(1, .v (N m)),(9, .v (N (num (l.take i)%m))),(37, .v (.sl (l.map u8))),(38,E' l.length),(39,E' i)],[],_⟩) (fun i=>i<=l.length) 0 (fun _=>aD _) (aR _) ?_ ?_
 ·(refine AS.Le.of (by first|decide|omega) ?_ ?_<;>simp[dA,dz,aS,aB,AV.bd,AV.bd.bdL,u8,aq,au,aA])
  all_goals (rw[show num []=0 from rfl,Nat.zero_mod];rfl)
 ·intro i hi R hR
  by_cases hit:i<l.length
  ·have e2:=getD_map u8 l 0 hit;have hgo:=hR (i+1) oO oO;rw[kx hit]at hgo;have hc:(l.getD i 0).toNat<256:=(l.getD i 0).toNat_lt;have hou:aE 86 [.i .u64 ((l.getD i 0).toNat:Nat)] (N (l.getD i 0).toNat):=pz _ oO;have w1: ∀ _:True,IntKind.u64.wrap (((l.getD i 0).toNat:Nat):Int)=(((l.getD i 0).toNat:Nat):Int):=fun _=>by rw[zZ];omega
   generalize (l.getD i 0)=y at*;generalize num (l.take i)=x at*;have hx:x%m<m:=aP _ hm0;have hx2:x%m*256%m<m:=aP _ hm0;have h1:=Mr (a:=x%m) (b:=256) (m:=m) oO oC hm hm0;have h2:=Xh (a:=x%m*256%m) (b:=y.toNat) (m:=m) oO oO hm hm0;have e:(x%m*256%m+y.toNat)%m=(x*256+y.toNat)%m:=by
    rw[kU,ew,<-kU,kU (x%m*256),jy,<-kU]
   rw[e]at h2;clear hR hi e;repeat' first|simp only[go_sem,seval,e2,w1 oT]|refine cP h256 ?_|refine cP h1 ?_|refine cP h2 ?_|refine cP hou ?_|refine oE ?_|apply xX<;>intro hc
   all_goals (refine hgo _ ?_)
   (refine AS.Le.of (by first|decide|omega) ?_ ?_<;>simp[dA,dz,aS,aB,AV.bd,AV.bd.bdL,u8,aq,au,aA])
   all_goals first|omega|skip
  ·have h:i=l.length:=oO;rw[h,cg];exact z0
theorem N6 (l:List Nat) {i:Nat} (h:i<l.length):(wl l).getD i .fn0= .i .u32 (l.getD i 0:Nat):=by
 simp[wl,ca,h]
theorem N5 (l:List Nat):List.map AV.v (List.flatMap PV.cells (wl l))=aF .u32 l:=by
 unfold wl aF
 induction l with
 |nil=>rfl
 |cons x l ih=>rw[bV,fb,lu,ih,bV];rfl
theorem sO {st:List Nat} (hs:st.length=8) {blk:Bytes} (hb:blk.length=64):aE 501 [.sl (wl st), .s blk] (.sl (wl (qO st blk))):=by
 have hc:=zR;have hd:=Cg hb;have k0:(wl st).length=8:=by rw[pZ,hs]
 have k1:(wl po).length=64:=rfl;have k2:(wl (sched blk)).length=64:=by rw[pZ,lO]
 refine eW call501 func501 ?_;refine tO (aN @k0 (aN @k1 (aN @k2 @N5))) @hc @hd ?_;refine⟨⟨fun x hx=>by obtain⟨c,-,rfl⟩:=cv.1 hx;rfl,fun y hy=>by obtain⟨c,-,rfl⟩:=cv.1 hy;rfl⟩,?_⟩
 refine ak (α:=Nat×Nat×Bool×List Nat×Nat) (fun p=>64-p.2.2.2.2) (fun p=>⟨[(0, .v (.sl (wl st))),(5, .v (.sl (wl (sched blk)))),(6, .v (.sl (wl po))),(7, .rs (p.1+1006) p.2.1 0 8 1),(8,E' p.2.2.2.2)],[(p.1+1006,⟨p.2.1,aF .u32 p.2.2.2.1,p.2.2.1,none⟩)],p.1+1011⟩) (fun p=>p.2.2.2.1.length=8/\p.2.2.2.2<=64/\uK (sched blk) (64-p.2.2.2.2) p.2.2.2.1=uK (sched blk) 64 st) (0,1,true,st,0) (fun _=>Nat.le_add_left _ _) ⟨hs,aR _,rfl⟩ ?_ ?_
 ·exact lE
 ·rintro⟨k,ver,gr,v,i⟩ ⟨hv,hi,he⟩ R hR;have hv:v.length=8:=hv;have hi:i<=64:=hi;have he:uK (sched blk) (64-i) v=uK (sched blk) 64 st:=he;obtain⟨a,b,c,d,e,f,g,h,rfl⟩:=V7 hv
  by_cases hlt:i<64
  ·have hgo:=fun k'=>hR (k',0,false,NJ (po.getD i 0) ((sched blk).getD i 0) [a,b,c,d,e,f,g,h],i+1) ⟨rfl,hlt,by
    rw[show 64-i=(64-(i+1))+1 by omega,uK,show 63-(64-(i+1))=i by omega]at he;exact he⟩ (by simp;omega)
   have gk:(wl po).getD i .fn0= .i .u32 (po.getD i 0:Nat):=N6 _ (by exact hlt)
   have gw:(wl (sched blk)).getD i .fn0= .i .u32 ((sched blk).getD i 0:Nat):=N6 _ (by rw[lO];exact hlt)
   have r6:=iJ e 6 oC oC;have r11:=iJ e 11 oC oC;have r25:=iJ e 25 oC oC;have r2:=iJ a 2 oC oC;have r13:=iJ a 13 oC oC;have r22:=iJ a 22 oC oC;simp only[R6,R7,R8,YS]at hgo⊢;generalize po.getD i 0=ki at hgo gk;generalize (sched blk).getD i 0=wi at hgo gw;clear hR he hv;repeat' first|simp only[go_sem,seval,k1,k2,gk,gw,pC,Wa,YR]|refine cP r6 ?_|refine cP r11 ?_|refine cP r25 ?_|refine cP r2 ?_|refine cP r13 ?_|refine cP r22 ?_|(refine And.intro (show Oj _ _=true from rfl) ?_)|refine oE ?_|apply xX<;>intro hc
   have hgo:=hgo (k+98);simp only[show k+98+1006=k+1011+2+24+32+21+14 by omega]at hgo
   refine hgo _ ?_
   (refine AS.Le.of (by first|decide|omega) ?_ ?_<;>simp[dA,dz,aS,aB,AV.bd,AV.bd.bdL,u8,aq,au,aA])
   all_goals first|omega|(erw [Ux e];simp only[YR,Wa,pC,and_self])
  ·have hl:i=64:=oO;subst hl;have he:[a,b,c,d,e,f,g,h]=uK (sched blk) 64 st:=he;have hw:qO st blk=List.zipWith ad [a,b,c,d,e,f,g,h] st:=by rw[qO,<-he]
   rw[hw];clear hR he hv hw;obtain⟨s0,s1,s2,s3,s4,s5,s6,s7,rfl⟩:=V7 hs;simp only[YS];have w8:wl [s0,s1,s2,s3,s4,s5,s6,s7]=[.i .u32 (s0:Int), .i .u32 (s1:Int), .i .u32 (s2:Int), .i .u32 (s3:Int), .i .u32 (s4:Int), .i .u32 (s5:Int), .i .u32 (s6:Int), .i .u32 (s7:Int)]:=rfl;repeat' first|simp only[go_sem,seval,k1,k2,pC,w8]|(refine And.intro (show Oj _ _=true from rfl) ?_)|(refine aj ?_)|refine oE ?_|apply xX<;>intro hc
   all_goals rfl
theorem QO {s:Bytes} (hs:s.length<1000000000):aE 446 [.s s] (.s (lg s)):=by
 have hp:=Gw hs;have hL:(pad s).length=(pad s).length/64*64:=MK s;have hL0:64<=(pad s).length:=by rw[B7]at hL⊢;omega
 have hL1:(pad s).length<2000000000:=by rw[B7];omega
 have hsum:lg s=(nA ((pad s).length/64) (pad s) nV).flatMap UZ:=rfl;rw[hsum];obtain⟨l,hl⟩: ∃l,l=pad s:=⟨_,rfl⟩;rw[<-hl]at hp hL hL0 hL1⊢;have hc:=sO (st:=nV) rfl (blk:=l.take 64) (by rw[cf];omega)
 have hlt: ∀ _:True,((0:Int)<(l.length:Int))=True:=fun _=>by simp;omega
 refine eW call446 func446 ?_;refine Z0 @hp ?_;refine aj ?_;have h00: ∀ _:True,decide ((0:Int)<(l.length:Int))=true:=fun _=>by simp;omega
 have h01: ∀ _:True,(0:Int)<(l.length:Int):=fun _=>oO
 repeat' first|simp only[go_sem,seval,h00 oT,h01 oT]|(refine G6 [1001] hc rfl rfl rfl ?_)|refine oE ?_|apply xX<;>intro hc
 have e0:nA (l.length/64) l nV=nA ((l.length-64)/64) (l.drop 64) (qO nV (l.take 64)):=by
  rw[show l.length/64=(l.length-64)/64+1 by omega,nA]
 rw[e0];have hst0:(qO nV (l.take 64)).length=8:=nU _ rfl;obtain⟨st0,hs0⟩: ∃x,x=qO nV (l.take 64):=⟨_,rfl⟩;rw[<-hs0]at hst0⊢;refine ak (α:=Nat×List Nat) (fun p=>l.length-p.1) (fun p=>⟨[(3, .v (.sl (wl p.2))),(4, .v (.s l)),(5,E' p.1)],[],_⟩) (fun p=>p.1<=l.length/\l.length-p.1=(l.length-p.1)/64*64/\p.2.length=8/\nA ((l.length-p.1)/64) (l.drop p.1) p.2=nA ((l.length-64)/64) (l.drop 64) st0) (64,st0) (fun _=>aD _) ⟨hL0,oO,hst0,rfl⟩ ?_ ?_
 ·exact lE
 ·rintro⟨o,st⟩ ⟨ho,hr,hst,he⟩ R hR;have ho:o<=l.length:=ho;have hr:l.length-o=(l.length-o)/64*64:=hr;have hst:st.length=8:=hst;have he:nA ((l.length-o)/64) (l.drop o) st=nA ((l.length-64)/64) (l.drop 64) st0:=he
  by_cases hlt:o<l.length
  ·have f1:o+64<=l.length:=oO;have f2:l.length-(o+64)=(l.length-(o+64))/64*64:=oO;have hgo:=hR (o+64,qO st ((l.drop o).take 64)) ⟨f1,f2,nU _ hst,by
    rw[show(l.length-o)/64=(l.length-(o+64))/64+1 by omega,nA,wT]at he
    exact he⟩ (by simp;omega)
   have hx:(l.take (o+64)).drop o=(l.drop o).take 64:=by rw[tw];congr 1;omega
   have hc:=sO hst (blk:=(l.drop o).take 64) (by rw[cf,kD];omega)
   clear hR he hr h00 h01 e0;have t64: ∀ _:True,((o:Int)+64).toNat=o+64:=fun _=>oO
   repeat' first|simp only[go_sem,seval,hx,t64 oT]|refine cP hc ?_|refine oE ?_|apply xX<;>intro hc
   all_goals try refine⟨oO,?_⟩
   refine hgo _ ?_
   (refine AS.Le.of (by first|decide|omega) ?_ ?_<;>simp[dA,dz,aS,aB,AV.bd,AV.bd.bdL,u8,aq,au,aA])
   all_goals first|omega|skip
  ·have hl:o=l.length:=oO;have he:st=nA ((l.length-64)/64) (l.drop 64) st0:=by rw[<-he,hl,gS];rfl
   rw[<-he];clear hR he;obtain⟨a,b,c,d,e,f,g,i,rfl⟩:=V7 hst;have w8:wl [a,b,c,d,e,f,g,i]=[.i .u32 (a:Int), .i .u32 (b:Int), .i .u32 (c:Int), .i .u32 (d:Int), .i .u32 (e:Int), .i .u32 (f:Int), .i .u32 (g:Int), .i .u32 (i:Int)]:=rfl;rw[w8];exact V0 (aN @xY (aN @o7 (aN @FI @Lu)))
theorem Zt (n:Nat):PV.isByte (.i .u8 (IntKind.u8.wrap (n:Int)))=True:=by
 simp[PV.isByte,qC]
theorem Za (n:Nat):PV.byte (.i .u8 (IntKind.u8.wrap (n:Int)))=UInt8.ofNat n:=o7 n
theorem uE (n:Nat) (hn:n<4611686018427387904):aE 385 [.i .i64 (n:Int)] (.s (be 8 n)):=by
 refine eW call385 func385 ?_;repeat' first|simp only[go_sem,seval,Zt,Za,FI,Lu,eL,Nat.reduceMul]|(refine aj ?_)|refine oE ?_|apply xX<;>intro hc
 simp only[be,Nat.reducePow,Nat.pow_zero,iq]
theorem MY {kd:Bytes} (hk:kd.length=1) (l:List Bytes) (hn:l.length<=1000) (hb: ∀s∈l,s.length<=100000):aE 381 [.s kd, .sl (l.map .s)] (.s (lg (kd++be 8 l.length++de l))):=by
 have h0:=uE l.length oO;have hPb: ∀i,i<=l.length->(kd++be 8 l.length++de (l.take i)).length<=9+i*100008:=fun i hi=>by
  have h1:=oz (l.take i) (n:=100000) fun s hs=>hb s (kC hs)
  rw[cf,o5 hi]at h1;rw[bY,bY,hk,cH];omega
 have hkl:(be 8 l.length).length=8:=cH _ _;refine eW call381 func381 ?_;refine rU (aN @hk @hkl) @h0 ?_;refine ak (α:=Nat) (fun i=>l.length-i) (fun i=>⟨[(1, .v (.sl (l.map .s))),(5, .v (.s (kd++be 8 l.length++de (l.take i)))),(6,E' i)],[],_⟩) (fun i=>i<=l.length) 0 (fun _=>aD _) (aR _) ?_ ?_
 ·(refine AS.Le.of (by first|decide|omega) ?_ ?_<;>simp[dA,dz,aS,aB,AV.bd,AV.bd.bdL,u8,aq,au,aA])
  all_goals rfl
 ·intro i hi R hR
  by_cases hit:i<l.length
  ·have e2:=getD_map PV.s l ([]:Bytes) hit;have hgo:=hR (i+1) oO oO;have hbs:=hb (l.getD i []) (aC [] hit);have hPi:=hPb i hi;rw[aQ ([]:Bytes) hit,mS,<-fD]at hgo;generalize l.getD i []=y at e2 hgo hbs;generalize hB:kd++be 8 l.length++de (l.take i)=B at hgo hPi⊢;have h1:=uE y.length oO;have hyl:(be 8 y.length).length=8:=cH _ _;have hBl:B.length+(8+y.length)<=9223372036854775807:=oO;clear hR hPb hb hkl h0;refine jd (aN @e2 @hyl) @h1 ?_;refine⟨by rw[bY,hyl];exact hBl,rfl,hgo _ ?_⟩
   (refine AS.Le.of (by first|decide|omega) ?_ ?_<;>simp[dA,dz,aS,aB,AV.bd,AV.bd.bdL,u8,aq,au,aA])
   all_goals first|omega|skip
  ·have h:i=l.length:=oO;rw[h,cg];have hl2:=hPb l.length (aD _);rw[cg]at hl2;generalize kd++be 8 l.length++de l=B at hl2⊢;have hs:=QO (s:=B) oO;exact z1 @hs
theorem yR (k:Nat) {kd:Bytes} (hk:kd=[UInt8.ofNat k]) (l:List Bytes) (hn:l.length<=1000) (hb: ∀s∈l,s.length<=100000):aE 381 [.s kd, .sl (l.map .s)] (.s (lg (iD k l))):=by
 have h:=MY (kd:=kd) (by rw[hk];rfl) l hn hb
 rw[hk,fD]at h;rw[hk];exact h
theorem Ou {P:Program} [cE P] {Q:AX->AS->Prop} {nx:Nat} {bf:Option (List Nat)} {nn:Nat} {d:Option Nat} {ops:List jE} {k:Nat} {s:AS} {tr:List (Nat×List Nat×List Nat)} {K:List Fr} {nm:Nat} {f:FuncId} {α:Type} {g:α->PV} {z n ver m:Nat} {l:List α} {gr:Bool} {el:Option TypeId} {x r:PV}
  (he:p9 P f [x, .sl (l.map g)] r) (hrow:cT g z) (hr:r.flat=true) (hg:aB s.h n=some ⟨ver,aX g l,gr,el⟩) (hm:m=l.length) (hK:RW P Q nx bf nn ops (k+1) (s.rP d (.v r) []) (wA bf k [n] [] tr) K):
  CR P Q nx bf nn nm (.v (.fn (.func f))) [.v x, .rs n ver 0 m z] d ops k s tr K:=by
 refine e7 he ?_ hr ?_
 ·simp[aW,lU hrow hm hg];rfl
 ·have:[AV.v x,AV.rs n ver 0 m z].flatMap (bC (aB s.h) 9)=[n]:=by simp[oL hrow hm hg];rfl
  rw[this];exact hK
theorem QM (l:Bytes) (hl:l.length<=100000):aE 251 [.s l] (.s (kX l)):=by
 have h:=yR 78 (kd:=[78]) rfl [l] (by simp) (by simp;omega)
 simp only[bV,bj]at h;refine eW call251 func251 ?_;exact z1 @h
theorem qj (st l d:Bytes) (h1:st.length<=100000) (h2:l.length<=100000) (h3:d.length<=100000):aE 250 [.s st, .s l, .s d] (.s (fw st l d)):=by
 have h:=yR 65 (kd:=[65]) rfl [st,l,d] (by simp) (by intro s hs;simp at hs;rcases hs with rfl|rfl|rfl<;>assumption)
 simp only[bV,bj]at h;refine eW call250 func250 ?_;exact z1 @h
theorem Gt (st l:Bytes) (n:Bool) (a:Bytes) (h1:st.length<=100000) (h2:l.length<=100000) (h3:a.length<=99999):aE 382 [.s st, .s l, .sl [.agg [.b n, .s a]]] (.s (Cu st l [(n,a)])):=by
 have h:=yR 73 (kd:=[73]) rfl [st,l,mF (n,a)] (by simp) (by intro s hs;simp at hs;rcases hs with rfl|rfl|rfl<;>first|assumption|(simp[mF];omega))
 cases n;all_goals simp only[mF,bV,bj]at h
 refine eW call382 func382 ?_;repeat' first|simp only[go_sem,seval]|refine cV h ?_|(refine aj ?_)|refine oE ?_|apply xX<;>intro hc
 all_goals try rfl
 refine eW call382 func382 ?_;repeat' first|simp only[go_sem,seval]|refine cV h ?_|(refine aj ?_)|refine oE ?_|apply xX<;>intro hc
 all_goals try rfl
theorem mA (st l:Bytes) (xs:List Bytes) (h1:st.length<=100000) (h2:l.length<=100000) (h0:xs≠[]) (hn:xs.length<=900) (h3: ∀x∈xs,x.length<=100000):aE 254 [.s st, .s l, .sl (xs.map .s)] (.s (gb st l xs)):=by
 have h:=yR 76 (kd:=[76]) rfl (st::l::xs) (by simp;omega) (by intro s hs;simp at hs;rcases hs with rfl|rfl|hs<;>first|assumption|exact h3 s hs)
 obtain⟨m0,mr,hmr⟩: ∃m0 mr,xs=m0::mr:=by cases xs with
  |nil=>exact aM rfl h0
  |cons a b=>exact⟨a,b,rfl⟩
 have hml:xs.length=mr.length+1:=by rw[hmr];rfl
 have hpos: ∀ _:True,(0:Int)<(xs.length:Int):=fun _=>oO
 have g0:(xs.map PV.s).getD 0 .fn0= .s m0:=by rw[hmr];rfl
 refine eW call254 func254 ?_;refine qY ?_;refine aj ?_;refine eC (aN @g0 (hpos oT)) ?_;have hro:[AV.v (PV.s st),AV.v (PV.s l),AV.v (PV.s m0)]=aX PV.s (st::l::xs.take 1):=by rw[hmr];rfl
 rw[hro];clear hro g0 h1 h2 h3;refine ak (α:=Nat) (fun j=>xs.length-j) (fun j=>⟨[(2, .v (.sl (xs.map .s))),(7, .rs 1016 j 0 (3+j) 1),(8,E' (j+1))],[(1016,⟨j,aX PV.s (st::l::xs.take (j+1)),true,some 9⟩)],1021⟩) (fun j=>j+1<=xs.length) 0 (fun _=>dF rfl) oO ?_ ?_
 ·refine lG ?_;all_goals exact fun c hc=>cI hc
 ·intro j hj R hR;have hlr:(st::l::xs.take (j+1)).length=3+j:=by rw[List.length_cons,List.length_cons,cf];omega
  have q0:(aX PV.s (st::l::xs.take (j+1))).length=3+j:=by rw[cF cT.s,hlr,dK]
  have q1:List.take (3+j) (aX PV.s (st::l::xs.take (j+1)))=aX PV.s (st::l::xs.take (j+1)):=c9 oO
  by_cases hjt:j+1<xs.length
  ·have e2:=getD_map PV.s xs ([]:Bytes) hjt;have hgo:=hR (j+1) oO oO;rw[aQ ([]:Bytes) hjt,<-List.cons_append,<-List.cons_append,cu]at hgo;generalize xs.getD (j+1) []=y at e2 hgo;have e3: ∀ _:True,((j:Int)+1).toNat=j+1:=fun _=>oO
   clear hR hlr h;refine eC (aN @q0 (aN @q1 (aN @e2 (e3 oT)))) ?_;refine hgo _ ?_
   (refine AS.Le.of (by first|decide|omega) ?_ ?_<;>simp[dA,dz,aS,aB,AV.bd,AV.bd.bdL,u8,aq,au,aA])
   all_goals first|omega|exact⟨rfl,fun c hc=>by rcases hc with hc|⟨a,ha,rfl⟩;exact cI hc;rfl⟩|skip
  ·have hj2:j+1=xs.length:=oO;rw[hj2,cg]at hlr q0 q1⊢;repeat' first|simp only[go_sem,seval,q0,q1]|(refine Ou (l:=st::l::xs) (g:=PV.s) (ver:=j) (gr:=true) (el:=some 9) h cT.s rfl (by simp[aB]) hlr.symm ?_)|refine oE ?_|apply xX<;>intro hc
   all_goals rfl
theorem vH (st b:Bytes) (hs:st.length<=100000) (vb:aa b=true) (b0:b≠[]) (lb:b.length<=8):aE 255 [.s st, .s b] (.tup [N (gK st b),E 0]):=by
 have hv:=aI b;rw[vb]at hv;have hbb:(b==([]:Bytes))=false:=by simpa using b0
 have he:aE 385 [.i .i64 0] (.s (be 8 0)):=uE 0 oC;have hp:=yR 67 (kd:=[67]) rfl [st,be 8 0] (by simp) (by intro s hs';simp at hs';rcases hs' with rfl|rfl;exact hs;simp[cH])
 simp only[bV,bj]at hp;have hp:aE 381 [.s [67], .sl [.s st, .s (be 8 0)]] (.s (pY st)):=hp;have hcl:=zf st;have htr:gK st b=num ((pY st).take (b.length+8))%num b:=rfl;rw[htr];generalize pY st=code at*;have hd1: ∀ _:True,decide ((0:Int)<(b.length:Int)+8)=true:=fun _=>by simp;omega
 have hd2: ∀ _:True,decide ((32:Int)<(b.length:Int)+8)=false:=fun _=>by simp;omega
 have ht8: ∀ _:True,((b.length:Int)+8).toNat=b.length+8:=fun _=>oO
 refine eW call255 func255 ?_;refine rU @hbb @hv ?_;refine aj ?_;refine G4 (aN @hbb (aN (hd1 oT) @hcl)) @he @hp ?_;refine aj ?_;refine tO (aN @hbb (aN (hd2 oT) (aN @hcl (ht8 oT)))) @he @hp ?_;have hll:(code.take (b.length+8)).length<=32:=by rw[cf];omega
 generalize code.take (b.length+8)=l0 at hll⊢;have hm0:0<num b:=by
  rcases jv (num b)with h|h
  ·exact aM (by have:=dZ vb;rw[h]at this;injection this with h1;exact h1.symm) b0
  ·exact h
 have hov:=pQ (a:=fB l0) (b:=b) (rO l0) (bG vb) hm0 (by have:=NY l0;omega) oO
 rw[yu]at hov;clear hp he hd1 hd2 ht8 hv;refine ak (α:=Bytes) (fun l=>l.length) (fun l=>⟨[(1, .v (.s b)),(6, .v (.s l))],[],_⟩) (fun l=>fB l=fB l0) l0 (fun _=>aD _) rfl ?_ ?_
 ·exact lE
 ·intro l hl R hR
  match l,hl with
  |[],hl=>
   have hl:fB l0=[]:=hl.symm;rw[hl]at hov;clear hR;exact z1 @hov
  |x::r,hl=>
   by_cases hx:x=0
   ·subst hx;have hgo:=hR r (by rw[<-hl];rfl) (by simp)
    clear hR;refine vP ?_;refine hgo _ ?_
    (refine AS.Le.of (by first|decide|omega) ?_ ?_<;>simp[dA,dz,aS,aB,AV.bd,AV.bd.bdL,u8,aq,au,aA])
    all_goals first|omega|skip
   ·have hl:fB l0=x::r:=by rw[<-hl,fB,af hx]
    rw[hl]at hov;have hx2: ∀ _:True,((x.toNat:Int)==0)=false:=fun _=>by
     simp only[ey,ne_eq];intro h;exact hx (w9 (by simp;omega))
    clear hR;exact lF (hx2 oT) @hov
