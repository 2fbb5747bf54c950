/- Part of the proof. -/
import Derived.Test.YtnhhajlcpjgkjaaGreatDoorUB28
set_option linter.all false
set_option maxHeartbeats 16000000
set_option maxRecDepth 100000
namespace Go.Proofs.Tryz
open Go Go.Dom
theorem Ab (k:Nat) {c:Int} (hc:c=IntKind.u8.wrap (k:Int)) (l:List Bytes) (hm:l≠[]) (hn:l.length<=1000) (hb: ∀s∈l,s.length<=100000):aE 331 [.i .u8 c, .sl (l.map .s)] (.s (lQ (iT k l))):=by
 have h:=RG k hc [] l hm (by simpa using hn) (by simpa using hb)
 rw[List.nil_append,ca]at h;refine eW call331 func331 ?_;repeat' first|simp only[go_sem,seval]|refine cV h ?_|refine oE ?_|apply xX<;>intro hc
theorem S9 (l:Bytes) (hl:l.length<=100000):aE 205 [.s l] (.s (lZ l)):=by
 have h:=Ab 78 (c:=78) rfl [l] (by simp) (by simp) (by simp;omega)
 simp only[bV,ca]at h;refine eW call205 func205 ?_;exact z1 @h
theorem xZ (st l d:Bytes) (h1:st.length<=100000) (h2:l.length<=100000) (h3:d.length<=100000):aE 204 [.s st, .s l, .s d] (.s (fH st l d)):=by
 have h:=Ab 65 (c:=65) rfl [st,l,d] (by simp) (by simp) (by intro s hs;simp at hs;rcases hs with rfl|rfl|rfl<;>assumption)
 simp only[bV,ca]at h;refine eW call204 func204 ?_;exact z1 @h
theorem qS (st l:Bytes) (xs:List Bytes) (h1:st.length<=100000) (h2:l.length<=100000) (h0:xs≠[]) (hn:xs.length<=900) (h3: ∀x∈xs,x.length<=100000):aE 208 [.s st, .s l, .sl (xs.map .s)] (.s (gL st l xs)):=by
 have h:=RF 76 (c:=76) rfl [st,l] xs h0 (by simp;omega) (by intro s hs;simp at hs;rcases hs with rfl|rfl|hs<;>first|assumption|exact h3 s hs)
 simp only[bV,ca]at h;refine eW call208 func208 ?_;exact z1 @h
theorem PD (st l:Bytes) (n:Bool) (a:Bytes) (h1:st.length<=100000) (h2:l.length<=100000) (h3:a.length<=99999):aE 333 [.s st, .s l, .sl [.agg [.b n, .s a]]] (.s (DG st l [(n,a)])):=by
 have h:=RE 73 (c:=73) rfl [st,l] n a (by simp) (by intro s hs;simp at hs;rcases hs with rfl|rfl|rfl<;>first|assumption|(simp[mZ];omega))
 simp only[bV,ca]at h;refine eW call333 func333 ?_;exact z1 @h
theorem QJ:(2^64)+(2^64)<da:=by decide+kernel
theorem YS {a b m:Nat} (ha:a<m) (hb:b<m) (hm:m<(2^64)):aE 351 [N a,N b,N m] (N ((a+b)%m)):=by
 have hW:=QJ;have h1:=Bo (a:=m) (b:=b) oO oO;have h2:=EY (a:=a) (b:=m-b) oO oO
 by_cases hge:m-b<=a
 ·have h3:=Bo (a:=a) (b:=m-b) hge oO;have h4: ∀ _:True,(0:Int)<=aW a (m-b):=fun _=>fT.2 hge
  have h5: ∀ _:True,decide (aW a (m-b)>=0)=true:=fun _=>aU (h4 oT)
  have e:(a+b)%m=a-(m-b):=by rw[show a+b=(a-(m-b))+m by omega,Nat.add_mod_right,bE oO]
  rw[e];generalize aW a (m-b)=cm at*;refine eW call351 func351 ?_;exact wO (h5 oT) @h1 @h2 @h3 oT
 ·have h3:=UE (a:=a) (b:=b) oO;have h4: ∀ _:True,¬(0:Int)<=aW a (m-b):=fun _ h=>hge (fT.1 h)
  have h5: ∀ _:True,decide (aW a (m-b)>=0)=false:=fun _=>bu (h4 oT)
  rw[bE oO];generalize aW a (m-b)=cm at*;refine eW call351 func351 ?_;exact wO (h5 oT) @h1 @h2 @h3 oT
theorem YK {a b m:Nat} (ha:a<(2^64)) (hb:b<(2^64)) (hm:m<(2^64)) (h0:0<m):aE 220 [N a,N b,N m] (.tup [N ((a+b)%m),E 0]):=by
 have hc:=fun nm=>G9 nm (bQ a) (bQ b) (bQ m)
 rw[EW ha (vN hb) hm h0]at hc;have hp:=YS (a:=a%m) (b:=b%m) (m:=m) (aQ _ h0) (aQ _ h0) hm;rw[<-jf]at hp;refine eW call220 func220 ?_;repeat' first|simp only[go_sem,seval]|(refine bK (hc _) (by simp) ?_)|refine cP (lJ ha hm h0) ?_|refine cP (lJ hb hm h0) ?_|refine cP hp ?_|refine oE ?_|apply xX<;>intro hc
abbrev SB:TypeId:=383
theorem Bp (st b:Bytes) (hs:st.length<=100000) (vb:aa b=true) (b0:b≠[]) (lb:b.length<=8):aE 209 [.s st, .s b] (.tup [N (gK st b),E 0]):=by
 have hv:=aI b;rw[vb]at hv;have hbb:(b==([]:Bytes))=false:=by simpa using b0
 have w1:=fun nm=>aaO SB 1007 nm
 have w2:=fun nm=>Vt 1014 nm 0 oC
 have w3:=fun nm=>PC FR 1014 1016 nm 7 (be 8 0) oC oC oC
 have hp:=Ab 67 (c:=67) rfl [st,be 8 0] (by simp) (by simp) (by intro s hs';simp at hs';rcases hs' with rfl|rfl;exact hs;simp[cO])
 simp only[bV,ca]at hp;have hp:aE 331 [.i .u8 67, .sl [.s st, .s (be 8 0)]] (.s (qU st)):=hp;have hcl:=AH st;have htr:gK st b=num ((qU st).take (b.length+8))%num b:=rfl;rw[htr];generalize qU st=code at*;have w4:=fun nm=>wsF SB YI 1007 nm code oO oO
 have w5:=fun nm=>aaN SB 1007 1022 nm 0 code oC
 have w6:=fun nm=>PC SB 1007 1022 nm 0 code oC oO oO
 have hd1: ∀ _:True,decide ((0:Int)<(b.length:Int)+8)=true:=fun _=>by simp;omega
 refine eW call209 func209 ?_;refine m9 @hbb @hv ?_;refine aj ?_;repeat' first|simp only[go_sem,seval,hbb,hd1 oT]|(refine bK (w1 _) (by simp[aC,bF]) ?_)|(refine bK (w2 _) (by simp[aC,bF]) ?_)|(refine bK (w3 _) (by simp[aC]) ?_)|(refine bK (w4 _) (by simp[aC,bF]) ?_)|refine cP hp ?_|refine oE ?_|apply xX<;>intro hc
 refine aj ?_;have hd2: ∀ _:True,decide ((32:Int)<(b.length:Int)+8)=false:=fun _=>by simp;omega
 have ht8: ∀ _:True,((b.length:Int)+8).toNat=b.length+8:=fun _=>oO
 rw[hcl]at w5;repeat' first|simp only[go_sem,seval,hcl,hd2 oT,ht8 oT]|(refine bK (w5 _) (by simp[aC]) ?_)|(refine bK (w6 _) (by simp[aC]) ?_)|refine oE ?_|apply xX<;>intro hc
 have hll:(code.take (b.length+8)).length<=32:=by rw[cd];omega
 generalize code.take (b.length+8)=l at hll⊢;have hm:=dS lb;have hm0:0<num b:=by
  rcases jS (num b)with h|h
  ·exact aP (by have:=dN vb;rw[h]at this;injection this with h1;exact h1.symm) b0
  ·exact h
 have hN:(.s b:PV)=N (num b):=(dN vb).symm;rw[hN];generalize num b=m at*;have h256:aE 86 [.i .u64 256] (N 256):=ql 256 oC;clear w1 w2 w3 w4 w5 w6 hp hd1 hd2 ht8 hv;refine ak (α:=Nat) (fun i=>l.length-i) (fun i=>⟨[(1, .v (N m)),(9, .v (N (num (l.take i)%m))),(37, .v (.sl (l.map u8))),(38,E' l.length),(39,E' i)],[],_⟩) (fun i=>i<=l.length) 0 (fun _=>aD _) (aO _) ?_ ?_
 ·(refine AS.Le.of (by first|decide|omega) ?_ ?_<;>simp[dw,du,aS,aC,AV.bd,AV.bd.bdL,u8,an,ar,aA])
  all_goals (rw[show num []=0 from rfl,Nat.zero_mod];rfl)
 ·intro i hi R hR
  by_cases hit:i<l.length
  ·have e2:=getD_map u8 l 0 hit;have hgo:=hR (i+1) oO oO;rw[kU hit]at hgo;have hc:(l.getD i 0).toNat<256:=(l.getD i 0).toNat_lt;have hou:aE 86 [.i .u64 ((l.getD i 0).toNat:Nat)] (N (l.getD i 0).toNat):=ql _ oO;have w1: ∀ _:True,IntKind.u64.wrap (((l.getD i 0).toNat:Nat):Int)=(((l.getD i 0).toNat:Nat):Int):=fun _=>by rw[Bq];omega
   generalize (l.getD i 0)=y at*;generalize num (l.take i)=x at*;have hx:x%m<m:=aQ _ hm0;have hx2:x%m*256%m<m:=aQ _ hm0;have h1:=Of (a:=x%m) (b:=256) (m:=m) oO oC hm hm0;have h2:=YK (a:=x%m*256%m) (b:=y.toNat) (m:=m) oO oO hm hm0;have e:(x%m*256%m+y.toNat)%m=(x*256+y.toNat)%m:=by
    rw[jf,eE,<-jf,jf (x%m*256),jU,<-jf]
   rw[e]at h2;clear hR hi e;repeat' first|simp only[go_sem,seval,e2,w1 oT]|refine cP h256 ?_|refine cP h1 ?_|refine cP h2 ?_|refine cP hou ?_|refine oE ?_|apply xX<;>intro hc
   all_goals (refine hgo _ ?_)
   (refine AS.Le.of (by first|decide|omega) ?_ ?_<;>simp[dw,du,aS,aC,AV.bd,AV.bd.bdL,u8,an,ar,aA])
   all_goals first|omega|skip
  ·have h:i=l.length:=oO;rw[h,cl];exact z0
theorem PS (l:List Nat) {i:Nat} (h:i<l.length):(wl l).getD i .fn0= .i .u32 (l.getD i 0:Nat):=by
 simp[wl,b9,h]
theorem PQ (l:List Nat):List.map AV.v (List.flatMap PV.cells (wl l))=aF .u32 l:=by
 unfold wl aF
 induction l with
 |nil=>rfl
 |cons x l ih=>rw[bV,fy,mj,ih,bV];rfl
theorem uj {st:List Nat} (hs:st.length=8) {blk:Bytes} (hb:blk.length=64):aE 501 [.sl (wl st), .s blk] (.sl (wl (rW st blk))):=by
 have hc:=Bl;have hd:=Dm hb;have k0:(wl st).length=8:=by rw[qV,hs]
 have k1:(wl qf).length=64:=rfl;have k2:(wl (sched blk)).length=64:=by rw[qV,mD]
 refine eW call501 func501 ?_;refine tu (aN @k0 (aN @k1 (aN @k2 @PQ))) @hc @hd ?_;refine⟨⟨fun x hx=>by obtain⟨c,-,rfl⟩:=cE.1 hx;rfl,fun y hy=>by obtain⟨c,-,rfl⟩:=cE.1 hy;rfl⟩,?_⟩
 refine ak (α:=Nat×Nat×Bool×List Nat×Nat) (fun p=>64-p.2.2.2.2) (fun p=>⟨[(0, .v (.sl (wl st))),(5, .v (.sl (wl (sched blk)))),(6, .v (.sl (wl qf))),(7, .rs (p.1+1006) p.2.1 0 8 1),(8,E' p.2.2.2.2)],[(p.1+1006,⟨p.2.1,aF .u32 p.2.2.2.1,p.2.2.1,none⟩)],p.1+1011⟩) (fun p=>p.2.2.2.1.length=8/\p.2.2.2.2<=64/\wD (sched blk) (64-p.2.2.2.2) p.2.2.2.1=wD (sched blk) 64 st) (0,1,true,st,0) (fun _=>Nat.le_add_left _ _) ⟨hs,aO _,rfl⟩ ?_ ?_
 ·exact lE
 ·rintro⟨k,ver,gr,v,i⟩ ⟨hv,hi,he⟩ R hR;have hv:v.length=8:=hv;have hi:i<=64:=hi;have he:wD (sched blk) (64-i) v=wD (sched blk) 64 st:=he;obtain⟨a,b,c,d,e,f,g,h,rfl⟩:=Xu hv
  by_cases hlt:i<64
  ·have hgo:=fun k'=>hR (k',0,false,Pu (qf.getD i 0) ((sched blk).getD i 0) [a,b,c,d,e,f,g,h],i+1) ⟨rfl,hlt,by
    rw[show 64-i=(64-(i+1))+1 by omega,wD,show 63-(64-(i+1))=i by omega]at he;exact he⟩ (by simp;omega)
   have gk:(wl qf).getD i .fn0= .i .u32 (qf.getD i 0:Nat):=PS _ (by exact hlt)
   have gw:(wl (sched blk)).getD i .fn0= .i .u32 ((sched blk).getD i 0:Nat):=PS _ (by rw[mD];exact hlt)
   have r6:=ja e 6 oC oC;have r11:=ja e 11 oC oC;have r25:=ja e 25 oC oC;have r2:=ja a 2 oC oC;have r13:=ja a 13 oC oC;have r22:=ja a 22 oC oC;simp only[TY,TZ,T0,ic8]at hgo⊢;generalize qf.getD i 0=ki at hgo gk;generalize (sched blk).getD i 0=wi at hgo gw;clear hR he hv;repeat' first|simp only[go_sem,seval,k1,k2,gk,gw,qo,Xx,a_r]|refine cP r6 ?_|refine cP r11 ?_|refine cP r25 ?_|refine cP r2 ?_|refine cP r13 ?_|refine cP r22 ?_|(refine And.intro (show Qh _ _=true from rfl) ?_)|refine oE ?_|apply xX<;>intro hc
   have hgo:=hgo (k+98);simp only[show k+98+1006=k+1011+2+24+32+21+14 by omega]at hgo
   refine hgo _ ?_
   (refine AS.Le.of (by first|decide|omega) ?_ ?_<;>simp[dw,du,aS,aC,AV.bd,AV.bd.bdL,u8,an,ar,aA])
   all_goals first|omega|(erw [VR e];simp only[a_r,Xx,qo,and_self])
  ·have hl:i=64:=oO;subst hl;have he:[a,b,c,d,e,f,g,h]=wD (sched blk) 64 st:=he;have hw:rW st blk=List.zipWith ad [a,b,c,d,e,f,g,h] st:=by rw[rW,<-he]
   rw[hw];clear hR he hv hw;obtain⟨s0,s1,s2,s3,s4,s5,s6,s7,rfl⟩:=Xu hs;simp only[ic8];have w8:wl [s0,s1,s2,s3,s4,s5,s6,s7]=[.i .u32 (s0:Int), .i .u32 (s1:Int), .i .u32 (s2:Int), .i .u32 (s3:Int), .i .u32 (s4:Int), .i .u32 (s5:Int), .i .u32 (s6:Int), .i .u32 (s7:Int)]:=rfl;repeat' first|simp only[go_sem,seval,k1,k2,qo,w8]|(refine And.intro (show Qh _ _=true from rfl) ?_)|(refine aj ?_)|refine oE ?_|apply xX<;>intro hc
   all_goals rfl
theorem xU {s:Bytes} (hs:s.length<1000000000):aE 446 [.s s] (.s (lQ s)):=by
 have hp:=HP hs;have hL:(pad s).length=(pad s).length/64*64:=OA s;have hL0:64<=(pad s).length:=by rw[Dd]at hL⊢;omega
 have hL1:(pad s).length<2000000000:=by rw[Dd];omega
 have hsum:lQ s=(oj ((pad s).length/64) (pad s) oY).flatMap Wk:=rfl;rw[hsum];obtain⟨l,hl⟩: ∃l,l=pad s:=⟨_,rfl⟩;rw[<-hl]at hp hL hL0 hL1⊢;have hc:=uj (st:=oY) rfl (blk:=l.take 64) (by rw[cd];omega)
 have hlt: ∀ _:True,((0:Int)<(l.length:Int))=True:=fun _=>by simp;omega
 refine eW call446 func446 ?_;refine zl1 @hp ?_;refine aj ?_;have h00: ∀ _:True,decide ((0:Int)<(l.length:Int))=true:=fun _=>by simp;omega
 have h01: ∀ _:True,(0:Int)<(l.length:Int):=fun _=>oO
 repeat' first|simp only[go_sem,seval,h00 oT,h01 oT]|(refine Il [1001] hc rfl rfl rfl ?_)|refine oE ?_|apply xX<;>intro hc
 have e0:oj (l.length/64) l oY=oj ((l.length-64)/64) (l.drop 64) (rW oY (l.take 64)):=by
  rw[show l.length/64=(l.length-64)/64+1 by omega,oj]
 rw[e0];have hst0:(rW oY (l.take 64)).length=8:=oX _ rfl;obtain⟨st0,hs0⟩: ∃x,x=rW oY (l.take 64):=⟨_,rfl⟩;rw[<-hs0]at hst0⊢;refine ak (α:=Nat×List Nat) (fun p=>l.length-p.1) (fun p=>⟨[(3, .v (.sl (wl p.2))),(4, .v (.s l)),(5,E' p.1)],[],_⟩) (fun p=>p.1<=l.length/\l.length-p.1=(l.length-p.1)/64*64/\p.2.length=8/\oj ((l.length-p.1)/64) (l.drop p.1) p.2=oj ((l.length-64)/64) (l.drop 64) st0) (64,st0) (fun _=>aD _) ⟨hL0,oO,hst0,rfl⟩ ?_ ?_
 ·exact lE
 ·rintro⟨o,st⟩ ⟨ho,hr,hst,he⟩ R hR;have ho:o<=l.length:=ho;have hr:l.length-o=(l.length-o)/64*64:=hr;have hst:st.length=8:=hst;have he:oj ((l.length-o)/64) (l.drop o) st=oj ((l.length-64)/64) (l.drop 64) st0:=he
  by_cases hlt:o<l.length
  ·have f1:o+64<=l.length:=oO;have f2:l.length-(o+64)=(l.length-(o+64))/64*64:=oO;have hgo:=hR (o+64,rW st ((l.drop o).take 64)) ⟨f1,f2,oX _ hst,by
    rw[show(l.length-o)/64=(l.length-(o+64))/64+1 by omega,oj,yn]at he
    exact he⟩ (by simp;omega)
   have hx:(l.take (o+64)).drop o=(l.drop o).take 64:=by rw[uW];congr 1;omega
   have hc:=uj hst (blk:=(l.drop o).take 64) (by rw[cd,lj];omega)
   clear hR he hr h00 h01 e0;have t64: ∀ _:True,((o:Int)+64).toNat=o+64:=fun _=>oO
   repeat' first|simp only[go_sem,seval,hx,t64 oT]|refine cP hc ?_|refine oE ?_|apply xX<;>intro hc
   all_goals try refine⟨oO,?_⟩
   refine hgo _ ?_
   (refine AS.Le.of (by first|decide|omega) ?_ ?_<;>simp[dw,du,aS,aC,AV.bd,AV.bd.bdL,u8,an,ar,aA])
   all_goals first|omega|skip
  ·have hl:o=l.length:=oO;have he:st=oj ((l.length-64)/64) (l.drop 64) st0:=by rw[<-he,hl,ic];rfl
   rw[<-he];clear hR he;obtain⟨a,b,c,d,e,f,g,i,rfl⟩:=Xu hst;have w8:wl [a,b,c,d,e,f,g,i]=[.i .u32 (a:Int), .i .u32 (b:Int), .i .u32 (c:Int), .i .u32 (d:Int), .i .u32 (e:Int), .i .u32 (f:Int), .i .u32 (g:Int), .i .u32 (i:Int)]:=rfl;rw[w8];exact Tk (aN @zw (aN @pS (aN @G7 @MN)))
theorem aaL (n:Nat):PV.isByte (.i .u8 (IntKind.u8.wrap (n:Int)))=True:=by
 simp[PV.isByte,rE]
theorem aaC (n:Nat):PV.byte (.i .u8 (IntKind.u8.wrap (n:Int)))=UInt8.ofNat n:=pS n
theorem wq (n:Nat) (hn:n<4611686018427387904):aE 385 [.i .i64 (n:Int)] (.s (be 8 n)):=by
 refine eW call385 func385 ?_;repeat' first|simp only[go_sem,seval,aaL,aaC,G7,MN,eZ,Nat.reduceMul]|(refine aj ?_)|refine oE ?_|apply xX<;>intro hc
 simp only[be,Nat.reducePow,Nat.pow_zero,iI]
theorem OP {kd:Bytes} (hk:kd.length=1) (l:List Bytes) (hn:l.length<=1000) (hb: ∀s∈l,s.length<=100000):aE 381 [.s kd, .sl (l.map .s)] (.s (lQ (kd++be 8 l.length++dx l))):=by
 have h0:=wq l.length oO;have hPb: ∀i,i<=l.length->(kd++be 8 l.length++dx (l.take i)).length<=9+i*100008:=fun i hi=>by
  have h1:=py (l.take i) (n:=100000) fun s hs=>hb s (k9 hs)
  rw[cd,pM hi]at h1;rw[bU,bU,hk,cO];omega
 have hkl:(be 8 l.length).length=8:=cO _ _;refine eW call381 func381 ?_;refine m9 (aN @hk @hkl) @h0 ?_;refine ak (α:=Nat) (fun i=>l.length-i) (fun i=>⟨[(1, .v (.sl (l.map .s))),(5, .v (.s (kd++be 8 l.length++dx (l.take i)))),(6,E' i)],[],_⟩) (fun i=>i<=l.length) 0 (fun _=>aD _) (aO _) ?_ ?_
 ·(refine AS.Le.of (by first|decide|omega) ?_ ?_<;>simp[dw,du,aS,aC,AV.bd,AV.bd.bdL,u8,an,ar,aA])
  all_goals rfl
 ·intro i hi R hR
  by_cases hit:i<l.length
  ·have e2:=getD_map PV.s l ([]:Bytes) hit;have hgo:=hR (i+1) oO oO;have hbs:=hb (l.getD i []) (au [] hit);have hPi:=hPb i hi;rw[aL ([]:Bytes) hit,nC,<-ft]at hgo;generalize l.getD i []=y at e2 hgo hbs;generalize hB:kd++be 8 l.length++dx (l.take i)=B at hgo hPi⊢;have h1:=wq y.length oO;have hyl:(be 8 y.length).length=8:=cO _ _;have hBl:B.length+(8+y.length)<=9223372036854775807:=oO;clear hR hPb hb hkl h0;refine iy (aN @e2 @hyl) @h1 ?_;refine⟨by rw[bU,hyl];exact hBl,rfl,hgo _ ?_⟩
   (refine AS.Le.of (by first|decide|omega) ?_ ?_<;>simp[dw,du,aS,aC,AV.bd,AV.bd.bdL,u8,an,ar,aA])
   all_goals first|omega|skip
  ·have h:i=l.length:=oO;rw[h,cl];have hl2:=hPb l.length (aD _);rw[cl]at hl2;generalize kd++be 8 l.length++dx l=B at hl2⊢;have hs:=xU (s:=B) oO;exact z1 @hs
theorem An (k:Nat) {kd:Bytes} (hk:kd=[UInt8.ofNat k]) (l:List Bytes) (hn:l.length<=1000) (hb: ∀s∈l,s.length<=100000):aE 381 [.s kd, .sl (l.map .s)] (.s (lQ (iT k l))):=by
 have h:=OP (kd:=kd) (by rw[hk];rfl) l hn hb
 rw[hk,ft]at h;rw[hk];exact h
theorem Qp {P:Program} [cM P] {Q:AX->AS->Prop} {nx:Nat} {bf:Option (List Nat)} {nn:Nat} {d:Option Nat} {ops:List jD} {k:Nat} {s:AS} {tr:List (Nat×List Nat×List Nat)} {K:List Fr} {nm:Nat} {f:FuncId} {α:Type} {g:α->PV} {z n ver m:Nat} {l:List α} {gr:Bool} {el:Option TypeId} {x r:PV}
  (he:qX P f [x, .sl (l.map g)] r) (hrow:cU g z) (hr:r.flat=true) (hg:aC s.h n=some ⟨ver,aT g l,gr,el⟩) (hm:m=l.length) (hK:RW P Q nx bf nn ops (k+1) (s.tc d (.v r) []) (x6 bf k [n] [] tr) K):
  CR P Q nx bf nn nm (.v (.fn (.func f))) [.v x, .rs n ver 0 m z] d ops k s tr K:=by
 refine fw he ?_ hr ?_
 ·simp[bc,kJ hrow hm hg];rfl
 ·have:[AV.v x,AV.rs n ver 0 m z].flatMap (bJ (aC s.h) 9)=[n]:=by simp[mY hrow hm hg];rfl
  rw[this];exact hK
theorem SK (l:Bytes) (hl:l.length<=100000):aE 251 [.s l] (.s (lZ l)):=by
 have h:=An 78 (kd:=[78]) rfl [l] (by simp) (by simp;omega)
 simp only[bV,ca]at h;refine eW call251 func251 ?_;exact z1 @h
theorem rk (st l d:Bytes) (h1:st.length<=100000) (h2:l.length<=100000) (h3:d.length<=100000):aE 250 [.s st, .s l, .s d] (.s (fH st l d)):=by
 have h:=An 65 (kd:=[65]) rfl [st,l,d] (by simp) (by intro s hs;simp at hs;rcases hs with rfl|rfl|rfl<;>assumption)
 simp only[bV,ca]at h;refine eW call250 func250 ?_;exact z1 @h
theorem HM (st l:Bytes) (n:Bool) (a:Bytes) (h1:st.length<=100000) (h2:l.length<=100000) (h3:a.length<=99999):aE 382 [.s st, .s l, .sl [.agg [.b n, .s a]]] (.s (DG st l [(n,a)])):=by
 have h:=An 73 (kd:=[73]) rfl [st,l,mZ (n,a)] (by simp) (by intro s hs;simp at hs;rcases hs with rfl|rfl|rfl<;>first|assumption|(simp[mZ];omega))
 cases n;all_goals simp only[mZ,bV,ca]at h
 refine eW call382 func382 ?_;repeat' first|simp only[go_sem,seval]|refine cV h ?_|(refine aj ?_)|refine oE ?_|apply xX<;>intro hc
 all_goals try rfl
 refine eW call382 func382 ?_;repeat' first|simp only[go_sem,seval]|refine cV h ?_|(refine aj ?_)|refine oE ?_|apply xX<;>intro hc
 all_goals try rfl
theorem mV (st l:Bytes) (xs:List Bytes) (h1:st.length<=100000) (h2:l.length<=100000) (h0:xs≠[]) (hn:xs.length<=900) (h3: ∀x∈xs,x.length<=100000):aE 254 [.s st, .s l, .sl (xs.map .s)] (.s (gL st l xs)):=by
 have h:=An 76 (kd:=[76]) rfl (st::l::xs) (by simp;omega) (by intro s hs;simp at hs;rcases hs with rfl|rfl|hs<;>first|assumption|exact h3 s hs)
 obtain⟨m0,mr,hmr⟩: ∃m0 mr,xs=m0::mr:=by cases xs with
  |nil=>exact aP rfl h0
  |cons a b=>exact⟨a,b,rfl⟩
 have hml:xs.length=mr.length+1:=by rw[hmr];rfl
 have hpos: ∀ _:True,(0:Int)<(xs.length:Int):=fun _=>oO
 have g0:(xs.map PV.s).getD 0 .fn0= .s m0:=by rw[hmr];rfl
 refine eW call254 func254 ?_;refine qi ?_;refine aj ?_;refine eJ (aN @g0 (hpos oT)) ?_;have hro:[AV.v (PV.s st),AV.v (PV.s l),AV.v (PV.s m0)]=aT PV.s (st::l::xs.take 1):=by rw[hmr];rfl
 rw[hro];clear hro g0 h1 h2 h3;refine ak (α:=Nat) (fun j=>xs.length-j) (fun j=>⟨[(2, .v (.sl (xs.map .s))),(7, .rs 1016 j 0 (3+j) 1),(8,E' (j+1))],[(1016,⟨j,aT PV.s (st::l::xs.take (j+1)),true,some 9⟩)],1021⟩) (fun j=>j+1<=xs.length) 0 (fun _=>dr rfl) oO ?_ ?_
 ·refine lG ?_;all_goals exact fun c hc=>cv hc
 ·intro j hj R hR;have hlr:(st::l::xs.take (j+1)).length=3+j:=by rw[List.length_cons,List.length_cons,cd];omega
  have q0:(aT PV.s (st::l::xs.take (j+1))).length=3+j:=by rw[cf cU.s,hlr,dG]
  have q1:List.take (3+j) (aT PV.s (st::l::xs.take (j+1)))=aT PV.s (st::l::xs.take (j+1)):=cZ oO
  by_cases hjt:j+1<xs.length
  ·have e2:=getD_map PV.s xs ([]:Bytes) hjt;have hgo:=hR (j+1) oO oO;rw[aL ([]:Bytes) hjt,<-List.cons_append,<-List.cons_append,bT]at hgo;generalize xs.getD (j+1) []=y at e2 hgo;have e3: ∀ _:True,((j:Int)+1).toNat=j+1:=fun _=>oO
   clear hR hlr h;refine eJ (aN @q0 (aN @q1 (aN @e2 (e3 oT)))) ?_;refine hgo _ ?_
   (refine AS.Le.of (by first|decide|omega) ?_ ?_<;>simp[dw,du,aS,aC,AV.bd,AV.bd.bdL,u8,an,ar,aA])
   all_goals first|omega|exact⟨rfl,fun c hc=>by rcases hc with hc|⟨a,ha,rfl⟩;exact cv hc;rfl⟩|skip
  ·have hj2:j+1=xs.length:=oO;rw[hj2,cl]at hlr q0 q1⊢;repeat' first|simp only[go_sem,seval,q0,q1]|(refine Qp (l:=st::l::xs) (g:=PV.s) (ver:=j) (gr:=true) (el:=some 9) h cU.s rfl (by simp[aC]) hlr.symm ?_)|refine oE ?_|apply xX<;>intro hc
   all_goals rfl
theorem xw (st b:Bytes) (hs:st.length<=100000) (vb:aa b=true) (b0:b≠[]) (lb:b.length<=8):aE 255 [.s st, .s b] (.tup [N (gK st b),E 0]):=by
 have hv:=aH b;rw[vb]at hv;have hbb:(b==([]:Bytes))=false:=by simpa using b0
 have he:aE 385 [.i .i64 0] (.s (be 8 0)):=wq 0 oC;have hp:=An 67 (kd:=[67]) rfl [st,be 8 0] (by simp) (by intro s hs';simp at hs';rcases hs' with rfl|rfl;exact hs;simp[cO])
 simp only[bV,ca]at hp;have hp:aE 381 [.s [67], .sl [.s st, .s (be 8 0)]] (.s (qU st)):=hp;have hcl:=AH st;have htr:gK st b=num ((qU st).take (b.length+8))%num b:=rfl;rw[htr];generalize qU st=code at*;have hd1: ∀ _:True,decide ((0:Int)<(b.length:Int)+8)=true:=fun _=>by simp;omega
 have hd2: ∀ _:True,decide ((32:Int)<(b.length:Int)+8)=false:=fun _=>by simp;omega
 have ht8: ∀ _:True,((b.length:Int)+8).toNat=b.length+8:=fun _=>oO
 refine eW call255 func255 ?_;refine m9 @hbb @hv ?_;refine aj ?_;refine GJ (aN @hbb (aN (hd1 oT) @hcl)) @he @hp ?_;refine aj ?_;refine tu (aN @hbb (aN (hd2 oT) (aN @hcl (ht8 oT)))) @he @hp ?_;have hll:(code.take (b.length+8)).length<=32:=by rw[cd];omega
 generalize code.take (b.length+8)=l0 at hll⊢;have hm0:0<num b:=by
  rcases jS (num b)with h|h
  ·exact aP (by have:=dN vb;rw[h]at this;injection this with h1;exact h1.symm) b0
  ·exact h
 have hov:=qJ (a:=fK l0) (b:=b) (s9 l0) (bL vb) hm0 (by have:=PJ l0;omega) oO
 rw[zW]at hov;clear hp he hd1 hd2 ht8 hv;refine ak (α:=Bytes) (fun l=>l.length) (fun l=>⟨[(1, .v (.s b)),(6, .v (.s l))],[],_⟩) (fun l=>fK l=fK l0) l0 (fun _=>aD _) rfl ?_ ?_
 ·exact lE
 ·intro l hl R hR
  match l,hl with
  |[],hl=>
   have hl:fK l0=[]:=hl.symm;rw[hl]at hov;clear hR;exact z1 @hov
  |x::r,hl=>
   by_cases hx:x=0
   ·subst hx;have hgo:=hR r (by rw[<-hl];rfl) (by simp)
    clear hR;refine xF ?_;refine hgo _ ?_
    (refine AS.Le.of (by first|decide|omega) ?_ ?_<;>simp[dw,du,aS,aC,AV.bd,AV.bd.bdL,u8,an,ar,aA])
    all_goals first|omega|skip
   ·have hl:fK l0=x::r:=by rw[<-hl,fK,af hx]
    rw[hl]at hov;have hx2: ∀ _:True,((x.toNat:Int)==0)=false:=fun _=>by
     simp only[dL,ne_eq];intro h;exact hx (ye (by simp;omega))
    clear hR;exact jE (hx2 oT) @hov
