/- Part of the proof. -/
import Derived.Test.YtkmahpcpmgedkaaGreatDoorFB27
set_option linter.all false
set_option maxHeartbeats 16000000
set_option maxRecDepth 100000
namespace Go.Proofs.Tryz
open Go Go.Dom
theorem Ad (k:Nat) {c:Int} (hc:c=IntKind.u8.wrap (k:Int)) (l:List Bytes) (hm:l≠[]) (hn:l.length<=1000) (hb: ∀s∈l,s.length<=100000):aD 267 [.i .u8 c, .sl (l.map .s)] (.s (me (iP k l))):=by
 have h:=Q7 k hc [] l hm (by simpa using hn) (by simpa using hb)
 rw[List.nil_append,bK]at h;refine eW call267 func267 ?_;repeat' first|simp only[go_sem,seval]|refine cV h ?_|refine oE ?_|apply xX<;>intro hc
theorem SF (l:Bytes) (hl:l.length<=100000):aD 156 [.s l] (.s (mq l)):=by
 have h:=Ad 78 (c:=78) rfl [l] (by simp) (by simp) (by simp;omega)
 simp only[br,bK]at h;refine eW call156 func156 ?_;exact z1 @h
theorem xS (st l d:Bytes) (h1:st.length<=100000) (h2:l.length<=100000) (h3:d.length<=100000):aD 155 [.s st, .s l, .s d] (.s (fI st l d)):=by
 have h:=Ad 65 (c:=65) rfl [st,l,d] (by simp) (by simp) (by intro s hs;simp at hs;rcases hs with rfl|rfl|rfl<;>assumption)
 simp only[br,bK]at h;refine eW call155 func155 ?_;exact z1 @h
theorem qA (st l:Bytes) (xs:List Bytes) (h1:st.length<=100000) (h2:l.length<=100000) (h0:xs≠[]) (hn:xs.length<=900) (h3: ∀x∈xs,x.length<=100000):aD 159 [.s st, .s l, .sl (xs.map .s)] (.s (gJ st l xs)):=by
 have h:=Q6 76 (c:=76) rfl [st,l] xs h0 (by simp;omega) (by intro s hs;simp at hs;rcases hs with rfl|rfl|hs<;>first|assumption|exact h3 s hs)
 simp only[br,bK]at h;refine eW call159 func159 ?_;exact z1 @h
theorem O6 (st l:Bytes) (n:Bool) (a:Bytes) (h1:st.length<=100000) (h2:l.length<=100000) (h3:a.length<=99999):aD 268 [.s st, .s l, .sl [.agg [.b n, .s a]]] (.s (DC st l [(n,a)])):=by
 have h:=Q5 73 (c:=73) rfl [st,l] n a (by simp) (by intro s hs;simp at hs;rcases hs with rfl|rfl|rfl<;>first|assumption|(simp[ni];omega))
 simp only[br,bK]at h;refine eW call268 func268 ?_;exact z1 @h
theorem jQ:(2^64)+(2^64)<cW:=by decide+kernel
theorem Tr {a b m:Nat} (ha:a<m) (hb:b<m) (hm:m<(2^64)):aD 288 [N a,N b,N m] (N ((a+b)%m)):=by
 have hW:=jQ;have h1:=xy (a:=m) (b:=b) oO oO;have h2:=sZ (a:=a) (b:=m-b) oO oO
 by_cases hge:m-b<=a
 ·have h3:=xy (a:=a) (b:=m-b) hge oO;have h4: ∀ _:True,(0:Int)<=ba a (m-b):=fun _=>kZ.2 hge
  have h5: ∀ _:True,decide (ba a (m-b)>=0)=true:=fun _=>aI (h4 oT)
  have e:(a+b)%m=a-(m-b):=by rw[show a+b=(a-(m-b))+m by omega,Nat.add_mod_right,bY oO]
  rw[e];generalize ba a (m-b)=cm at*;refine eW call288 func288 ?_;exact yG (h5 oT) @h1 @h2 @h3 oT
 ·have h3:=Qh (a:=a) (b:=b) oO;have h4: ∀ _:True,¬(0:Int)<=ba a (m-b):=fun _ h=>hge (kZ.1 h)
  have h5: ∀ _:True,decide (ba a (m-b)>=0)=false:=fun _=>aH (h4 oT)
  rw[bY oO];generalize ba a (m-b)=cm at*;refine eW call288 func288 ?_;exact yG (h5 oT) @h1 @h2 @h3 oT
theorem BW {a b m:Nat} (ha:a<(2^64)) (hb:b<(2^64)) (hm:m<(2^64)) (h0:0<m):aD 171 [N a,N b,N m] (.tup [N ((a+b)%m),E 0]):=by
 have hc:=fun nm=>CF nm (aX a) (aX b) (aX m)
 rw[wN ha (vN hb) hm h0]at hc;have hp:=Tr (a:=a%m) (b:=b%m) (m:=m) (aL _ h0) (aL _ h0) hm;rw[<-iM]at hp;refine eW call171 func171 ?_;repeat' first|simp only[go_sem,seval]|(refine cd (hc _) (by simp) ?_)|refine cP (l8 ha hm h0) ?_|refine cP (l8 hb hm h0) ?_|refine cP hp ?_|refine oE ?_|apply xX<;>intro hc
abbrev SB:TypeId:=336
theorem Bx (st b:Bytes) (hs:st.length<=100000) (vb:aa b=true) (b0:b≠[]) (lb:b.length<=8):aD 160 [.s st, .s b] (.tup [N (iQ st b),E 0]):=by
 have hv:=aS b;rw[vb]at hv;have hbb:(b==([]:Bytes))=false:=by simpa using b0
 have w1:=fun nm=>aag SB 1007 nm
 have w2:=fun nm=>UU 1014 nm 0 oC
 have w3:=fun nm=>O5 FR 1014 1016 nm 7 (be 8 0) oC oC oC
 have hp:=Ad 67 (c:=67) rfl [st,be 8 0] (by simp) (by simp) (by intro s hs';simp at hs';rcases hs' with rfl|rfl;exact hs;simp[cv])
 simp only[br,bK]at hp;have hp:aD 267 [.i .u8 67, .sl [.s st, .s (be 8 0)]] (.s (qC st)):=hp;have hcl:=AG st;have htr:iQ st b=num ((qC st).take (b.length+8))%num b:=rfl;rw[htr];generalize qC st=code at*;have w4:=fun nm=>wsF SB XC 1007 nm code oO oO
 have w5:=fun nm=>aaf SB 1007 1022 nm 0 code oC
 have w6:=fun nm=>O5 SB 1007 1022 nm 0 code oC oO oO
 have hd1: ∀ _:True,decide ((0:Int)<(b.length:Int)+8)=true:=fun _=>by simp;omega
 refine eW call160 func160 ?_;refine nc @hbb @hv ?_;refine ai ?_;repeat' first|simp only[go_sem,seval,hbb,hd1 oT]|(refine cd (w1 _) (by simp[az,bF]) ?_)|(refine cd (w2 _) (by simp[az,bF]) ?_)|(refine cd (w3 _) (by simp[az]) ?_)|(refine cd (w4 _) (by simp[az,bF]) ?_)|refine cP hp ?_|refine oE ?_|apply xX<;>intro hc
 refine ai ?_;have hd2: ∀ _:True,decide ((32:Int)<(b.length:Int)+8)=false:=fun _=>by simp;omega
 have ht8: ∀ _:True,((b.length:Int)+8).toNat=b.length+8:=fun _=>oO
 rw[hcl]at w5;repeat' first|simp only[go_sem,seval,hcl,hd2 oT,ht8 oT]|(refine cd (w5 _) (by simp[az]) ?_)|(refine cd (w6 _) (by simp[az]) ?_)|refine oE ?_|apply xX<;>intro hc
 have hll:(code.take (b.length+8)).length<=32:=by rw[bV];omega
 generalize code.take (b.length+8)=l at hll⊢;have hm:=eP lb;have hm0:0<num b:=by
  rcases j6 (num b)with h|h
  ·exact aW (by have:=eE vb;rw[h]at this;injection this with h1;exact h1.symm) b0
  ·exact h
 have hN:(.s b:PV)=N (num b):=(eE vb).symm;rw[hN];generalize num b=m at*;have h256:aD 63 [.i .u64 256] (N 256):=lJ 256 oC;clear w1 w2 w3 w4 w5 w6 hp hd1 hd2 ht8 hv;refine af (α:=Nat) (fun i=>l.length-i) (fun i=>⟨[(1, .v (N m)),(9, .v (N (num (l.take i)%m))),(37, .v (.sl (l.map u8))),(38,E' l.length),(39,E' i)],[],_⟩) (fun i=>i<=l.length) 0 (fun _=>ay _) (aJ _) ?_ ?_
 ·(refine AS.Le.of (by first|decide|omega) ?_ ?_<;>simp[dy,dx,aO,az,AV.bd,AV.bd.bdL,u8,ar,ax,aA])
  all_goals (rw[show num []=0 from rfl,Nat.zero_mod];rfl)
 ·intro i hi R hR
  by_cases hit:i<l.length
  ·have e2:=getD_map u8 l 0 hit;have hgo:=hR (i+1) oO oO;rw[lh hit]at hgo;have hc:(l.getD i 0).toNat<256:=(l.getD i 0).toNat_lt;have hou:aD 63 [.i .u64 ((l.getD i 0).toNat:Nat)] (N (l.getD i 0).toNat):=lJ _ oO;have w1: ∀ _:True,IntKind.u64.wrap (((l.getD i 0).toNat:Nat):Int)=(((l.getD i 0).toNat:Nat):Int):=fun _=>by rw[By];omega
   generalize (l.getD i 0)=y at*;generalize num (l.take i)=x at*;have hx:x%m<m:=aL _ hm0;have hx2:x%m*256%m<m:=aL _ hm0;have h1:=qk (a:=x%m) (b:=256) (m:=m) oO oC hm hm0;have h2:=BW (a:=x%m*256%m) (b:=y.toNat) (m:=m) oO oO hm hm0;have e:(x%m*256%m+y.toNat)%m=(x*256+y.toNat)%m:=by
    rw[iM,ep,<-iM,iM (x%m*256),jz,<-iM]
   rw[e]at h2;clear hR hi e;repeat' first|simp only[go_sem,seval,e2,w1 oT]|refine cP h256 ?_|refine cP h1 ?_|refine cP h2 ?_|refine cP hou ?_|refine oE ?_|apply xX<;>intro hc
   all_goals (refine hgo _ ?_)
   (refine AS.Le.of (by first|decide|omega) ?_ ?_<;>simp[dy,dx,aO,az,AV.bd,AV.bd.bdL,u8,ar,ax,aA])
   all_goals first|omega|skip
  ·have h:i=l.length:=oO;rw[h,ct];exact z0
end Go.Proofs.Tryz
namespace Go.Proofs.Tryz
open Go Go.Dom Go.Num
theorem Yf {a b m:Nat} (h0:0<m):(((a:Int)-b)%m).toNat=if b%m=0 then a%m else(a%m+(m-b%m))%m:=by
 have h1:((a:Int)-b)%m=(((a%m:Nat):Int)-((b%m:Nat):Int))%m:=by rw[Int.natCast_emod,Int.natCast_emod,<-Int.sub_emod]
 have hb:=aL b h0;rw[h1];split
 ·rename_i h;rw[h,show(((a%m:Nat):Int)-((0:Nat):Int))=((a%m:Nat):Int) by omega,<-Int.natCast_emod,Int.toNat_natCast,ep]
 ·rw[<-Int.add_emod_right,show(((a%m:Nat):Int)-((b%m:Nat):Int)+(m:Int))=((a%m+(m-b%m):Nat):Int) by omega,<-Int.natCast_emod,Int.toNat_natCast]
theorem IS {a b m:Nat} (ha:a<(2^64)) (hb:b<(2^64)) (hm:m<(2^64)) (h0:0<m):aD 331 [N a,N b,N m] (.tup [N (((a:Int)-b)%m).toNat,E 0]):=by
 have hW:=jQ;have hc:=fun nm=>CF nm (aX a) (aX b) (aX m)
 rw[wN ha (vN hb) hm h0]at hc;have r1:=l8 ha hm h0;have r2:=l8 hb hm h0;have hlb:=aL b h0;rw[Yf h0]
 by_cases hz:b%m=0
 ·rw[ah hz];rw[hz]at r2;have z0:(aX 0==([]:Bytes))=true:=by decide
  refine eW call331 func331 ?_;repeat' first|simp only[go_sem,seval,z0]|(refine cd (hc _) (by simp) ?_)|refine cP r1 ?_|refine cP r2 ?_|refine oE ?_|apply xX<;>intro hc
 ·rw[ae hz];have hs:=xy (a:=m) (b:=b%m) oO oO;have hp:=Tr (a:=a%m) (b:=m-b%m) (m:=m) (aL _ h0) oO hm;have en:(aX (b%m)==([]:Bytes))=false:=tJ oO;refine eW call331 func331 ?_;repeat' first|simp only[go_sem,seval,en]|(refine cd (hc _) (by simp) ?_)|refine cP r1 ?_|refine cP r2 ?_|refine cP hs ?_|refine cP hp ?_|refine oE ?_|apply xX<;>intro hc
end Go.Proofs.Tryz
namespace Go.Proofs.Tryz
open Go Go.Dom
theorem Pj (l:List Nat) {i:Nat} (h:i<l.length):(wl l).getD i .fn0= .i .u32 (l.getD i 0:Nat):=by
 simp[wl,bu,h]
theorem Ph (l:List Nat):List.map AV.v (List.flatMap PV.cells (wl l))=aC .u32 l:=by
 unfold wl aC
 induction l with
 |nil=>rfl
 |cons x l ih=>rw[br,eD,jh,ih,br];rfl
theorem tT {st:List Nat} (hs:st.length=8) {blk:Bytes} (hb:blk.length=64):aD 459 [.sl (wl st), .s blk] (.sl (wl (rq st blk))):=by
 have hc:=Bs;have hd:=Dk hb;have k0:(wl st).length=8:=by rw[qD,hs]
 have k1:(wl pS).length=64:=rfl;have k2:(wl (sched blk)).length=64:=by rw[qD,mK]
 refine eW call459 func459 ?_;refine pV (aN @k0 (aN @k1 (aN @k2 @Ph))) @hc @hd ?_;refine⟨⟨fun x hx=>by obtain⟨c,-,rfl⟩:=bG.1 hx;rfl,fun y hy=>by obtain⟨c,-,rfl⟩:=bG.1 hy;rfl⟩,?_⟩
 refine af (α:=Nat×Nat×Bool×List Nat×Nat) (fun p=>64-p.2.2.2.2) (fun p=>⟨[(0, .v (.sl (wl st))),(5, .v (.sl (wl (sched blk)))),(6, .v (.sl (wl pS))),(7, .rs (p.1+1006) p.2.1 0 8 1),(8,E' p.2.2.2.2)],[(p.1+1006,⟨p.2.1,aC .u32 p.2.2.2.1,p.2.2.1,none⟩)],p.1+1011⟩) (fun p=>p.2.2.2.1.length=8/\p.2.2.2.2<=64/\wA (sched blk) (64-p.2.2.2.2) p.2.2.2.1=wA (sched blk) 64 st) (0,1,true,st,0) (fun _=>Nat.le_add_left _ _) ⟨hs,aJ _,rfl⟩ ?_ ?_
 ·exact lE
 ·rintro⟨k,ver,gr,v,i⟩ ⟨hv,hi,he⟩ R hR;have hv:v.length=8:=hv;have hi:i<=64:=hi;have he:wA (sched blk) (64-i) v=wA (sched blk) 64 st:=he;obtain⟨a,b,c,d,e,f,g,h,rfl⟩:=WE hv
  by_cases hlt:i<64
  ·have hgo:=fun k'=>hR (k',0,false,OT (pS.getD i 0) ((sched blk).getD i 0) [a,b,c,d,e,f,g,h],i+1) ⟨rfl,hlt,by
    rw[show 64-i=(64-(i+1))+1 by omega,wA,show 63-(64-(i+1))=i by omega]at he;exact he⟩ (by simp;omega)
   have gk:(wl pS).getD i .fn0= .i .u32 (pS.getD i 0:Nat):=Pj _ (by exact hlt)
   have gw:(wl (sched blk)).getD i .fn0= .i .u32 ((sched blk).getD i 0:Nat):=Pj _ (by rw[mK];exact hlt)
   have r6:=ja e 6 oC oC;have r11:=ja e 11 oC oC;have r25:=ja e 25 oC oC;have r2:=ja a 2 oC oC;have r13:=ja a 13 oC oC;have r22:=ja a 22 oC oC;simp only[Tw,Tx,Ty,Zd]at hgo⊢;generalize pS.getD i 0=ki at hgo gk;generalize (sched blk).getD i 0=wi at hgo gw;clear hR he hv;repeat' first|simp only[go_sem,seval,k1,k2,gk,gw,qc,WG,Zc]|refine cP r6 ?_|refine cP r11 ?_|refine cP r25 ?_|refine cP r2 ?_|refine cP r13 ?_|refine cP r22 ?_|(refine And.intro (show PD _ _=true from rfl) ?_)|refine oE ?_|apply xX<;>intro hc
   have hgo:=hgo (k+98);simp only[show k+98+1006=k+1011+2+24+32+21+14 by omega]at hgo
   refine hgo _ ?_
   (refine AS.Le.of (by first|decide|omega) ?_ ?_<;>simp[dy,dx,aO,az,AV.bd,AV.bd.bdL,u8,ar,ax,aA])
   all_goals first|omega|(erw [Vg e];simp only[Zc,WG,qc,and_self])
  ·have hl:i=64:=oO;subst hl;have he:[a,b,c,d,e,f,g,h]=wA (sched blk) 64 st:=he;have hw:rq st blk=List.zipWith ad [a,b,c,d,e,f,g,h] st:=by rw[rq,<-he]
   rw[hw];clear hR he hv hw;obtain⟨s0,s1,s2,s3,s4,s5,s6,s7,rfl⟩:=WE hs;simp only[Zd];have w8:wl [s0,s1,s2,s3,s4,s5,s6,s7]=[.i .u32 (s0:Int), .i .u32 (s1:Int), .i .u32 (s2:Int), .i .u32 (s3:Int), .i .u32 (s4:Int), .i .u32 (s5:Int), .i .u32 (s6:Int), .i .u32 (s7:Int)]:=rfl;repeat' first|simp only[go_sem,seval,k1,k2,qc,w8]|(refine And.intro (show PD _ _=true from rfl) ?_)|(refine ai ?_)|refine oE ?_|apply xX<;>intro hc
   all_goals rfl
theorem xP {s:Bytes} (hs:s.length<1000000000):aD 407 [.s s] (.s (me s)):=by
 have hp:=Hp hs;have hL:(pad s).length=(pad s).length/64*64:=N0 s;have hL0:64<=(pad s).length:=by rw[De]at hL⊢;omega
 have hL1:(pad s).length<2000000000:=by rw[De];omega
 have hsum:me s=(oh ((pad s).length/64) (pad s) oP).flatMap VI:=rfl;rw[hsum];obtain⟨l,hl⟩: ∃l,l=pad s:=⟨_,rfl⟩;rw[<-hl]at hp hL hL0 hL1⊢;have hc:=tT (st:=oP) rfl (blk:=l.take 64) (by rw[bV];omega)
 have hlt: ∀ _:True,((0:Int)<(l.length:Int))=True:=fun _=>by simp;omega
 refine eW call407 func407 ?_;refine WH @hp ?_;refine ai ?_;have h00: ∀ _:True,decide ((0:Int)<(l.length:Int))=true:=fun _=>by simp;omega
 have h01: ∀ _:True,(0:Int)<(l.length:Int):=fun _=>oO
 repeat' first|simp only[go_sem,seval,h00 oT,h01 oT]|(refine nk [1001] hc rfl rfl rfl ?_)|refine oE ?_|apply xX<;>intro hc
 have e0:oh (l.length/64) l oP=oh ((l.length-64)/64) (l.drop 64) (rq oP (l.take 64)):=by
  rw[show l.length/64=(l.length-64)/64+1 by omega,oh]
 rw[e0];have hst0:(rq oP (l.take 64)).length=8:=oN _ rfl;obtain⟨st0,hs0⟩: ∃x,x=rq oP (l.take 64):=⟨_,rfl⟩;rw[<-hs0]at hst0⊢;refine af (α:=Nat×List Nat) (fun p=>l.length-p.1) (fun p=>⟨[(3, .v (.sl (wl p.2))),(4, .v (.s l)),(5,E' p.1)],[],_⟩) (fun p=>p.1<=l.length/\l.length-p.1=(l.length-p.1)/64*64/\p.2.length=8/\oh ((l.length-p.1)/64) (l.drop p.1) p.2=oh ((l.length-64)/64) (l.drop 64) st0) (64,st0) (fun _=>ay _) ⟨hL0,oO,hst0,rfl⟩ ?_ ?_
 ·exact lE
 ·rintro⟨o,st⟩ ⟨ho,hr,hst,he⟩ R hR;have ho:o<=l.length:=ho;have hr:l.length-o=(l.length-o)/64*64:=hr;have hst:st.length=8:=hst;have he:oh ((l.length-o)/64) (l.drop o) st=oh ((l.length-64)/64) (l.drop 64) st0:=he
  by_cases hlt:o<l.length
  ·have f1:o+64<=l.length:=oO;have f2:l.length-(o+64)=(l.length-(o+64))/64*64:=oO;have hgo:=hR (o+64,rq st ((l.drop o).take 64)) ⟨f1,f2,oN _ hst,by
    rw[show(l.length-o)/64=(l.length-(o+64))/64+1 by omega,oh,yc]at he
    exact he⟩ (by simp;omega)
   have hx:(l.take (o+64)).drop o=(l.drop o).take 64:=by rw[uE];congr 1;omega
   have hc:=tT hst (blk:=(l.drop o).take 64) (by rw[bV,ly];omega)
   clear hR he hr h00 h01 e0;have t64: ∀ _:True,((o:Int)+64).toNat=o+64:=fun _=>oO
   repeat' first|simp only[go_sem,seval,hx,t64 oT]|refine cP hc ?_|refine oE ?_|apply xX<;>intro hc
   all_goals try refine⟨oO,?_⟩
   refine hgo _ ?_
   (refine AS.Le.of (by first|decide|omega) ?_ ?_<;>simp[dy,dx,aO,az,AV.bd,AV.bd.bdL,u8,ar,ax,aA])
   all_goals first|omega|skip
  ·have hl:o=l.length:=oO;have he:st=oh ((l.length-64)/64) (l.drop 64) st0:=by rw[<-he,hl,fA];rfl
   rw[<-he];clear hR he;obtain⟨a,b,c,d,e,f,g,i,rfl⟩:=WE hst;have w8:wl [a,b,c,d,e,f,g,i]=[.i .u32 (a:Int), .i .u32 (b:Int), .i .u32 (c:Int), .i .u32 (d:Int), .i .u32 (e:Int), .i .u32 (f:Int), .i .u32 (g:Int), .i .u32 (i:Int)]:=rfl;rw[w8];exact SU (aN @zF (aN @pK (aN @GB @Mo)))
theorem ZO (n:Nat):PV.isByte (.i .u8 (IntKind.u8.wrap (n:Int)))=True:=by
 simp[PV.isByte,re]
theorem ZF (n:Nat):PV.byte (.i .u8 (IntKind.u8.wrap (n:Int)))=UInt8.ofNat n:=pK n
theorem wa (n:Nat) (hn:n<4611686018427387904):aD 313 [.i .i64 (n:Int)] (.s (be 8 n)):=by
 refine eW call313 func313 ?_;repeat' first|simp only[go_sem,seval,ZO,ZF,GB,Mo,eZ,Nat.reduceMul]|(refine ai ?_)|refine oE ?_|apply xX<;>intro hc
 simp only[be,Nat.reducePow,Nat.pow_zero,iR]
theorem Om {kd:Bytes} (hk:kd.length=1) (l:List Bytes) (hn:l.length<=1000) (hb: ∀s∈l,s.length<=100000):aD 309 [.s kd, .sl (l.map .s)] (.s (me (kd++be 8 l.length++de l))):=by
 have h0:=wa l.length oO;have hPb: ∀i,i<=l.length->(kd++be 8 l.length++de (l.take i)).length<=9+i*100008:=fun i hi=>by
  have h1:=pc (l.take i) (n:=100000) fun s hs=>hb s (jA hs)
  rw[bV,pz hi]at h1;rw[bJ,bJ,hk,cv];omega
 have hkl:(be 8 l.length).length=8:=cv _ _;refine eW call309 func309 ?_;refine nc (aN @hk @hkl) @h0 ?_;refine af (α:=Nat) (fun i=>l.length-i) (fun i=>⟨[(1, .v (.sl (l.map .s))),(5, .v (.s (kd++be 8 l.length++de (l.take i)))),(6,E' i)],[],_⟩) (fun i=>i<=l.length) 0 (fun _=>ay _) (aJ _) ?_ ?_
 ·(refine AS.Le.of (by first|decide|omega) ?_ ?_<;>simp[dy,dx,aO,az,AV.bd,AV.bd.bdL,u8,ar,ax,aA])
  all_goals rfl
 ·intro i hi R hR
  by_cases hit:i<l.length
  ·have e2:=getD_map PV.s l ([]:Bytes) hit;have hgo:=hR (i+1) oO oO;have hbs:=hb (l.getD i []) (aq [] hit);have hPi:=hPb i hi;rw[aQ ([]:Bytes) hit,nJ,<-fw]at hgo;generalize l.getD i []=y at e2 hgo hbs;generalize hB:kd++be 8 l.length++de (l.take i)=B at hgo hPi⊢;have h1:=wa y.length oO;have hyl:(be 8 y.length).length=8:=cv _ _;have hBl:B.length+(8+y.length)<=9223372036854775807:=oO;clear hR hPb hb hkl h0;refine kz (aN @e2 @hyl) @h1 ?_;refine⟨by rw[bJ,hyl];exact hBl,rfl,hgo _ ?_⟩
   (refine AS.Le.of (by first|decide|omega) ?_ ?_<;>simp[dy,dx,aO,az,AV.bd,AV.bd.bdL,u8,ar,ax,aA])
   all_goals first|omega|skip
  ·have h:i=l.length:=oO;rw[h,ct];have hl2:=hPb l.length (ay _);rw[ct]at hl2;generalize kd++be 8 l.length++de l=B at hl2⊢;have hs:=xP (s:=B) oO;exact z1 @hs
theorem Ap (k:Nat) {kd:Bytes} (hk:kd=[UInt8.ofNat k]) (l:List Bytes) (hn:l.length<=1000) (hb: ∀s∈l,s.length<=100000):aD 309 [.s kd, .sl (l.map .s)] (.s (me (iP k l))):=by
 have h:=Om (kd:=kd) (by rw[hk];rfl) l hn hb
 rw[hk,fw]at h;rw[hk];exact h
theorem PK {P:Program} [cu P] {Q:AX->AS->Prop} {nx:Nat} {bf:Option (List Nat)} {nn:Nat} {d:Option Nat} {ops:List kA} {k:Nat} {s:AS} {tr:List (Nat×List Nat×List Nat)} {K:List Fr} {nm:Nat} {f:FuncId} {α:Type} {g:α->PV} {z n ver m:Nat} {l:List α} {gr:Bool} {el:Option TypeId} {x r:PV}
  (he:ry P f [x, .sl (l.map g)] r) (hrow:dY g z) (hr:r.flat=true) (hg:az s.h n=some ⟨ver,bj g l,gr,el⟩) (hm:m=l.length) (hK:RW P Q nx bf nn ops (k+1) (s.uh d (.v r) []) (AT bf k [n] [] tr) K):
  CR P Q nx bf nn nm (.v (.fn (.func f))) [.v x, .rs n ver 0 m z] d ops k s tr K:=by
 refine qF he ?_ hr ?_
 ·simp[bz,oQ hrow hm hg];rfl
 ·have:[AV.v x,AV.rs n ver 0 m z].flatMap (aV (az s.h) 9)=[n]:=by simp[m9 hrow hm hg];rfl
  rw[this];exact hK
theorem Si (l:Bytes) (hl:l.length<=100000):aD 192 [.s l] (.s (mq l)):=by
 have h:=Ap 78 (kd:=[78]) rfl [l] (by simp) (by simp;omega)
 simp only[br,bK]at h;refine eW call192 func192 ?_;exact z1 @h
theorem qQ (st l d:Bytes) (h1:st.length<=100000) (h2:l.length<=100000) (h3:d.length<=100000):aD 191 [.s st, .s l, .s d] (.s (fI st l d)):=by
 have h:=Ap 65 (kd:=[65]) rfl [st,l,d] (by simp) (by intro s hs;simp at hs;rcases hs with rfl|rfl|rfl<;>assumption)
 simp only[br,bK]at h;refine eW call191 func191 ?_;exact z1 @h
theorem Hl (st l:Bytes) (n:Bool) (a:Bytes) (h1:st.length<=100000) (h2:l.length<=100000) (h3:a.length<=99999):aD 310 [.s st, .s l, .sl [.agg [.b n, .s a]]] (.s (DC st l [(n,a)])):=by
 have h:=Ap 73 (kd:=[73]) rfl [st,l,ni (n,a)] (by simp) (by intro s hs;simp at hs;rcases hs with rfl|rfl|rfl<;>first|assumption|(simp[ni];omega))
 cases n;all_goals simp only[ni,br,bK]at h
 refine eW call310 func310 ?_;repeat' first|simp only[go_sem,seval]|refine cV h ?_|(refine ai ?_)|refine oE ?_|apply xX<;>intro hc
 all_goals try rfl
 refine eW call310 func310 ?_;repeat' first|simp only[go_sem,seval]|refine cV h ?_|(refine ai ?_)|refine oE ?_|apply xX<;>intro hc
 all_goals try rfl
theorem mX (st l:Bytes) (xs:List Bytes) (h1:st.length<=100000) (h2:l.length<=100000) (h0:xs≠[]) (hn:xs.length<=900) (h3: ∀x∈xs,x.length<=100000):aD 195 [.s st, .s l, .sl (xs.map .s)] (.s (gJ st l xs)):=by
 have h:=Ap 76 (kd:=[76]) rfl (st::l::xs) (by simp;omega) (by intro s hs;simp at hs;rcases hs with rfl|rfl|hs<;>first|assumption|exact h3 s hs)
 obtain⟨m0,mr,hmr⟩: ∃m0 mr,xs=m0::mr:=by cases xs with
  |nil=>exact aW rfl h0
  |cons a b=>exact⟨a,b,rfl⟩
 have hml:xs.length=mr.length+1:=by rw[hmr];rfl
 have hpos: ∀ _:True,(0:Int)<(xs.length:Int):=fun _=>oO
 have g0:(xs.map PV.s).getD 0 .fn0= .s m0:=by rw[hmr];rfl
 refine eW call195 func195 ?_;refine pU ?_;refine ai ?_;refine dH (aN @g0 (hpos oT)) ?_;have hro:[AV.v (PV.s st),AV.v (PV.s l),AV.v (PV.s m0)]=bj PV.s (st::l::xs.take 1):=by rw[hmr];rfl
 rw[hro];clear hro g0 h1 h2 h3;refine af (α:=Nat) (fun j=>xs.length-j) (fun j=>⟨[(2, .v (.sl (xs.map .s))),(7, .rs 1016 j 0 (3+j) 1),(8,E' (j+1))],[(1016,⟨j,bj PV.s (st::l::xs.take (j+1)),true,some 9⟩)],1021⟩) (fun j=>j+1<=xs.length) 0 (fun _=>bZ rfl) oO ?_ ?_
 ·refine lG ?_;all_goals exact fun c hc=>cR hc
 ·intro j hj R hR;have hlr:(st::l::xs.take (j+1)).length=3+j:=by rw[List.length_cons,List.length_cons,bV];omega
  have q0:(bj PV.s (st::l::xs.take (j+1))).length=3+j:=by rw[cz dY.s,hlr,dN]
  have q1:List.take (3+j) (bj PV.s (st::l::xs.take (j+1)))=bj PV.s (st::l::xs.take (j+1)):=cb oO
  by_cases hjt:j+1<xs.length
  ·have e2:=getD_map PV.s xs ([]:Bytes) hjt;have hgo:=hR (j+1) oO oO;rw[aQ ([]:Bytes) hjt,<-List.cons_append,<-List.cons_append,cf]at hgo;generalize xs.getD (j+1) []=y at e2 hgo;have e3: ∀ _:True,((j:Int)+1).toNat=j+1:=fun _=>oO
   clear hR hlr h;refine dH (aN @q0 (aN @q1 (aN @e2 (e3 oT)))) ?_;refine hgo _ ?_
   (refine AS.Le.of (by first|decide|omega) ?_ ?_<;>simp[dy,dx,aO,az,AV.bd,AV.bd.bdL,u8,ar,ax,aA])
   all_goals first|omega|exact⟨rfl,fun c hc=>by rcases hc with hc|⟨a,ha,rfl⟩;exact cR hc;rfl⟩|skip
  ·have hj2:j+1=xs.length:=oO;rw[hj2,ct]at hlr q0 q1⊢;repeat' first|simp only[go_sem,seval,q0,q1]|(refine PK (l:=st::l::xs) (g:=PV.s) (ver:=j) (gr:=true) (el:=some 9) h dY.s rfl (by simp[az]) hlr.symm ?_)|refine oE ?_|apply xX<;>intro hc
   all_goals rfl
theorem xp (st b:Bytes) (hs:st.length<=100000) (vb:aa b=true) (b0:b≠[]) (lb:b.length<=8):aD 196 [.s st, .s b] (.tup [N (iQ st b),E 0]):=by
 have hv:=aK b;rw[vb]at hv;have hbb:(b==([]:Bytes))=false:=by simpa using b0
 have he:aD 313 [.i .i64 0] (.s (be 8 0)):=wa 0 oC;have hp:=Ap 67 (kd:=[67]) rfl [st,be 8 0] (by simp) (by intro s hs';simp at hs';rcases hs' with rfl|rfl;exact hs;simp[cv])
 simp only[br,bK]at hp;have hp:aD 309 [.s [67], .sl [.s st, .s (be 8 0)]] (.s (qC st)):=hp;have hcl:=AG st;have htr:iQ st b=num ((qC st).take (b.length+8))%num b:=rfl;rw[htr];generalize qC st=code at*;have hd1: ∀ _:True,decide ((0:Int)<(b.length:Int)+8)=true:=fun _=>by simp;omega
 have hd2: ∀ _:True,decide ((32:Int)<(b.length:Int)+8)=false:=fun _=>by simp;omega
 have ht8: ∀ _:True,((b.length:Int)+8).toNat=b.length+8:=fun _=>oO
 refine eW call196 func196 ?_;refine nc @hbb @hv ?_;refine ai ?_;refine Px (aN @hbb (aN (hd1 oT) @hcl)) @he @hp ?_;refine ai ?_;refine pV (aN @hbb (aN (hd2 oT) (aN @hcl (ht8 oT)))) @he @hp ?_;have hll:(code.take (b.length+8)).length<=32:=by rw[bV];omega
 generalize code.take (b.length+8)=l0 at hll⊢;have hm0:0<num b:=by
  rcases j6 (num b)with h|h
  ·exact aW (by have:=eE vb;rw[h]at this;injection this with h1;exact h1.symm) b0
  ·exact h
 have hov:=tU (a:=fL l0) (b:=b) (sF l0) (bL vb) hm0 (by have:=Pc l0;omega) oO
 rw[zY]at hov;clear hp he hd1 hd2 ht8 hv;refine af (α:=Bytes) (fun l=>l.length) (fun l=>⟨[(1, .v (.s b)),(6, .v (.s l))],[],_⟩) (fun l=>fL l=fL l0) l0 (fun _=>ay _) rfl ?_ ?_
 ·exact lE
 ·intro l hl R hR
  match l,hl with
  |[],hl=>
   have hl:fL l0=[]:=hl.symm;rw[hl]at hov;clear hR;exact z1 @hov
  |x::r,hl=>
   by_cases hx:x=0
   ·subst hx;have hgo:=hR r (by rw[<-hl];rfl) (by simp)
    clear hR;refine xB ?_;refine hgo _ ?_
    (refine AS.Le.of (by first|decide|omega) ?_ ?_<;>simp[dy,dx,aO,az,AV.bd,AV.bd.bdL,u8,ar,ax,aA])
    all_goals first|omega|skip
   ·have hl:fL l0=x::r:=by rw[<-hl,fL,ae hx]
    rw[hl]at hov;have hx2: ∀ _:True,((x.toNat:Int)==0)=false:=fun _=>by
     simp only[ey,ne_eq];intro h;exact hx (yC (by simp;omega))
    clear hR;exact mi (hx2 oT) @hov
