/- Part of the proof. -/
import Derived.Test.YtkmahpcpmgedkaaGreatDoorFC27
set_option linter.all false
set_option maxHeartbeats 16000000
set_option maxRecDepth 100000
namespace Go.Proofs.Tryz
open Go Go.Dom
theorem zK (k:Nat) {c:Int} (hc:c=IntKind.u8.wrap (k:Int)) (l:List Bytes) (hm:l≠[]) (hn:l.length<=1000) (hb: ∀s∈l,s.length<=100000):aE 267 [.i .u8 c, .sl (l.map .s)] (.s (mn (iT k l))):=by
 have h:=QW k hc [] l hm (by simpa using hn) (by simpa using hb)
 rw[List.nil_append,bR]at h;refine eW call267 func267 ?_;repeat' first|simp only[go_sem,seval]|refine cV h ?_|refine oE ?_|apply xX<;>intro hc
theorem Sm (l:Bytes) (hl:l.length<=100000):aE 156 [.s l] (.s (mj l)):=by
 have h:=zK 78 (c:=78) rfl [l] (by simp) (by simp) (by simp;omega)
 simp only[bC,bR]at h;refine eW call156 func156 ?_;exact z1 @h
theorem xA (st l d:Bytes) (h1:st.length<=100000) (h2:l.length<=100000) (h3:d.length<=100000):aE 155 [.s st, .s l, .s d] (.s (fy st l d)):=by
 have h:=zK 65 (c:=65) rfl [st,l,d] (by simp) (by simp) (by intro s hs;simp at hs;rcases hs with rfl|rfl|rfl<;>assumption)
 simp only[bC,bR]at h;refine eW call155 func155 ?_;exact z1 @h
theorem qx (st l:Bytes) (xs:List Bytes) (h1:st.length<=100000) (h2:l.length<=100000) (h0:xs≠[]) (hn:xs.length<=900) (h3: ∀x∈xs,x.length<=100000):aE 159 [.s st, .s l, .sl (xs.map .s)] (.s (gK st l xs)):=by
 have h:=QV 76 (c:=76) rfl [st,l] xs h0 (by simp;omega) (by intro s hs;simp at hs;rcases hs with rfl|rfl|hs<;>first|assumption|exact h3 s hs)
 simp only[bC,bR]at h;refine eW call159 func159 ?_;exact z1 @h
theorem OZ (st l:Bytes) (n:Bool) (a:Bytes) (h1:st.length<=100000) (h2:l.length<=100000) (h3:a.length<=99999):aE 268 [.s st, .s l, .sl [.agg [.b n, .s a]]] (.s (Dk st l [(n,a)])):=by
 have h:=QU 73 (c:=73) rfl [st,l] n a (by simp) (by intro s hs;simp at hs;rcases hs with rfl|rfl|rfl<;>first|assumption|(simp[ni];omega))
 simp only[bC,bR]at h;refine eW call268 func268 ?_;exact z1 @h
theorem jo:(2^64)+(2^64)<dZ:=by decide+kernel
theorem Td {a b m:Nat} (ha:a<m) (hb:b<m) (hm:m<(2^64)):aE 288 [N a,N b,N m] (N ((a+b)%m)):=by
 have hW:=jo;have h1:=wT (a:=m) (b:=b) oO oO;have h2:=sY (a:=a) (b:=m-b) oO oO
 by_cases hge:m-b<=a
 ·have h3:=wT (a:=a) (b:=m-b) hge oO;have h4: ∀ _:True,(0:Int)<=bc a (m-b):=fun _=>fL.2 hge
  have h5: ∀ _:True,decide (bc a (m-b)>=0)=true:=fun _=>aJ (h4 oT)
  have e:(a+b)%m=a-(m-b):=by rw[show a+b=(a-(m-b))+m by omega,Nat.add_mod_right,b9 oO]
  rw[e];generalize bc a (m-b)=cm at*;refine eW call288 func288 ?_;exact wJ (h5 oT) @h1 @h2 @h3 oT
 ·have h3:=P2 (a:=a) (b:=b) oO;have h4: ∀ _:True,¬(0:Int)<=bc a (m-b):=fun _ h=>hge (fL.1 h)
  have h5: ∀ _:True,decide (bc a (m-b)>=0)=false:=fun _=>aG (h4 oT)
  rw[b9 oO];generalize bc a (m-b)=cm at*;refine eW call288 func288 ?_;exact wJ (h5 oT) @h1 @h2 @h3 oT
theorem BB {a b m:Nat} (ha:a<(2^64)) (hb:b<(2^64)) (hm:m<(2^64)) (h0:0<m):aE 171 [N a,N b,N m] (.tup [N ((a+b)%m),E 0]):=by
 have hc:=fun nm=>Ck nm (aY a) (aY b) (aY m)
 rw[wj ha (vN hb) hm h0]at hc;have hp:=Td (a:=a%m) (b:=b%m) (m:=m) (aL _ h0) (aL _ h0) hm;rw[<-k9]at hp;refine eW call171 func171 ?_;repeat' first|simp only[go_sem,seval]|(refine cu (hc _) (by simp) ?_)|refine cP (l8 ha hm h0) ?_|refine cP (l8 hb hm h0) ?_|refine cP hp ?_|refine oE ?_|apply xX<;>intro hc
abbrev SB:TypeId:=336
theorem AW (st b:Bytes) (hs:st.length<=100000) (vb:aa b=true) (b0:b≠[]) (lb:b.length<=8):aE 160 [.s st, .s b] (.tup [N (iU st b),E 0]):=by
 have hv:=aT b;rw[vb]at hv;have hbb:(b==([]:Bytes))=false:=by simpa using b0
 have w1:=fun nm=>aag SB 1007 nm
 have w2:=fun nm=>UI 1014 nm 0 oC
 have w3:=fun nm=>OY FR 1014 1016 nm 7 (be 8 0) oC oC oC
 have hp:=zK 67 (c:=67) rfl [st,be 8 0] (by simp) (by simp) (by intro s hs';simp at hs';rcases hs' with rfl|rfl;exact hs;simp[cH])
 simp only[bC,bR]at hp;have hp:aE 267 [.i .u8 67, .sl [.s st, .s (be 8 0)]] (.s (qz st)):=hp;have hcl:=Am st;have htr:iU st b=num ((qz st).take (b.length+8))%num b:=rfl;rw[htr];generalize qz st=code at*;have w4:=fun nm=>wsF SB Xz 1007 nm code oO oO
 have w5:=fun nm=>aaf SB 1007 1022 nm 0 code oC
 have w6:=fun nm=>OY SB 1007 1022 nm 0 code oC oO oO
 have hd1: ∀ _:True,decide ((0:Int)<(b.length:Int)+8)=true:=fun _=>by simp;omega
 refine eW call160 func160 ?_;refine oZ @hbb @hv ?_;refine ai ?_;repeat' first|simp only[go_sem,seval,hbb,hd1 oT]|(refine cu (w1 _) (by simp[ay,bF]) ?_)|(refine cu (w2 _) (by simp[ay,bF]) ?_)|(refine cu (w3 _) (by simp[ay]) ?_)|(refine cu (w4 _) (by simp[ay,bF]) ?_)|refine cP hp ?_|refine oE ?_|apply xX<;>intro hc
 refine ai ?_;have hd2: ∀ _:True,decide ((32:Int)<(b.length:Int)+8)=false:=fun _=>by simp;omega
 have ht8: ∀ _:True,((b.length:Int)+8).toNat=b.length+8:=fun _=>oO
 rw[hcl]at w5;repeat' first|simp only[go_sem,seval,hcl,hd2 oT,ht8 oT]|(refine cu (w5 _) (by simp[ay]) ?_)|(refine cu (w6 _) (by simp[ay]) ?_)|refine oE ?_|apply xX<;>intro hc
 have hll:(code.take (b.length+8)).length<=32:=by rw[bL];omega
 generalize code.take (b.length+8)=l at hll⊢;have hm:=eR lb;have hm0:0<num b:=by
  rcases kf (num b)with h|h
  ·exact aM (by have:=eH vb;rw[h]at this;injection this with h1;exact h1.symm) b0
  ·exact h
 have hN:(.s b:PV)=N (num b):=(eH vb).symm;rw[hN];generalize num b=m at*;have h256:aE 63 [.i .u64 256] (N 256):=lH 256 oC;clear w1 w2 w3 w4 w5 w6 hp hd1 hd2 ht8 hv;refine af (α:=Nat) (fun i=>l.length-i) (fun i=>⟨[(1, .v (N m)),(9, .v (N (num (l.take i)%m))),(37, .v (.sl (l.map u8))),(38,E' l.length),(39,E' i)],[],_⟩) (fun i=>i<=l.length) 0 (fun _=>aA _) (aI _) ?_ ?_
 ·(refine AS.Le.of (by first|decide|omega) ?_ ?_<;>simp[dC,dA,aP,ay,AV.bd,AV.bd.bdL,u8,ar,au,az])
  all_goals (rw[show num []=0 from rfl,Nat.zero_mod];rfl)
 ·intro i hi R hR
  by_cases hit:i<l.length
  ·have e2:=getD_map u8 l 0 hit;have hgo:=hR (i+1) oO oO;rw[lr hit]at hgo;have hc:(l.getD i 0).toNat<256:=(l.getD i 0).toNat_lt;have hou:aE 63 [.i .u64 ((l.getD i 0).toNat:Nat)] (N (l.getD i 0).toNat):=lH _ oO;have w1: ∀ _:True,IntKind.u64.wrap (((l.getD i 0).toNat:Nat):Int)=(((l.getD i 0).toNat:Nat):Int):=fun _=>by rw[Ba];omega
   generalize (l.getD i 0)=y at*;generalize num (l.take i)=x at*;have hx:x%m<m:=aL _ hm0;have hx2:x%m*256%m<m:=aL _ hm0;have h1:=ql (a:=x%m) (b:=256) (m:=m) oO oC hm hm0;have h2:=BB (a:=x%m*256%m) (b:=y.toNat) (m:=m) oO oO hm hm0;have e:(x%m*256%m+y.toNat)%m=(x*256+y.toNat)%m:=by
    rw[k9,dY,<-k9,k9 (x%m*256),jM,<-k9]
   rw[e]at h2;clear hR hi e;repeat' first|simp only[go_sem,seval,e2,w1 oT]|refine cP h256 ?_|refine cP h1 ?_|refine cP h2 ?_|refine cP hou ?_|refine oE ?_|apply xX<;>intro hc
   all_goals (refine hgo _ ?_)
   (refine AS.Le.of (by first|decide|omega) ?_ ?_<;>simp[dC,dA,aP,ay,AV.bd,AV.bd.bdL,u8,ar,au,az])
   all_goals first|omega|skip
  ·have h:i=l.length:=oO;rw[h,cd];exact z0
end Go.Proofs.Tryz
namespace Go.Proofs.Tryz
open Go Go.Dom Go.Num
theorem Yd {a b m:Nat} (h0:0<m):(((a:Int)-b)%m).toNat=if b%m=0 then a%m else(a%m+(m-b%m))%m:=by
 have h1:((a:Int)-b)%m=(((a%m:Nat):Int)-((b%m:Nat):Int))%m:=by rw[Int.natCast_emod,Int.natCast_emod,<-Int.sub_emod]
 have hb:=aL b h0;rw[h1];split
 ·rename_i h;rw[h,show(((a%m:Nat):Int)-((0:Nat):Int))=((a%m:Nat):Int) by omega,<-Int.natCast_emod,Int.toNat_natCast,dY]
 ·rw[<-Int.add_emod_right,show(((a%m:Nat):Int)-((b%m:Nat):Int)+(m:Int))=((a%m+(m-b%m):Nat):Int) by omega,<-Int.natCast_emod,Int.toNat_natCast]
theorem ID {a b m:Nat} (ha:a<(2^64)) (hb:b<(2^64)) (hm:m<(2^64)) (h0:0<m):aE 331 [N a,N b,N m] (.tup [N (((a:Int)-b)%m).toNat,E 0]):=by
 have hW:=jo;have hc:=fun nm=>Ck nm (aY a) (aY b) (aY m)
 rw[wj ha (vN hb) hm h0]at hc;have r1:=l8 ha hm h0;have r2:=l8 hb hm h0;have hlb:=aL b h0;rw[Yd h0]
 by_cases hz:b%m=0
 ·rw[ah hz];rw[hz]at r2;have z0:(aY 0==([]:Bytes))=true:=by decide
  refine eW call331 func331 ?_;repeat' first|simp only[go_sem,seval,z0]|(refine cu (hc _) (by simp) ?_)|refine cP r1 ?_|refine cP r2 ?_|refine oE ?_|apply xX<;>intro hc
 ·rw[ae hz];have hs:=wT (a:=m) (b:=b%m) oO oO;have hp:=Td (a:=a%m) (b:=m-b%m) (m:=m) (aL _ h0) oO hm;have en:(aY (b%m)==([]:Bytes))=false:=si oO;refine eW call331 func331 ?_;repeat' first|simp only[go_sem,seval,en]|(refine cu (hc _) (by simp) ?_)|refine cP r1 ?_|refine cP r2 ?_|refine cP hs ?_|refine cP hp ?_|refine oE ?_|apply xX<;>intro hc
end Go.Proofs.Tryz
namespace Go.Proofs.Tryz
open Go Go.Dom
theorem Pb (l:List Nat) {i:Nat} (h:i<l.length):(wl l).getD i .fn0= .i .u32 (l.getD i 0:Nat):=by
 simp[wl,br,h]
theorem Pa (l:List Nat):List.map AV.v (List.flatMap PV.cells (wl l))=aB .u32 l:=by
 unfold wl aB
 induction l with
 |nil=>rfl
 |cons x l ih=>rw[bC,eu,jv,ih,bC];rfl
theorem tH {st:List Nat} (hs:st.length=8) {blk:Bytes} (hb:blk.length=64):aE 459 [.sl (wl st), .s blk] (.sl (wl (ru st blk))):=by
 have hc:=AP;have hd:=C5 hb;have k0:(wl st).length=8:=by rw[qA,hs]
 have k1:(wl pZ).length=64:=rfl;have k2:(wl (sched blk)).length=64:=by rw[qA,mH]
 refine eW call459 func459 ?_;refine qC (aN @k0 (aN @k1 (aN @k2 @Pa))) @hc @hd ?_;refine⟨⟨fun x hx=>by obtain⟨c,-,rfl⟩:=bm.1 hx;rfl,fun y hy=>by obtain⟨c,-,rfl⟩:=bm.1 hy;rfl⟩,?_⟩
 refine af (α:=Nat×Nat×Bool×List Nat×Nat) (fun p=>64-p.2.2.2.2) (fun p=>⟨[(0, .v (.sl (wl st))),(5, .v (.sl (wl (sched blk)))),(6, .v (.sl (wl pZ))),(7, .rs (p.1+1006) p.2.1 0 8 1),(8,E' p.2.2.2.2)],[(p.1+1006,⟨p.2.1,aB .u32 p.2.2.2.1,p.2.2.1,none⟩)],p.1+1011⟩) (fun p=>p.2.2.2.1.length=8/\p.2.2.2.2<=64/\vP (sched blk) (64-p.2.2.2.2) p.2.2.2.1=vP (sched blk) 64 st) (0,1,true,st,0) (fun _=>Nat.le_add_left _ _) ⟨hs,aI _,rfl⟩ ?_ ?_
 ·exact lE
 ·rintro⟨k,ver,gr,v,i⟩ ⟨hv,hi,he⟩ R hR;have hv:v.length=8:=hv;have hi:i<=64:=hi;have he:vP (sched blk) (64-i) v=vP (sched blk) 64 st:=he;obtain⟨a,b,c,d,e,f,g,h,rfl⟩:=Wy hv
  by_cases hlt:i<64
  ·have hgo:=fun k'=>hR (k',0,false,OL (pZ.getD i 0) ((sched blk).getD i 0) [a,b,c,d,e,f,g,h],i+1) ⟨rfl,hlt,by
    rw[show 64-i=(64-(i+1))+1 by omega,vP,show 63-(64-(i+1))=i by omega]at he;exact he⟩ (by simp;omega)
   have gk:(wl pZ).getD i .fn0= .i .u32 (pZ.getD i 0:Nat):=Pb _ (by exact hlt)
   have gw:(wl (sched blk)).getD i .fn0= .i .u32 ((sched blk).getD i 0:Nat):=Pb _ (by rw[mH];exact hlt)
   have r6:=jj e 6 oC oC;have r11:=jj e 11 oC oC;have r25:=jj e 25 oC oC;have r2:=jj a 2 oC oC;have r13:=jj a 13 oC oC;have r22:=jj a 22 oC oC;simp only[Tj,Tk,Tl,Zd]at hgo⊢;generalize pZ.getD i 0=ki at hgo gk;generalize (sched blk).getD i 0=wi at hgo gw;clear hR he hv;repeat' first|simp only[go_sem,seval,k1,k2,gk,gw,qe,Wz,Zc]|refine cP r6 ?_|refine cP r11 ?_|refine cP r25 ?_|refine cP r2 ?_|refine cP r13 ?_|refine cP r22 ?_|(refine And.intro (show Po _ _=true from rfl) ?_)|refine oE ?_|apply xX<;>intro hc
   have hgo:=hgo (k+98);simp only[show k+98+1006=k+1011+2+24+32+21+14 by omega]at hgo
   refine hgo _ ?_
   (refine AS.Le.of (by first|decide|omega) ?_ ?_<;>simp[dC,dA,aP,ay,AV.bd,AV.bd.bdL,u8,ar,au,az])
   all_goals first|omega|(erw [U6 e];simp only[Zc,Wz,qe,and_self])
  ·have hl:i=64:=oO;subst hl;have he:[a,b,c,d,e,f,g,h]=vP (sched blk) 64 st:=he;have hw:ru st blk=List.zipWith ad [a,b,c,d,e,f,g,h] st:=by rw[ru,<-he]
   rw[hw];clear hR he hv hw;obtain⟨s0,s1,s2,s3,s4,s5,s6,s7,rfl⟩:=Wy hs;simp only[Zd];have w8:wl [s0,s1,s2,s3,s4,s5,s6,s7]=[.i .u32 (s0:Int), .i .u32 (s1:Int), .i .u32 (s2:Int), .i .u32 (s3:Int), .i .u32 (s4:Int), .i .u32 (s5:Int), .i .u32 (s6:Int), .i .u32 (s7:Int)]:=rfl;repeat' first|simp only[go_sem,seval,k1,k2,qe,w8]|(refine And.intro (show Po _ _=true from rfl) ?_)|(refine ai ?_)|refine oE ?_|apply xX<;>intro hc
   all_goals rfl
theorem RY {s:Bytes} (hs:s.length<1000000000):aE 407 [.s s] (.s (mn s)):=by
 have hp:=Hd hs;have hL:(pad s).length=(pad s).length/64*64:=NU s;have hL0:64<=(pad s).length:=by rw[CX]at hL⊢;omega
 have hL1:(pad s).length<2000000000:=by rw[CX];omega
 have hsum:mn s=(om ((pad s).length/64) (pad s) oW).flatMap Vy:=rfl;rw[hsum];obtain⟨l,hl⟩: ∃l,l=pad s:=⟨_,rfl⟩;rw[<-hl]at hp hL hL0 hL1⊢;have hc:=tH (st:=oW) rfl (blk:=l.take 64) (by rw[bL];omega)
 have hlt: ∀ _:True,((0:Int)<(l.length:Int))=True:=fun _=>by simp;omega
 refine eW call407 func407 ?_;refine WA @hp ?_;refine ai ?_;have h00: ∀ _:True,decide ((0:Int)<(l.length:Int))=true:=fun _=>by simp;omega
 have h01: ∀ _:True,(0:Int)<(l.length:Int):=fun _=>oO
 repeat' first|simp only[go_sem,seval,h00 oT,h01 oT]|(refine lf [1001] hc rfl rfl rfl ?_)|refine oE ?_|apply xX<;>intro hc
 have e0:om (l.length/64) l oW=om ((l.length-64)/64) (l.drop 64) (ru oW (l.take 64)):=by
  rw[show l.length/64=(l.length-64)/64+1 by omega,om]
 rw[e0];have hst0:(ru oW (l.take 64)).length=8:=oV _ rfl;obtain⟨st0,hs0⟩: ∃x,x=ru oW (l.take 64):=⟨_,rfl⟩;rw[<-hs0]at hst0⊢;refine af (α:=Nat×List Nat) (fun p=>l.length-p.1) (fun p=>⟨[(3, .v (.sl (wl p.2))),(4, .v (.s l)),(5,E' p.1)],[],_⟩) (fun p=>p.1<=l.length/\l.length-p.1=(l.length-p.1)/64*64/\p.2.length=8/\om ((l.length-p.1)/64) (l.drop p.1) p.2=om ((l.length-64)/64) (l.drop 64) st0) (64,st0) (fun _=>aA _) ⟨hL0,oO,hst0,rfl⟩ ?_ ?_
 ·exact lE
 ·rintro⟨o,st⟩ ⟨ho,hr,hst,he⟩ R hR;have ho:o<=l.length:=ho;have hr:l.length-o=(l.length-o)/64*64:=hr;have hst:st.length=8:=hst;have he:om ((l.length-o)/64) (l.drop o) st=om ((l.length-64)/64) (l.drop 64) st0:=he
  by_cases hlt:o<l.length
  ·have f1:o+64<=l.length:=oO;have f2:l.length-(o+64)=(l.length-(o+64))/64*64:=oO;have hgo:=hR (o+64,ru st ((l.drop o).take 64)) ⟨f1,f2,oV _ hst,by
    rw[show(l.length-o)/64=(l.length-(o+64))/64+1 by omega,om,xB]at he
    exact he⟩ (by simp;omega)
   have hx:(l.take (o+64)).drop o=(l.drop o).take 64:=by rw[tZ];congr 1;omega
   have hc:=tH hst (blk:=(l.drop o).take 64) (by rw[bL,lC];omega)
   clear hR he hr h00 h01 e0;have t64: ∀ _:True,((o:Int)+64).toNat=o+64:=fun _=>oO
   repeat' first|simp only[go_sem,seval,hx,t64 oT]|refine cP hc ?_|refine oE ?_|apply xX<;>intro hc
   all_goals try refine⟨oO,?_⟩
   refine hgo _ ?_
   (refine AS.Le.of (by first|decide|omega) ?_ ?_<;>simp[dC,dA,aP,ay,AV.bd,AV.bd.bdL,u8,ar,au,az])
   all_goals first|omega|skip
  ·have hl:o=l.length:=oO;have he:st=om ((l.length-64)/64) (l.drop 64) st0:=by rw[<-he,hl,fC];rfl
   rw[<-he];clear hR he;obtain⟨a,b,c,d,e,f,g,i,rfl⟩:=Wy hst;have w8:wl [a,b,c,d,e,f,g,i]=[.i .u32 (a:Int), .i .u32 (b:Int), .i .u32 (c:Int), .i .u32 (d:Int), .i .u32 (e:Int), .i .u32 (f:Int), .i .u32 (g:Int), .i .u32 (i:Int)]:=rfl;rw[w8];exact Wp (aN @y9 (aN @pR (aN @Gu @Mf)))
theorem ZO (n:Nat):PV.isByte (.i .u8 (IntKind.u8.wrap (n:Int)))=True:=by
 simp[PV.isByte,qZ]
theorem ZC (n:Nat):PV.byte (.i .u8 (IntKind.u8.wrap (n:Int)))=UInt8.ofNat n:=pR n
theorem vH (n:Nat) (hn:n<4611686018427387904):aE 313 [.i .i64 (n:Int)] (.s (be 8 n)):=by
 refine eW call313 func313 ?_;repeat' first|simp only[go_sem,seval,ZO,ZC,Gu,Mf,eS,Nat.reduceMul]|(refine ai ?_)|refine oE ?_|apply xX<;>intro hc
 simp only[be,Nat.reducePow,Nat.pow_zero,iW]
theorem Og {kd:Bytes} (hk:kd.length=1) (l:List Bytes) (hn:l.length<=1000) (hb: ∀s∈l,s.length<=100000):aE 309 [.s kd, .sl (l.map .s)] (.s (mn (kd++be 8 l.length++dq l))):=by
 have h0:=vH l.length oO;have hPb: ∀i,i<=l.length->(kd++be 8 l.length++dq (l.take i)).length<=9+i*100008:=fun i hi=>by
  have h1:=pg (l.take i) (n:=100000) fun s hs=>hb s (gS hs)
  rw[bL,kj hi]at h1;rw[bT,bT,hk,cH];omega
 have hkl:(be 8 l.length).length=8:=cH _ _;refine eW call309 func309 ?_;refine oZ (aN @hk @hkl) @h0 ?_;refine af (α:=Nat) (fun i=>l.length-i) (fun i=>⟨[(1, .v (.sl (l.map .s))),(5, .v (.s (kd++be 8 l.length++dq (l.take i)))),(6,E' i)],[],_⟩) (fun i=>i<=l.length) 0 (fun _=>aA _) (aI _) ?_ ?_
 ·(refine AS.Le.of (by first|decide|omega) ?_ ?_<;>simp[dC,dA,aP,ay,AV.bd,AV.bd.bdL,u8,ar,au,az])
  all_goals rfl
 ·intro i hi R hR
  by_cases hit:i<l.length
  ·have e2:=getD_map PV.s l ([]:Bytes) hit;have hgo:=hR (i+1) oO oO;have hbs:=hb (l.getD i []) (an [] hit);have hPi:=hPb i hi;rw[aS ([]:Bytes) hit,nJ,<-fI]at hgo;generalize l.getD i []=y at e2 hgo hbs;generalize hB:kd++be 8 l.length++dq (l.take i)=B at hgo hPi⊢;have h1:=vH y.length oO;have hyl:(be 8 y.length).length=8:=cH _ _;have hBl:B.length+(8+y.length)<=9223372036854775807:=oO;clear hR hPb hb hkl h0;refine jm (aN @e2 @hyl) @h1 ?_;refine⟨by rw[bT,hyl];exact hBl,rfl,hgo _ ?_⟩
   (refine AS.Le.of (by first|decide|omega) ?_ ?_<;>simp[dC,dA,aP,ay,AV.bd,AV.bd.bdL,u8,ar,au,az])
   all_goals first|omega|skip
  ·have h:i=l.length:=oO;rw[h,cd];have hl2:=hPb l.length (aA _);rw[cd]at hl2;generalize kd++be 8 l.length++dq l=B at hl2⊢;have hs:=RY (s:=B) oO;exact z1 @hs
theorem zY (k:Nat) {kd:Bytes} (hk:kd=[UInt8.ofNat k]) (l:List Bytes) (hn:l.length<=1000) (hb: ∀s∈l,s.length<=100000):aE 309 [.s kd, .sl (l.map .s)] (.s (mn (iT k l))):=by
 have h:=Og (kd:=kd) (by rw[hk];rfl) l hn hb
 rw[hk,fI]at h;rw[hk];exact h
theorem Pw {P:Program} [cG P] {Q:AX->AS->Prop} {nx:Nat} {bf:Option (List Nat)} {nn:Nat} {d:Option Nat} {ops:List kB} {k:Nat} {s:AS} {tr:List (Nat×List Nat×List Nat)} {K:List Fr} {nm:Nat} {f:FuncId} {α:Type} {g:α->PV} {z n ver m:Nat} {l:List α} {gr:Bool} {el:Option TypeId} {x r:PV}
  (he:rv P f [x, .sl (l.map g)] r) (hrow:dL g z) (hr:r.flat=true) (hg:ay s.h n=some ⟨ver,aX g l,gr,el⟩) (hm:m=l.length) (hK:RW P Q nx bf nn ops (k+1) (s.tU d (.v r) []) (At bf k [n] [] tr) K):
  CR P Q nx bf nn nm (.v (.fn (.func f))) [.v x, .rs n ver 0 m z] d ops k s tr K:=by
 refine o5 he ?_ hr ?_
 ·simp[bz,qV hrow hm hg];rfl
 ·have:[AV.v x,AV.rs n ver 0 m z].flatMap (aU (ay s.h) 9)=[n]:=by simp[pC hrow hm hg];rfl
  rw[this];exact hK
theorem RV (l:Bytes) (hl:l.length<=100000):aE 192 [.s l] (.s (mj l)):=by
 have h:=zY 78 (kd:=[78]) rfl [l] (by simp) (by simp;omega)
 simp only[bC,bR]at h;refine eW call192 func192 ?_;exact z1 @h
theorem qP (st l d:Bytes) (h1:st.length<=100000) (h2:l.length<=100000) (h3:d.length<=100000):aE 191 [.s st, .s l, .s d] (.s (fy st l d)):=by
 have h:=zY 65 (kd:=[65]) rfl [st,l,d] (by simp) (by intro s hs;simp at hs;rcases hs with rfl|rfl|rfl<;>assumption)
 simp only[bC,bR]at h;refine eW call191 func191 ?_;exact z1 @h
theorem Ha (st l:Bytes) (n:Bool) (a:Bytes) (h1:st.length<=100000) (h2:l.length<=100000) (h3:a.length<=99999):aE 310 [.s st, .s l, .sl [.agg [.b n, .s a]]] (.s (Dk st l [(n,a)])):=by
 have h:=zY 73 (kd:=[73]) rfl [st,l,ni (n,a)] (by simp) (by intro s hs;simp at hs;rcases hs with rfl|rfl|rfl<;>first|assumption|(simp[ni];omega))
 cases n;all_goals simp only[ni,bC,bR]at h
 refine eW call310 func310 ?_;repeat' first|simp only[go_sem,seval]|refine cV h ?_|(refine ai ?_)|refine oE ?_|apply xX<;>intro hc
 all_goals try rfl
 refine eW call310 func310 ?_;repeat' first|simp only[go_sem,seval]|refine cV h ?_|(refine ai ?_)|refine oE ?_|apply xX<;>intro hc
 all_goals try rfl
theorem mW (st l:Bytes) (xs:List Bytes) (h1:st.length<=100000) (h2:l.length<=100000) (h0:xs≠[]) (hn:xs.length<=900) (h3: ∀x∈xs,x.length<=100000):aE 195 [.s st, .s l, .sl (xs.map .s)] (.s (gK st l xs)):=by
 have h:=zY 76 (kd:=[76]) rfl (st::l::xs) (by simp;omega) (by intro s hs;simp at hs;rcases hs with rfl|rfl|hs<;>first|assumption|exact h3 s hs)
 obtain⟨m0,mr,hmr⟩: ∃m0 mr,xs=m0::mr:=by cases xs with
  |nil=>exact aM rfl h0
  |cons a b=>exact⟨a,b,rfl⟩
 have hml:xs.length=mr.length+1:=by rw[hmr];rfl
 have hpos: ∀ _:True,(0:Int)<(xs.length:Int):=fun _=>oO
 have g0:(xs.map PV.s).getD 0 .fn0= .s m0:=by rw[hmr];rfl
 refine eW call195 func195 ?_;refine qB ?_;refine ai ?_;refine dI (aN @g0 (hpos oT)) ?_;have hro:[AV.v (PV.s st),AV.v (PV.s l),AV.v (PV.s m0)]=aX PV.s (st::l::xs.take 1):=by rw[hmr];rfl
 rw[hro];clear hro g0 h1 h2 h3;refine af (α:=Nat) (fun j=>xs.length-j) (fun j=>⟨[(2, .v (.sl (xs.map .s))),(7, .rs 1016 j 0 (3+j) 1),(8,E' (j+1))],[(1016,⟨j,aX PV.s (st::l::xs.take (j+1)),true,some 9⟩)],1021⟩) (fun j=>j+1<=xs.length) 0 (fun _=>bQ rfl) oO ?_ ?_
 ·refine lG ?_;all_goals exact fun c hc=>cL hc
 ·intro j hj R hR;have hlr:(st::l::xs.take (j+1)).length=3+j:=by rw[List.length_cons,List.length_cons,bL];omega
  have q0:(aX PV.s (st::l::xs.take (j+1))).length=3+j:=by rw[cj dL.s,hlr,db]
  have q1:List.take (3+j) (aX PV.s (st::l::xs.take (j+1)))=aX PV.s (st::l::xs.take (j+1)):=cl oO
  by_cases hjt:j+1<xs.length
  ·have e2:=getD_map PV.s xs ([]:Bytes) hjt;have hgo:=hR (j+1) oO oO;rw[aS ([]:Bytes) hjt,<-List.cons_append,<-List.cons_append,bU]at hgo;generalize xs.getD (j+1) []=y at e2 hgo;have e3: ∀ _:True,((j:Int)+1).toNat=j+1:=fun _=>oO
   clear hR hlr h;refine dI (aN @q0 (aN @q1 (aN @e2 (e3 oT)))) ?_;refine hgo _ ?_
   (refine AS.Le.of (by first|decide|omega) ?_ ?_<;>simp[dC,dA,aP,ay,AV.bd,AV.bd.bdL,u8,ar,au,az])
   all_goals first|omega|exact⟨rfl,fun c hc=>by rcases hc with hc|⟨a,ha,rfl⟩;exact cL hc;rfl⟩|skip
  ·have hj2:j+1=xs.length:=oO;rw[hj2,cd]at hlr q0 q1⊢;repeat' first|simp only[go_sem,seval,q0,q1]|(refine Pw (l:=st::l::xs) (g:=PV.s) (ver:=j) (gr:=true) (el:=some 9) h dL.s rfl (by simp[ay]) hlr.symm ?_)|refine oE ?_|apply xX<;>intro hc
   all_goals rfl
theorem wP (st b:Bytes) (hs:st.length<=100000) (vb:aa b=true) (b0:b≠[]) (lb:b.length<=8):aE 196 [.s st, .s b] (.tup [N (iU st b),E 0]):=by
 have hv:=aK b;rw[vb]at hv;have hbb:(b==([]:Bytes))=false:=by simpa using b0
 have he:aE 313 [.i .i64 0] (.s (be 8 0)):=vH 0 oC;have hp:=zY 67 (kd:=[67]) rfl [st,be 8 0] (by simp) (by intro s hs';simp at hs';rcases hs' with rfl|rfl;exact hs;simp[cH])
 simp only[bC,bR]at hp;have hp:aE 309 [.s [67], .sl [.s st, .s (be 8 0)]] (.s (qz st)):=hp;have hcl:=Am st;have htr:iU st b=num ((qz st).take (b.length+8))%num b:=rfl;rw[htr];generalize qz st=code at*;have hd1: ∀ _:True,decide ((0:Int)<(b.length:Int)+8)=true:=fun _=>by simp;omega
 have hd2: ∀ _:True,decide ((32:Int)<(b.length:Int)+8)=false:=fun _=>by simp;omega
 have ht8: ∀ _:True,((b.length:Int)+8).toNat=b.length+8:=fun _=>oO
 refine eW call196 func196 ?_;refine oZ @hbb @hv ?_;refine ai ?_;refine HH (aN @hbb (aN (hd1 oT) @hcl)) @he @hp ?_;refine ai ?_;refine qC (aN @hbb (aN (hd2 oT) (aN @hcl (ht8 oT)))) @he @hp ?_;have hll:(code.take (b.length+8)).length<=32:=by rw[bL];omega
 generalize code.take (b.length+8)=l0 at hll⊢;have hm0:0<num b:=by
  rcases kf (num b)with h|h
  ·exact aM (by have:=eH vb;rw[h]at this;injection this with h1;exact h1.symm) b0
  ·exact h
 have hov:=tJ (a:=fF l0) (b:=b) (sE l0) (bJ vb) hm0 (by have:=O5 l0;omega) oO
 rw[zE]at hov;clear hp he hd1 hd2 ht8 hv;refine af (α:=Bytes) (fun l=>l.length) (fun l=>⟨[(1, .v (.s b)),(6, .v (.s l))],[],_⟩) (fun l=>fF l=fF l0) l0 (fun _=>aA _) rfl ?_ ?_
 ·exact lE
 ·intro l hl R hR
  match l,hl with
  |[],hl=>
   have hl:fF l0=[]:=hl.symm;rw[hl]at hov;clear hR;exact z1 @hov
  |x::r,hl=>
   by_cases hx:x=0
   ·subst hx;have hgo:=hR r (by rw[<-hl];rfl) (by simp)
    clear hR;refine wV ?_;refine hgo _ ?_
    (refine AS.Le.of (by first|decide|omega) ?_ ?_<;>simp[dC,dA,aP,ay,AV.bd,AV.bd.bdL,u8,ar,au,az])
    all_goals first|omega|skip
   ·have hl:fF l0=x::r:=by rw[<-hl,fF,ae hx]
    rw[hl]at hov;have hx2: ∀ _:True,((x.toNat:Int)==0)=false:=fun _=>by
     simp only[fk,ne_eq];intro h;exact hx (xP (by simp;omega))
    clear hR;exact m9 (hx2 oT) @hov
