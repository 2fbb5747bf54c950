/-
  Part of the proof, part KC40. Own work.
-/
import Derived.Test.YtmobkhegihemeaaGreatDoorKC39
set_option linter.all false
namespace Go.Proofs.YtmobkhegihemeaaGreatDoor
open Go Go.Dom Go.Num
set_option maxRecDepth 100000
set_option maxHeartbeats 16000000
theorem Sh {a b m:Nat} (ha:a<18446744073709551616) (hb:b<18446744073709551616) (hm:m<18446744073709551616) (h0:0<m):aD Tryz.prog 302 [N a,N b,N m] (.tup [N ((a+b)%m),E 0]):=by
 have w2:=iS;have hW:=jI;have hc:=FQ (aP a) (aP b) (aP m);rw[sT ha (vN hb) hm h0]at hc;have d1:=hO (a:=a) (m:=m) (by omega) (by omega) h0
 have d2:=hO (a:=b) (m:=m) (by omega) (by omega) h0
 have l1:=aG a h0;have l2:=aG b h0;have hs:=FP (a:=a%m) (b:=b%m) (by omega)
 have d3:=hO (a:=a%m+b%m) (m:=m) (by omega) (by omega) h0
 rw[←jA]at d3;refine eW Tryz.call302 Tryz.func302 ?_;repeat' first|simp only[go_sem,seval]|refine cP hc ?_|refine cP d1 ?_|refine cP d2 ?_|refine cP hs ?_|refine cP d3 ?_|refine sB ?_|(first|apply pX|apply bX)<;>intro hc|refine⟨oD,?_⟩|exact oD|fail
theorem Si {a b m:Nat} (ha:a<18446744073709551616) (hb:b<18446744073709551616) (hm:m<18446744073709551616) (h0:0<m):aD Tryz.prog 303 [N a,N b,N m] (.tup [N (((a:Int)-b)%m).toNat,E 0]):=by
 have w2:=iS;have hW:=jI;have hc:=FQ (aP a) (aP b) (aP m);rw[sT ha (vN hb) hm h0]at hc;have d1:=hO (a:=a) (m:=m) (by omega) (by omega) h0
 have d2:=hO (a:=b) (m:=m) (by omega) (by omega) h0
 have l1:=aG a h0;have l2:=aG b h0;have hs:=FP (a:=a%m) (b:=m) (by omega)
 have hu:=FW (a:=a%m+m) (b:=b%m) (by omega) (by omega)
 have d3:=hO (a:=a%m+m-b%m) (m:=m) (by omega) (by omega) h0
 have e:(a%m+m-b%m)%m=(((a:Int)-b)%m).toNat:=by
  rw[Ui h0];split
  ·rename_i h;rw[h,Nat.sub_zero,Nat.add_mod_right,dt]
  ·rw[Nat.add_sub_assoc (by omega)]
 rw[e]at d3;refine eW Tryz.call303 Tryz.func303 ?_;repeat' first|simp only[go_sem,seval]|refine cP hc ?_|refine cP d1 ?_|refine cP d2 ?_|refine cP hs ?_|refine cP hu ?_|refine cP d3 ?_|refine sB ?_|(first|apply pX|apply bX)<;>intro hc|refine⟨oD,?_⟩|exact oD|fail
theorem DZ {a b q:Nat} (ha:a<18446744073709551616) (hb:b<18446744073709551616) (hq:q<18446744073709551616) (h0:0<q):aD Tryz.prog 225 [N q,N a,N b] (N ((a+b)%q)):=by
 have h:=Sh ha hb hq h0;refine eW Tryz.call225 Tryz.func225 ?_;repeat' first|simp only[go_sem,seval]|refine cP h ?_|refine sB ?_|(first|apply pX|apply bX)<;>intro hc|refine⟨oD,?_⟩|exact oD|fail
theorem KK {a b q:Nat} (ha:a<18446744073709551616) (hb:b<18446744073709551616) (hq:q<18446744073709551616) (h0:0<q):aD Tryz.prog 227 [N q,N a,N b] (N (((a:Int)-b)%q).toNat):=by
 have h:=Si ha hb hq h0;refine eW Tryz.call227 Tryz.func227 ?_;repeat' first|simp only[go_sem,seval]|refine cP h ?_|refine sB ?_|(first|apply pX|apply bX)<;>intro hc|refine⟨oD,?_⟩|exact oD|fail
theorem wV {a b q:Nat} (ha:a<18446744073709551616) (hb:b<18446744073709551616) (hq:q<18446744073709551616) (h0:0<q):aD Tryz.prog 226 [N q,N a,N b] (N (a*b%q)):=by
 have h:=Pz ha hb hq h0;refine eW Tryz.call226 Tryz.func226 ?_;repeat' first|simp only[go_sem,seval]|refine cP h ?_|refine sB ?_|(first|apply pX|apply bX)<;>intro hc|refine⟨oD,?_⟩|exact oD|fail
theorem Sg {a b q:Nat} (ha:a<18446744073709551616) (hb:b<18446744073709551616) (hq:q<18446744073709551616) (h0:0<q) (hg:Nat.gcd b q=1):aD Tryz.prog 228 [N q,N a,N b] (N (a*eV b q%q)):=by
 have h:=tc hb hq h0 hg;have hi:=(fA h0 hg).inv.1;have hm:=wV ha (b:=eV b q) (by omega) hq h0
 refine eW Tryz.call228 Tryz.func228 ?_;repeat' first|simp only[go_sem,seval]|refine cP h ?_|refine cP hm ?_|refine sB ?_|(first|apply pX|apply bX)<;>intro hc|refine⟨oD,?_⟩|exact oD|fail
theorem KL {l:List Bytes} (hv: ∀x∈l,aa x=true) (hl:l.length<1000000):aD Tryz.prog 222 [.sl (l.map .s)] (.b true):=by
 have l5:(l.map PV.s).length=l.length:=aH ..;refine eW Tryz.call222 Tryz.func222 ?_;repeat' first|simp only[go_sem,seval]|refine sB ?_|(first|apply pX|apply bX)<;>intro hc|refine⟨oD,?_⟩|exact oD|fail
 refine aj (α:=Nat) (fun i=>l.length-i) (fun i=>⟨[(0, .v (.sl (l.map .s))),(3,E' i)],[],_⟩) (fun i=>i≤l.length) 0 (fun _=>au _) (aL _) ?_ ?_
 ·exact lE
 ·intro i hi R hR
  by_cases hlt:i<l.length
  ·have e1:=eA hlt;have hgo:=hR (i+1) (by omega) (by omega)
   have vx:=aO (l.getD i []);rw[hv _ (ay [] hlt)]at vx;generalize l.getD i []=x at*;clear hR;repeat' first|simp only[go_sem,seval,l5,e1]|refine cP vx ?_|refine sB ?_|(first|apply pX|apply bX)<;>intro hc|refine⟨oD,?_⟩|exact oD|fail
   refine hgo _ ?_;exact lE
  ·obtain rfl:i=l.length:=by omega
   repeat' first|simp only[go_sem,seval,l5]|refine sB ?_|(first|apply pX|apply bX)<;>intro hc|refine⟨oD,?_⟩|exact oD|fail
   all_goals rfl
theorem KI {q:Bytes} (vq:aa q=true) {l:List Bytes} (hv: ∀x∈l,aa x=true∧num x<num q) (hl:l.length<1000000):aD Tryz.prog 224 [.s q, .sl (l.map .s)] (.b true):=by
 have l5:(l.map PV.s).length=l.length:=aH ..;refine eW Tryz.call224 Tryz.func224 ?_;repeat' first|simp only[go_sem,seval]|refine sB ?_|(first|apply pX|apply bX)<;>intro hc|refine⟨oD,?_⟩|exact oD|fail
 refine aj (α:=Nat) (fun i=>l.length-i) (fun i=>⟨[(0, .v (.s q)),(1, .v (.sl (l.map .s))),(5,E' i)],[],_⟩) (fun i=>i≤l.length) 0 (fun _=>au _) (aL _) ?_ ?_
 ·exact lE
 ·intro i hi R hR
  by_cases hlt:i<l.length
  ·have e1:=eA hlt;have hgo:=hR (i+1) (by omega) (by omega)
   obtain⟨vx,lx⟩:=hv _ (ay [] hlt);have hc:=tU (l.getD i []) q;rw[vx,vq]at hc;simp only[dh,if_true]at hc;generalize l.getD i []=x at*;have hg:=Pk (num x) (num q);rw[decide_eq_true lx]at hg;generalize a6 (num x) (num q)=cm at*;clear hR;repeat' first|simp only[go_sem,seval,l5,e1,hg]|refine cP hc ?_|refine sB ?_|(first|apply pX|apply bX)<;>intro hc|refine⟨oD,?_⟩|exact oD|fail
   refine hgo _ ?_;exact lE
  ·obtain rfl:i=l.length:=by omega
   repeat' first|simp only[go_sem,seval,l5]|refine sB ?_|(first|apply pX|apply bX)<;>intro hc|refine⟨oD,?_⟩|exact oD|fail
   all_goals rfl
theorem KJ {q:Nat} (hq:q<18446744073709551616) (hp:dS q=true):aD Tryz.prog 223 [N q] (E 0):=by
 have h:=D6 (aP q) (by have:=lN hq;omega)
 rw[vN hq,decide_eq_true (lN hq),aK,hp,if_pos rfl,if_pos (lN hq)]at h;simp only[dh]at h;refine eW Tryz.call223 Tryz.func223 ?_;repeat' first|simp only[go_sem,seval]|refine cP h ?_|refine sB ?_|(first|apply pX|apply bX)<;>intro hc|refine⟨oD,?_⟩|exact oD|fail
 all_goals rfl
theorem KM {q:Nat} (hq:q<18446744073709551616) (h0:0<q) {cs:List Nat} (hc: ∀c∈cs,c<18446744073709551616) {x:Nat} (hx:x<18446744073709551616) (hl:cs.length<1000000):aD Tryz.prog 142 [N q, .sl (cs.map cA),N x] (N (tO q (nI cs) x).toNat):=by
 have l5:(cs.map cA).length=cs.length:=aH ..;have hw: ∀ _:True,IntKind.i64.wrap ((cs.length:Int)-1)=(cs.length:Int)-1:=fun _=>IntWalk.i64_in _ (by omega)
 refine eW Tryz.call142 Tryz.func142 ?_;repeat' first|simp only[go_sem,seval,l5,hw trivial]|refine sB ?_|(first|apply pX|apply bX)<;>intro hc|refine⟨oD,?_⟩|exact oD|fail
 refine aj (α:=Nat) (fun k=>k) (fun k=>⟨[(0, .v (N q)),(1, .v (.sl (cs.map cA))),(2, .v (N x)),(7, .v (N (tO q ((nI cs).drop k) x).toNat)),(8, .v (.i .i64 ((k:Int)-1)))],[],_⟩) (fun k=>k≤cs.length) cs.length (fun _=>au _) (au _) ?_ ?_
 ·have e:(nI cs).drop cs.length=[]:=gS (by rw[pB];exact au _)
  have e2:N (tO q ((nI cs).drop cs.length) x).toNat= .s []:=by rw[e];exact congrArg PV.s Tr
  rw[e2];exact lE
 ·intro k hk R hR
  cases k with
  |zero=>
   rw[nJ];repeat' first|simp only[go_sem,seval]|refine sB ?_|(first|apply pX|apply bX)<;>intro hc|refine⟨oD,?_⟩|exact oD|fail
  |succ k=>
   have hgo:=hR k (by omega) (by omega)
   rw[JK h0 cs x (by omega)]at hgo
   have hb:=vR (q:=q) (by omega) x ((nI cs).drop (k+1))
   have e1: ∀ _:True,((k+1:Nat):Int)-1=(k:Int):=fun _=>by omega
   have hge: ∀ _:True,decide ((k:Int)≥0)=true:=fun _=>by simp
   have hwk: ∀ _:True,IntKind.i64.wrap ((k:Int)-1)=(k:Int)-1:=fun _=>IntWalk.i64_in _ (by omega)
   have e2:=mZ cs (i:=k) (by omega)
   have hck:=hc _ (ay 0 (show k<cs.length by omega))
   obtain⟨y,hy⟩: ∃y,y=(tO q ((nI cs).drop (k+1)) x).toNat:=⟨_,rfl⟩;rw[←hy]at hgo⊢;have hyq:y<q:=by omega
   generalize cs.getD k 0=c at*;have m1:=wV (a:=y) (b:=x) (q:=q) (by omega) hx hq h0
   have m2:=DZ (a:=y*x%q) (b:=c) (q:=q) (by have:=aG (y*x) h0;omega) hck hq h0
   clear hR hy hb hc;repeat' first|simp only[go_sem,seval,e1 trivial,hge trivial,hwk trivial,l5,e2]|refine cP m1 ?_|refine cP m2 ?_|refine sB ?_|(first|apply pX|apply bX)<;>intro hc|refine⟨oD,?_⟩|exact oD|fail
   refine hgo _ ?_;exact lE
theorem yL {m:Bytes} (lm:m.length≤8) {o:Bytes} (lo:o.length≤8) (x:Bytes):aD Tryz.prog 83 [G m o, .s x] (.b (!(o==[])&&Ef m o x)):=by
 have h:=yK lm lo x;unfold Ef;generalize kG m o x=b at*
 by_cases ho:o=[]
 ·subst ho;refine eW Tryz.call83 Tryz.func83 ?_;repeat' first|simp only[go_sem,seval,nn]|refine cP h ?_|refine sB ?_|(first|apply pX|apply bX)<;>intro hc|refine⟨oD,?_⟩|exact oD|fail
  all_goals simp
 ·have ho':(o==([]:Bytes))=false:=by simpa using ho
  cases b
  ·refine eW Tryz.call83 Tryz.func83 ?_;repeat' first|simp only[go_sem,seval,ho']|refine cP h ?_|refine sB ?_|(first|apply pX|apply bX)<;>intro hc|refine⟨oD,?_⟩|exact oD|fail
   all_goals simp
  ·refine eW Tryz.call83 Tryz.func83 ?_;repeat' first|simp only[go_sem,seval,ho']|refine cP h ?_|refine sB ?_|(first|apply pX|apply bX)<;>intro hc|refine⟨oD,?_⟩|exact oD|fail
   all_goals simp_all
theorem wW (n:Bytes) (hn:n.length≤60):aD Tryz.prog 35 [.s n] (.b (kq n)):=by
 refine eW Tryz.call35 Tryz.func35 ?_;repeat' first|simp only[go_sem,seval]|refine sB ?_|(first|apply pX|apply bX)<;>intro hc|refine⟨oD,?_⟩|exact oD|fail
 refine aj (α:=Nat) (fun i=>n.length-i) (fun i=>⟨[(0, .v (.s n)),(3, .v (.i .i64 (i:Nat)))],[],_⟩) (fun i=>i≤n.length∧ ∀j,j<i→rQ j (GG n j)=false) 0 (fun _=>au _) ⟨aL _,fun j hj=>by omega⟩ ?_ ?_
 ·exact lE
 ·rintro i ⟨hi,ha⟩ R hR
  by_cases hlt:i<n.length
  ·have hlt':(i:Int)<n.length:=by omega
   have hbad:rQ i (GG n i)=true→kq n=false:=by
    intro h;unfold kq;have:(List.range n.length).all (fun i=> !rQ i (GG n i))=false:=by
     rw[fj];intro g;have:=bc.1 g i (dk.2 hlt);rw[h]at this;cases this
    rw[this];rfl
   have hgo:rQ i (GG n i)=false→ ∀s',(AS.mk [(0, .v (.s n)),(3, .v (.i .i64 ((i+1:Nat):Int)))] [] 1002).Le s'→R s':=by
    intro h s' hs;refine hR (i+1) ⟨by omega,fun j hj=> ?_⟩ (by omega) s' hs
    by_cases e:j=i
    ·subst e;exact h
    ·exact ha j (by omega)
   clear hR ha;obtain⟨c,hcc⟩: ∃c,GG n i=c:=⟨_,rfl⟩;have hcd:((n.getD i 0).toNat:Int)=c:=hcc;have h0:0≤c∧c<256:=by rw[←hcd];have:=(n.getD i 0).toNat_lt;omega
   rw[hcc]at hbad hgo;unfold rQ at hbad hgo;obtain⟨b1,h1⟩: ∃b,decide (c≥97)=b:=⟨_,rfl⟩;obtain⟨b2,h2⟩: ∃b,decide (c≤122)=b:=⟨_,rfl⟩;obtain⟨b3,h3⟩: ∃b,decide (c≥65)=b:=⟨_,rfl⟩;obtain⟨b4,h4⟩: ∃b,decide (c≤90)=b:=⟨_,rfl⟩;obtain⟨b5,h5⟩: ∃b,((i:Int)==0)=b:=⟨_,rfl⟩;obtain⟨b6,h6⟩: ∃b,(c !=95)=b:=⟨_,rfl⟩;obtain⟨b7,h7⟩: ∃b,decide (c<48)=b:=⟨_,rfl⟩;obtain⟨b8,h8⟩: ∃b,decide (c>57)=b:=⟨_,rfl⟩;rw[h1,h2,h3,h4,h5,h6,h7,h8]at hbad hgo;have e1:decide ((i:Int)<(n.length:Int))=true:=decide_eq_true hlt';repeat' first|simp only[go_sem,seval,hcd,h1,h2,h3,h4,h5,h6,h7,h8,e1]|refine sB ?_|(first|apply pX|apply bX)<;>intro hc|refine⟨oD,?_⟩|exact oD|fail
   all_goals clear h1 h2 h3 h4 h5 h6 h7 h8 hcd hcc h0
   all_goals try simp only[fF,Bool.not_eq_false']at*
   all_goals subst_vars
   all_goals first
     |(refine hgo rfl _ ?_;(refine AS.Le.of (by first|decide|omega) ?_ ?_<;>simp[cl,cj,aF,ar,AV.bd,AV.bd.bdL,u8,ah,ai,aq]);done)
     |(rw[hbad rfl];done)
     |(cases b6<;>first|(simp at hc;done)|(refine hgo rfl _ ?_;(refine AS.Le.of (by first|decide|omega) ?_ ?_<;>simp[cl,cj,aF,ar,AV.bd,AV.bd.bdL,u8,ah,ai,aq]);done)|(rw[hbad rfl];done)|fail)
     |fail
  ·obtain rfl:i=n.length:=by omega
   have e:kq n=(!(n==[])&&decide (n.length≤32)):=by
    unfold kq;have:(List.range n.length).all (fun i=> !rQ i (GG n i))=true:=by
     rw[bc];intro j hj;rw[ha j (dk.1 hj)];rfl
    rw[this,bZ]
   rw[e];have e2:decide ((n.length:Int)≤32)=decide (n.length≤32):=by rw[decide_eq_decide];omega
   clear ha hR e;repeat' first|simp only[go_sem,seval]|refine sB ?_|(first|apply pX|apply bX)<;>intro hc|refine⟨oD,?_⟩|exact oD|fail
   all_goals simp_all
theorem sA {l:List Nat} (hv: ∀x∈l,x<18446744073709551616) (hl:l.length<1000000):aD Tryz.prog 222 [.sl (l.map cA)] (.b true):=by
 have:=KL (l:=l.map aP) (fun x hx=>by obtain⟨y,hy,rfl⟩:=a5.1 hx;exact vN (hv y hy)) (by rw[aH];exact hl)
 rwa[jE]at this
theorem sy {q:Nat} (hq:q<18446744073709551616) {l:List Nat} (hv: ∀x∈l,x<q) (hl:l.length<1000000):aD Tryz.prog 224 [N q, .sl (l.map cA)] (.b true):=by
 have:=KI (q:=aP q) (vN hq) (l:=l.map aP) (fun x hx=>by obtain⟨y,hy,rfl⟩:=a5.1 hx;exact⟨vN (by have:=hv y hy;omega),by rw[aK,aK];exact hv y hy⟩) (by rw[aH];exact hl)
 rwa[jE]at this
theorem zY {q:Nat} (hq:q<18446744073709551616) (hp:dS q=true) {xs ys:List Nat} {x:Nat} (hl:ys.length=xs.length) (h256:xs.length≤256) (hx: ∀a∈xs,a<q) (hy: ∀a∈ys,a<q) (hxq:x<q) (hd:xs.Nodup):aD Tryz.prog 141 [N q, .sl (xs.map cA), .sl (ys.map cA),N x] (E 0):=by
 have v1:aD Tryz.prog 222 [.sl [N q,N x]] (.b true):=sA (l:=[q,x]) (by simp;omega) (by simp)
 have v2:=sA (l:=xs) (fun a h=>by have:=hx a h;omega) (by omega)
 have v3:=sA (l:=ys) (fun a h=>by have:=hy a h;omega) (by omega)
 have f:=KJ hq hp;have b1:aD Tryz.prog 224 [N q, .sl [N x]] (.b true):=sy hq (l:=[x]) (by simpa using hxq) (by simp)
 have b2:=sy hq hx (by omega)
 have b3:=sy hq hy (by omega)
 obtain⟨n,hn⟩: ∃n,n=xs.length:=⟨_,rfl⟩;have lX:(xs.map cA).length=n:=by rw[aH,hn]
 have lY:(ys.map cA).length=n:=by rw[aH,hl,hn]
 have hne: ∀i j,i<n→j<i→(aP (xs.getD i 0)==aP (xs.getD j 0))=false:=fun i j hi hj=>by
  rw[sS,decide_eq_false];intro e;have h1:j<xs.length:=by omega
  have h2:i<xs.length:=by omega
  have:=(List.pairwise_iff_getElem.1 hd) j i h1 h2 hj;rw[aX,aU h2,aX,aU h1]at e;exact this e.symm
 refine eW Tryz.call141 Tryz.func141 ?_;repeat' first|simp only[go_sem,seval,lX,lY]|refine cP v1 ?_|refine cP v2 ?_|refine cP v3 ?_|refine cP f ?_|refine cP b1 ?_|refine cP b2 ?_|refine cP b3 ?_|refine sB ?_|(first|apply pX|apply bX)<;>intro hc|refine⟨oD,?_⟩|exact oD|fail
 refine aj (α:=Nat) (fun i=>n-i) (fun i=>⟨[(1, .v (.sl (xs.map cA))),(10,E' i)],[],_⟩) (fun i=>i≤n) 0 (fun _=>au _) (aL _) ?_ ?_
 ·exact lE
 ·intro i hi R hR
  by_cases hlt:i<n
  ·have hgo:=hR (i+1) (by omega) (by omega)
   have e1:=mZ xs (i:=i) (by omega)
   have hne:=hne i;generalize xs.getD i 0=xi at*;clear hR v1 v2 v3 f b1 b2 b3;repeat' first|simp only[go_sem,seval,lX]|refine sB ?_|(first|apply pX|apply bX)<;>intro hc|refine⟨oD,?_⟩|exact oD|fail
   refine aj (α:=Nat) (fun j=>i-j) (fun j=>⟨[(1, .v (.sl (xs.map cA))),(10,E' i),(11,E' j)],[],_⟩) (fun j=>j≤i) 0 (fun _=>au _) (aL _) ?_ ?_
   ·exact lE
   ·intro j hj R hR
    by_cases hlt:j<i
    ·have hg2:=hR (j+1) (by omega) (by omega)
     have e2:=mZ xs (i:=j) (by omega)
     have hne:=hne j (by omega) hlt
     generalize xs.getD j 0=xj at*;clear hR hgo;repeat' first|simp only[go_sem,seval,lX,e1,e2,hne]|refine sB ?_|(first|apply pX|apply bX)<;>intro hc|refine⟨oD,?_⟩|exact oD|fail
     refine hg2 _ ?_;exact lE
    ·obtain rfl:j=i:=by omega
     clear hR;repeat' first|simp only[go_sem,seval,lX]|refine sB ?_|(first|apply pX|apply bX)<;>intro hc|refine⟨oD,?_⟩|exact oD|fail
     refine hgo _ ?_;exact lE
  ·obtain rfl:i=n:=by omega
   repeat' first|simp only[go_sem,seval,lX]|refine sB ?_|(first|apply pX|apply bX)<;>intro hc|refine⟨oD,?_⟩|exact oD|fail
   all_goals rfl
theorem s9 {m:Bytes} (lm:m.length≤8) {o:Bytes} (lo:o.length≤8) (g y:Bytes):aD Tryz.prog 36 [SK m o g y] (E (lV m o g y)):=by
 have v1:=aO m;have v2:=aO o;have v3:=aO g;have v4:=aO y;have h2:=lU lm lo;have h3:=yL lm lo g;have h4:=yL lm lo y;unfold lV;simp only[List.all_cons,List.all_nil,kA];generalize Ef m o g=b3 at*;generalize Ef m o y=b4 at*;generalize aa m=c1 at*;generalize aa o=c2 at*;generalize aa g=c3 at*;generalize aa y=c4 at*;cases c1
 ·refine eW Tryz.call36 Tryz.func36 ?_;repeat' first|simp only[go_sem,seval,cb,bI]|refine cP v1 ?_|(refine ae ?_)|refine sB ?_|(first|apply pX|apply bX)<;>intro hc|refine⟨oD,?_⟩|exact oD|fail
  all_goals rfl
 cases c2
 ·refine eW Tryz.call36 Tryz.func36 ?_;repeat' first|simp only[go_sem,seval,cb,bI]|refine cP v1 ?_|refine cP v2 ?_|(refine ae ?_)|refine sB ?_|(first|apply pX|apply bX)<;>intro hc|refine⟨oD,?_⟩|exact oD|fail
  all_goals rfl
 cases c3
 ·refine eW Tryz.call36 Tryz.func36 ?_;repeat' first|simp only[go_sem,seval,cb,bI]|refine cP v1 ?_|refine cP v2 ?_|refine cP v3 ?_|(refine ae ?_)|refine sB ?_|(first|apply pX|apply bX)<;>intro hc|refine⟨oD,?_⟩|exact oD|fail
  all_goals rfl
 cases c4
 ·refine eW Tryz.call36 Tryz.func36 ?_;repeat' first|simp only[go_sem,seval,cb,bI]|refine cP v1 ?_|refine cP v2 ?_|refine cP v3 ?_|refine cP v4 ?_|(refine ae ?_)|refine sB ?_|(first|apply pX|apply bX)<;>intro hc|refine⟨oD,?_⟩|exact oD|fail
  all_goals rfl
 simp only[dh,bu,aW,if_false]
 by_cases h0:gE m o=0
 ·rw[h0]at h2⊢;generalize (o==([]:Bytes))=b2 at*
  cases b2<;>cases b3<;>cases b4
  all_goals simp only[bu,bR,dh,kA,qX,bZ,ec]at h3 h4
  all_goals
   refine eW Tryz.call36 Tryz.func36 ?_;repeat' first|simp only[go_sem,seval,cb,bI]|refine cP v1 ?_|refine cP v2 ?_|refine cP v3 ?_|refine cP v4 ?_|(refine ae ?_)|refine cP h2 ?_|refine cP h3 ?_|refine cP h4 ?_|refine sB ?_|(first|apply pX|apply bX)<;>intro hc|refine⟨oD,?_⟩|exact oD|fail
   all_goals rfl
 ·rw[if_pos h0];generalize gE m o=e at*;refine eW Tryz.call36 Tryz.func36 ?_;repeat' first|simp only[go_sem,seval,cb,bI]|refine cP v1 ?_|refine cP v2 ?_|refine cP v3 ?_|refine cP v4 ?_|(refine ae ?_)|refine cP h2 ?_|refine sB ?_|(first|apply pX|apply bX)<;>intro hc|refine⟨oD,?_⟩|exact oD|fail
  all_goals rfl
end Go.Proofs.YtmobkhegihemeaaGreatDoor
