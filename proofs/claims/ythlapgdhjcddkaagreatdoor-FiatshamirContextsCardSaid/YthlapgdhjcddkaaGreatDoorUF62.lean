/- Part of the proof. -/
import Derived.Test.YthlapgdhjcddkaaGreatDoorUF61
import Derived.Test.YthlapgdhjcddkaaGreatDoorUF42
set_option linter.all false
set_option maxHeartbeats 16000000
set_option maxRecDepth 100000
namespace Go.Dom
open Go.Num
theorem NH {q a:Nat} (h:ia q=true) (a0:0<a) (a12:a<=12) (hq:a<q):Nat.gcd a q=1:=by
 obtain⟨h2,h|h⟩:=nF h
 ·have hd: ∀q∈cJ,∀a,a<=12->0<a->a<q->Nat.gcd a q=1:=by decide
  exact hd q h a a12 a0 hq
 ·have e2:=h 2 (by decide)
  have e3:=h 3 (by decide)
  have e5:=h 5 (by decide)
  have e7:=h 7 (by decide)
  have e11:=h 11 (by decide)
  rw[mQ];obtain⟨r,hr⟩: ∃r,r=q%a:=⟨_,rfl⟩;rw[<-hr];have hd: ∀a:Fin 13,∀r:Fin 13,r.1<a.1->(a.1%2=0/\r.1%2=0)\/(a.1%3=0/\r.1%3=0)\/(a.1%5=0/\r.1%5=0)\/(a.1%7=0/\r.1%7=0)\/(a.1%11=0/\r.1%11=0)\/Nat.gcd r.1 a.1=1:=by decide
  have hra:r<a:=hr▸aV _ a0;have hm: ∀p,a%p=0->q%p≠0->r%p≠0:=fun p hp hq hz=>by
   rw[hr,vA _ (Nat.dvd_of_mod_eq_zero hp)]at hz;exact hq hz
  rcases hd ⟨a,by omega⟩ ⟨r,by omega⟩ hra with⟨e,f⟩|⟨e,f⟩|⟨e,f⟩|⟨e,f⟩|⟨e,f⟩|e
  ·exact aJ f (hm 2 e e2)
  ·exact aJ f (hm 3 e e3)
  ·exact aJ f (hm 5 e e5)
  ·exact aJ f (hm 7 e e7)
  ·exact aJ f (hm 11 e e11)
  ·exact e
theorem KG {q a:Nat} (h:ia q=true) (a0:0<a) (a12:a<=12) (hq:a<q):eK q a:=ky (by omega) (NH h a0 a12 hq)
theorem Jf {q a:Nat} (h:ia q=true) (a0:0<a) (a12:a<=12) (hq:a<q):Iv q a:=by
 obtain⟨b,-,hb⟩:=KG h a0 a12 hq;exact Iv.Xe hb
theorem NI {q a b:Nat} (h:ia q=true) (hn:a≠b) (ha:a<=12) (hb:b<=12) (qa:a<q) (qb:b<q):Iv q ((a:Int)-b):=by
 rcases Nat.lt_or_gt_of_ne hn with g|g
 ·have:=(Jf h (a:=b-a) (by omega) (by omega) (by omega)).neg
  exact this.cg (Cg.of_eq (by omega))
 ·have:=Jf h (a:=a-b) (by omega) (by omega) (by omega)
  exact this.cg (Cg.of_eq (by omega))
theorem FA {q:Nat} (h:ia q=true): ∀{l:List Nat},l.Nodup->(∀a∈l,a<=12/\a<q)->YP q (l.map fun a:Nat=>(a:Int))
 |[],_,_=>trivial
 |a::l,hd,hb=>by
  have hd:=ss.1 hd;refine⟨fun x hx=> ?_,FA h hd.2 fun b hb'=>hb b (.tail _ hb')⟩
  obtain⟨b,hb',rfl⟩:=cx.1 hx;have ha:=hb a (.head _);have hbb:=hb b (.tail _ hb');exact NI h (fun e=>hd.1 (e▸hb')) hbb.1 ha.1 hbb.2 ha.2
theorem P8 {q:Nat} (hp:ia q=true) {pts:List Nat} (hd:pts.Nodup) (hb: ∀a∈pts,a<=12/\a<q) {i:Nat} (hi:i<pts.length):Nat.gcd (Hd q (pts.getD i 0:Nat) ((nI pts).eraseIdx i)).toNat q=1:=by
 have h2:=(nF hp).1;have h1:YP q (nI pts):=FA hp hd hb;have h3:=h1.iv (i:=i) (by rw[HT];exact hi)
 rw[DM]at h3;have h4:=(XQ h3).cg (Yn q _ _).symm;have h5:=D7 (q:=(q:Int)) (by omega) (pts.getD i 0:Nat) ((nI pts).eraseIdx i)
 refine WV ?_;rw[oX h5.1];exact h4
end Go.Dom
namespace Go.Proofs.Tryz
open Go Go.Dom Go.Num
variable {k nm nx:Nat} {tr:List (Nat×List Nat×List Nat)} {xs ys:List Nat}
theorem aal:(tN [1]).map fY=[PV.s [1]]:=congrArg (fun b=>[PV.s b]) (by decide:b7 1=[1])
theorem GS {q:Nat} (hq:q<(2^64)) (h1:1<q) (hx: ∀a∈xs,a<(2^64)) (hy: ∀a∈ys,a<(2^64)) (hl:ys.length=xs.length) (hxl:xs.length<1000000) (hg: ∀i,i<xs.length->Nat.gcd (Hd q (xs.getD i 0:Nat) ((nI xs).eraseIdx i)).toNat q=1):aH 212 [N q, .sl (xs.map fY), .sl (ys.map fY)] (.sl ((GY q xs ys).map fY)):=by
 have q0:0<q:=oO;obtain⟨n,hn⟩: ∃n,n=xs.length:=⟨_,rfl⟩;have lX:xs.length=n:=hn.symm;have lY:ys.length=n:=by rw[hl,hn]
 have lI:(nI xs).length=n:=by rw[HT,hn]
 obtain⟨P,hP⟩: ∃P:Nat->List Int,P=fun k=>HQ q ((nI xs).eraseIdx k):=⟨_,rfl⟩
 obtain⟨f,hf⟩: ∃f:Nat->Int,f=fN q xs ys:=⟨_,rfl⟩;have hT:GY q xs ys=tN (iP q P f n n 0):=by
  unfold GY;rw[<-lI,hP,Pd,hf]
 rw[hT];have r0:tN (iP q P f n 0 0)=List.replicate n 0:=by rw[XK];simp[tN]
 have rl: ∀i,(tN (iP q P f n i 0)).length=n:=fun i=>by rw[pf,pB]
 clear hT;refine eW call212 func212 ?_;repeat' first|simp only[go_sem,seval,lX,p9]|refine oE ?_|apply xX<;>intro hc
 refine ah (α:=Nat) (fun i=>n-i) (fun i=>⟨[(2, .v (.sl (ys.map fY))),(3, .p 1000 0 0),(4, .p 1001 0 0),(7, .rs 1005 0 0 n 1),(25, .v (.sl (xs.map fY))),(26,E' n),(27,E' i)],[(1000,oR none (.v (N q))),(1001,oR none (.v (.sl (xs.map fY)))),(1005,⟨0,bL (tN (iP q P f n i 0)),false,none⟩)],_⟩) (fun i=>i<=n) 0 (fun _=>aA _) (aD _) ?_ ?_
 ·rw[r0];refine lG ?_;all_goals exact fun c hc=>iN hc
 ·intro i hi Ro hRo
  by_cases hlt:i<n
  ·have hi':i<xs.length:=oO;obtain⟨x,hxi⟩: ∃x:Nat,x=xs.getD i 0:=⟨_,rfl⟩;obtain⟨L,hL⟩: ∃L:List Int,L=nI xs:=⟨_,rfl⟩;have hgi:=hg i hi';rw[<-hL,<-hxi]at hgi;have hfi0:f i=((ys.getD i 0*gV (Hd q x (L.eraseIdx i)).toNat q%q:Nat):Int):=by rw[hf,hL,hxi];rfl
   have hpi:P i=HQ q (L.eraseIdx i):=by rw[hP,hL]
   repeat' first|simp only[go_sem,seval,lX]|refine cP Da ?_|refine oE ?_|apply xX<;>intro hc
   refine ah (α:=Nat×Bool) (fun s=>n-s.1) (fun s=>match s with|(k,true)=>⟨[(2, .v (.sl (ys.map fY))),(3, .p 1000 0 0),(4, .p 1001 0 0),(7, .rs 1005 0 0 n 1),(25, .v (.sl (xs.map fY))),(26,E' n),(27,E' i),(8, .p 1012 0 0),(9, .p 1017 0 0),(10, .p 1018 0 0),(11, .fn (.func 295) [] [.p 1017 0 0, .p 1000 0 0, .p 1001 0 0, .p 1012 0 0, .p 1018 0 0]),(34, .v (.sl (xs.map fY))),(35,E' n),(36,E' k)],[(1000,oR none (.v (N q))),(1001,oR none (.v (.sl (xs.map fY)))),(1005,⟨0,bL (tN (iP q P f n i 0)),false,none⟩),(1012,oR tI (.v (E i))),(1017,oR tL (.v (.sl ((tN (HQ q (xS L i k))).map fY)))),(1018,oR tA (.v (N (Hd q x (xS L i k)).toNat)))],1026⟩|(k,false)=>⟨[(2, .v (.sl (ys.map fY))),(3, .p 1000 0 0),(4, .p 1001 0 0),(7, .rs 1005 0 0 n 1),(25, .v (.sl (xs.map fY))),(26,E' n),(27,E' i),(8, .p 1012 0 0),(9, .p 1017 0 0),(10, .p 1018 0 0),(11, .fn (.func 295) [] [.p 1017 0 0, .p 1000 0 0, .p 1001 0 0, .p 1012 0 0, .p 1018 0 0]),(34, .v (.sl (xs.map fY))),(35,E' n),(36,E' k)],[(1000,oR none (.v (N q))),(1001,oR none (.v (.sl (xs.map fY)))),(1005,⟨0,bL (tN (iP q P f n i 0)),false,none⟩),(1012,oR tI (.v (E i))),(1017,oR tL (.fs [.s [1]])),(1018,oR tA (.v (.s [1])))],1026⟩) (fun s=>s.1<=n/\(s.2=false->xS L i s.1=[])) (0,false) (fun s=>by obtain⟨k,b⟩:=s;cases b<;>exact cd rfl) ⟨aD _,fun _=>ZN _ _⟩ ?_ ?_
   ·refine lG ?_;all_goals exact fun c hc=>iN hc
   ·rintro⟨k,b⟩ ⟨hk,hb⟩ R hR;simp only at hk hb
    by_cases hkn:k<n
    ·by_cases hki:k=i
     ·have hex:xS L i (k+1)=xS L i k:=by rw[hki];exact WI (by rw[hL];omega)
      have hgo:=hR (k+1,b) ⟨by show k+1<=n;omega,fun h=>by show xS L i (k+1)=[];rw[hex];exact hb h⟩ (by show n-(k+1)<n-k;omega)
      have e2:=Af xs (i:=k) oO;clear hR hRo hg
      cases b<;>simp only[hex]at hgo<;>clear hb hex hgi hfi0 hpi
      ·refine dw (aN @lX @e2) ?_;refine hgo _ ?_;refine lG ?_;all_goals exact fun c hc=>iN hc
      ·refine dw (aN @lX @e2) ?_;refine hgo _ ?_;refine lG ?_;all_goals exact fun c hc=>iN hc
     ·have hex:xS L i (k+1)=xS L i k++[((xs.getD k 0:Nat):Int)]:=by rw[WJ (by rw[hL];omega) hki,hL,DM]
      have hgo:=hR (k+1,true) ⟨by show k+1<=n;omega,fun h=>by cases h⟩ (by show n-(k+1)<n-k;omega)
      simp only[hex,OU,P7]at hgo;have e2:=Af xs (i:=k) oO;have xk:=hx _ (ai 0 (show k<xs.length by omega))
      have hnki: ¬((k:Int)=(i:Int)):=oO;clear hR hRo hg hgi hfi0 hpi;cases b
      ·have he:=hb rfl;rw[he]at hgo;have hc:=fun nm=>Uh nm hq h1 hx hi' hxl xk (p:=[1]) (by simp) (Pb oO) oC (s:=1) h1
       rw[aal,<-hxi]at hc;rw[show N 1= .s [1]from congrArg PV.s (by decide:b7 1=[1])]at hc
       have hs1:(Hd q x []*((((x:Nat):Int)-(xs.getD k 0:Nat))%q)%q).toNat=1*((((x:Nat):Int)-(xs.getD k 0:Nat))%q).toNat%q:=by
        obtain⟨d,hd⟩:=qA (q:=(q:Int)) ⟨jz (((x:Nat):Int)-(xs.getD k 0:Nat)) oO,kQ _ oO⟩;rw[hd,Int.toNat_natCast,show Hd q x []=((1:Nat):Int)from rfl,<-Int.natCast_mul,<-Int.natCast_emod,Int.toNat_natCast]
       rw[hs1,show HQ q []=[1]from rfl]at hgo
       generalize xs.getD k 0=y at*;generalize 1*((((x:Nat):Int)-y)%q).toNat%q=s2 at*;generalize pz q [1] y=p2 at*;clear hb he;repeat' first|simp only[go_sem,seval,lX,e2]|(refine bK (hc _) (by simp[az]) ?_)|refine oE ?_|apply xX<;>intro hc
       refine hgo _ ?_;refine lG ?_;all_goals exact fun c hc=>iN hc
      ·have hsi:=D7 (q:=(q:Int)) oO x (xS L i k);obtain⟨s0,hs0⟩:=qA hsi;have hc:=fun nm=>Ui nm hq h1 hx hi' hxl xk (p:=HQ q (xS L i k)) (by intro h;have:=DL q (xS L i k);rw[h]at this;simp at this) (OT oO _) (by rw[DL];unfold xS;have:=List.length_eraseIdx_le (L.take k) i;have:=List.length_take_le k L;omega) (s:=s0) oO
       rw[<-hxi]at hc;have hs1:(Hd q x (xS L i k)*((((x:Nat):Int)-(xs.getD k 0:Nat))%q)%q).toNat=s0*((((x:Nat):Int)-(xs.getD k 0:Nat))%q).toNat%q:=by
        obtain⟨d,hd⟩:=qA (q:=(q:Int)) ⟨jz (((x:Nat):Int)-(xs.getD k 0:Nat)) oO,kQ _ oO⟩;rw[hs0,hd,Int.toNat_natCast,<-Int.natCast_mul,<-Int.natCast_emod,Int.toNat_natCast]
       rw[hs1]at hgo;simp only[hs0,Int.toNat_natCast];generalize xs.getD k 0=y at*;generalize s0*((((x:Nat):Int)-y)%q).toNat%q=s2 at*;generalize HQ q (xS L i k)=p1 at*;generalize pz q p1 y=p2 at*;clear hb hsi hs0 hs1 hex;repeat' first|simp only[go_sem,seval,lX,e2]|(refine bK (hc _) (by simp[az]) ?_)|refine oE ?_|apply xX<;>intro hc
       refine hgo _ ?_;refine lG ?_;all_goals exact fun c hc=>iN hc
    ·obtain rfl:n=k:=oO;have hend:xS L i n=L.eraseIdx i:=by have:=Su L i;rwa[show L.length=n by rw[hL];exact lI]at this
     rw[hend]at hb;have e4:=Af ys (i:=i) oO;have yi:=hy _ (ai 0 (show i<ys.length by omega))
     generalize ys.getD i 0=y at*;obtain⟨p,hpd⟩: ∃p,p=HQ q (L.eraseIdx i):=⟨_,rfl⟩;have hpp:p=P i:=by rw[hpd,hpi]
     have hin:QU q p:=by rw[hpd];exact OT oO _
     have hpl:p.length=n:=by rw[hpd,DL,List.length_eraseIdx,af (by rw[hL];omega),hL,lI];omega
     have lP:(tN p).length=n:=by rw[pf,hpl]
     obtain⟨s0,hs0⟩:=qA (D7 (q:=(q:Int)) oO x (L.eraseIdx i));have hsq:=(D7 (q:=(q:Int)) oO x (L.eraseIdx i)).2;rw[hs0,Int.toNat_natCast]at hgi hfi0;rw[hs0]at hsq;have iv:=sY (a:=s0) (m:=q) oO hq q0 hgi;have ivl:gV s0 q<q:=(ky q0 hgi).inv.1;have m0:=qY (a:=y) (b:=gV s0 q) (m:=q) yi oO hq q0;obtain⟨fi,hfi1⟩: ∃fi,fi=y*gV s0 q%q:=⟨_,rfl⟩;have hfiq:fi<q:=by rw[hfi1];exact aV _ q0
     rw[<-hfi1]at hfi0 m0;have hfi:f i=(fi:Int):=hfi0;have hgl:=hg;clear hR hg hfi0 hfi1;cases b
     ·have he:=hb rfl;rw[he]at hpd hs0;have hp1:p=[1]:=hpd;have hs1:s0=1:=by have:Hd (q:Int) x []=1:=rfl;omega
      rw[hs1,show N 1= .s [1]from congrArg PV.s (by decide:b7 1=[1])]at iv
      rw[hs1]at m0;have hpq:([PV.s [1]]:List PV)=(tN p).map fY:=by rw[hp1,aal]
      have l1:([PV.s [1]]:List PV).length=n:=by rw[hpq,au];exact lP
      simp only[List.length_cons,List.length_nil]at l1;clear hpd hs0 hs1 hgi he hb;simp only[hpq];repeat' first|simp only[go_sem,seval,lX,lY,lP,e4]|refine cP iv ?_|refine cP m0 ?_|refine oE ?_|apply xX<;>intro hc
      refine ah (α:=Nat) (fun j=>n-j) (fun j=>⟨[(2, .v (.sl (ys.map fY))),(3, .p 1000 0 0),(4, .p 1001 0 0),(7, .rs 1005 0 0 n 1),(25, .v (.sl (xs.map fY))),(26,E' n),(27,E' i),(16, .v (N fi)),(64, .fs ((tN p).map fY)),(65,E' n),(66,E' j)],[(1000,oR none (.v (N q))),(1001,oR none (.v (.sl (xs.map fY)))),(1005,⟨0,bL (tN (iP q P f n i j)),false,none⟩)],1050⟩) (fun j=>j<=n) 0 (fun _=>cd rfl) (aD _) ?_ ?_
      ·refine lG ?_;all_goals exact fun c hc=>iN hc
      ·intro j hj R hR
       by_cases hjn:j<n
       ·have hgo:=hR (j+1) oO oO;have e5:=Jj p (i:=j) oO;have ho1:(tN (iP q P f n i j)).getD j 0=(Fe q P f j i).toNat:=by rw[oK,JG hjn]
        have ho2:(tN (iP q P f n i j)).set j (Fe q P f j (i+1)).toNat=tN (iP q P f n i (j+1)):=by rw[xf,CE hjn]
        have hol:(tN (iP q P f n i j)).length=n:=by rw[pf,pB]
        rw[<-ho2]at hgo;obtain⟨a0,ha0⟩:=qA (Dc (q:=(q:Int)) oO P f j i);have ha0q:=(Dc (q:=(q:Int)) oO P f j i).2;have hstep:Fe q P f j (i+1)=(Fe q P f j i+p.getD j 0*f i%q)%q:=by rw[hpp];rfl
        obtain⟨c,hc⟩:=qA (hin j);have hcq:=(hin j).2;rw[hc]at hcq e5 hstep;rw[ha0]at ho1 ha0q hstep;rw[hfi,show((a0:Int)+(c:Int)*(fi:Int)%q)%q=(((a0+c*fi%q)%q:Nat):Int) by push_cast;rfl]at hstep
        rw[hstep]at hgo;rw[Int.toNat_natCast]at e5 ho1 hgo;have m1:=qY (a:=c) (b:=fi) (m:=q) oO oO hq q0;have m2:=F8 (a:=a0) (b:=c*fi%q) (m:=q) oO (by have:=aV (c*fi) q0;omega) hq q0
        generalize (a0+c*fi%q)%q=z at*;generalize tN (iP q P f n i j)=R0 at*;have g0:(bL R0).length=n:=by rw[e9,hol]
        have g1:(bL R0).getD j .u= .v (N a0):=by rw[jT oO,ho1]
        have g2:List.take j (bL R0)++[AV.v (.s (b7 z))]++List.drop (j+1) (bL R0)=bL (R0.set j z):=iX oO;clear hR hRo hgl hstep ho2;refine rz (aN @lX (aN @lP (aN @e5 (aN @g0 (aN @g1 @g2))))) @m1 @m2 ?_;refine hgo _ ?_;refine lG ?_;all_goals exact fun c hc=>iN hc
       ·obtain rfl:j=n:=oO;rw[CD];have hgo:=hRo (i+1) oO oO;clear hR hRo;refine dw (aN @lX @lP) ?_;refine hgo _ ?_;refine lG ?_;all_goals exact fun c hc=>iN hc
     ·simp only[hend,<-hpd,hs0,Int.toNat_natCast];clear hpd hs0 hgi hb;repeat' first|simp only[go_sem,seval,lX,lY,lP,e4]|refine cP iv ?_|refine cP m0 ?_|refine oE ?_|apply xX<;>intro hc
      refine ah (α:=Nat) (fun j=>n-j) (fun j=>⟨[(2, .v (.sl (ys.map fY))),(3, .p 1000 0 0),(4, .p 1001 0 0),(7, .rs 1005 0 0 n 1),(25, .v (.sl (xs.map fY))),(26,E' n),(27,E' i),(16, .v (N fi)),(64, .v (.sl ((tN p).map fY))),(65,E' n),(66,E' j)],[(1000,oR none (.v (N q))),(1001,oR none (.v (.sl (xs.map fY)))),(1005,⟨0,bL (tN (iP q P f n i j)),false,none⟩)],1050⟩) (fun j=>j<=n) 0 (fun _=>cd rfl) (aD _) ?_ ?_
      ·refine lG ?_;all_goals exact fun c hc=>iN hc
      ·intro j hj R hR
       by_cases hjn:j<n
       ·have hgo:=hR (j+1) oO oO;have e5:=Jj p (i:=j) oO;have ho1:(tN (iP q P f n i j)).getD j 0=(Fe q P f j i).toNat:=by rw[oK,JG hjn]
        have ho2:(tN (iP q P f n i j)).set j (Fe q P f j (i+1)).toNat=tN (iP q P f n i (j+1)):=by rw[xf,CE hjn]
        have hol:(tN (iP q P f n i j)).length=n:=by rw[pf,pB]
        rw[<-ho2]at hgo;obtain⟨a0,ha0⟩:=qA (Dc (q:=(q:Int)) oO P f j i);have ha0q:=(Dc (q:=(q:Int)) oO P f j i).2;have hstep:Fe q P f j (i+1)=(Fe q P f j i+p.getD j 0*f i%q)%q:=by rw[hpp];rfl
        obtain⟨c,hc⟩:=qA (hin j);have hcq:=(hin j).2;rw[hc]at hcq e5 hstep;rw[ha0]at ho1 ha0q hstep;rw[hfi,show((a0:Int)+(c:Int)*(fi:Int)%q)%q=(((a0+c*fi%q)%q:Nat):Int) by push_cast;rfl]at hstep
        rw[hstep]at hgo;rw[Int.toNat_natCast]at e5 ho1 hgo;have m1:=qY (a:=c) (b:=fi) (m:=q) oO oO hq q0;have m2:=F8 (a:=a0) (b:=c*fi%q) (m:=q) oO (by have:=aV (c*fi) q0;omega) hq q0
        generalize (a0+c*fi%q)%q=z at*;generalize tN (iP q P f n i j)=R0 at*;have g0:(bL R0).length=n:=by rw[e9,hol]
        have g1:(bL R0).getD j .u= .v (N a0):=by rw[jT oO,ho1]
        have g2:List.take j (bL R0)++[AV.v (.s (b7 z))]++List.drop (j+1) (bL R0)=bL (R0.set j z):=iX oO;clear hR hRo hgl hstep ho2;refine rz (aN @lX (aN @lP (aN @e5 (aN @g0 (aN @g1 @g2))))) @m1 @m2 ?_;refine hgo _ ?_;refine lG ?_;all_goals exact fun c hc=>iN hc
       ·obtain rfl:j=n:=oO;rw[CD];have hgo:=hRo (i+1) oO oO;clear hR hRo;refine dw (aN @lX @lP) ?_;refine hgo _ ?_;refine lG ?_;all_goals exact fun c hc=>iN hc
  ·obtain rfl:i=n:=oO;have k1:=q9 (rl i);have k2:=tE (tN (iP q P f i i 0));have k3:=pZ (rl i);have k4:(bL (tN (iP q P f i i 0))).length=i:=by rw[e9,rl]
   clear hRo;repeat' first|simp only[go_sem,seval,lX,k1,k2,k3,k4,qZ]|refine oE ?_|apply xX<;>intro hc
   all_goals trivial
theorem Qp (q:Nat) (xs ys:List Nat):(GY q xs ys).length=xs.length:=by rw[GY,pf,Ug,au,qk,HT]
noncomputable def NM (q:Nat) (xs ys:List Nat) (d:Nat):Bool:=(List.range xs.length).all fun i=>decide (i<=d)||decide ((GY q xs ys).getD i 0=0)
theorem P4 {q:Nat} (hq:q<(2^64)) (hp:ia q=true) (hl:ys.length=xs.length) (hb: ∀a∈xs,a<=12/\a<q) (hy: ∀a∈ys,a<q) (hd:xs.Nodup) (h13:xs.length<=256) (d:Nat):aH 209 [N q, .sl (xs.map fY), .sl (ys.map fY),E (d:Int)] (.tup [.b (NM q xs ys d),E 0]):=by
 have h2:=(nF hp).1;have c1:=Is hq hp hl h13 (fun a h=>(hb a h).2) hy (x:=0) oO hd
 have c2:=GS hq oO (fun a h=>by have:=(hb a h).2;omega) (fun a h=>by have:=hy a h;omega) hl oO fun i hi=>P8 hp hd hb hi
 have c1:aH 211 [N q, .sl (xs.map fY), .sl (ys.map fY), .s []] (E 0):=c1;have lt:=Qp q xs ys;unfold NM;generalize GY q xs ys=T at*;have l1:(T.map fY).length=xs.length:=by rw[au];exact lt
 refine eW call209 func209 ?_;refine Bw @l1 @c1 @c2 ?_;refine ah (α:=Nat) (fun i=>xs.length-i) (fun i=>⟨[(3, .v (E (d:Int))),(23, .v (.sl (T.map fY))),(24,E' xs.length),(25,E' i)],[],_⟩) (fun i=>i<=xs.length/\ ∀j,j<i->(decide (j<=d)||decide (T.getD j 0=0))=true) 0 (fun _=>aA _) ⟨aD _,fun j hj=>oO⟩ ?_ ?_
 ·exact lE
 ·rintro i ⟨hi,hf⟩ R hR
  by_cases hit:i<xs.length
  ·have e1:=Af T (i:=i) oO;have hgo:=fun(h:(decide (i<=d)||decide (T.getD i 0=0))=true)=>hR (i+1) ⟨oO,fun j hj=>by
     by_cases e:j=i
     ·subst e;exact h
     ·exact hf j oO⟩ oO
   have hbad:=fun h:(decide (i<=d)||decide (T.getD i 0=0))=false=>n8 (p:=fun i=>decide (i<=d)||decide (T.getD i 0=0)) hit h
   have z1:decide ((i:Int)>(d:Int))= !decide (i<=d):=by rw[cu];simp
   have z2:((b7 (T.getD i 0))==([]:Bytes))=decide (T.getD i 0=0):=by
    rw[cu];simp[jh]
   clear hR hf;generalize decide (i<=d)=b1 at*;generalize hx:T.getD i 0=x at*;generalize decide (x=0)=b2 at*;cases b1
   ·cases b2
    ·rw[hbad rfl];exact fz (aN @l1 (aN @e1 (aN @z1 @z2)))
    ·have hgo:=hgo rfl;exact gH (aN @l1 (aN @e1 (aN @z1 @z2))) @hgo
   ·have hgo:=hgo rfl;exact gH (aN @l1 (aN @e1 (aN @z1 @z2))) @hgo
  ·obtain rfl:i=xs.length:=oO;have hg:((List.range xs.length).all fun i=>decide (i<=d)||decide (T.getD i 0=0))=true:=nu fun j hj=>hf j hj
   rw[hg];exact fz @l1
def YR (m x:Nat):Nat:=if m<x then x else m
def U1:List Nat->Nat
 |[]=>0
 |y::r=>r.foldl YR y
theorem W8 {q:Nat}: ∀{l:List Nat},l≠[]->(∀x∈l,x<q)->U1 l<q
 |[],h,_=>aJ rfl h
 |y::r,_,h=>by
  rw[U1];have key: ∀(r:List Nat) (m:Nat),m<q->(∀x∈r,x<q)->r.foldl YR m<q:=by
   intro r
   induction r with
   |nil=>intro m hm _;exact hm
   |cons a r ih=>
    intro m hm hr;rw[List.foldl_cons];refine ih _ ?_ fun x hx=>hr x (.tail _ hx)
    unfold YR;split
    ·exact hr a (.head _)
    ·exact hm
  exact key r y (h y (.head _)) fun x hx=>h x (.tail _ hx)
theorem Rq {l:List Nat} (h0:l≠[]) (hl:l.length<1000000) (hb: ∀x∈l,x<(2^64)):aH 208 [.sl (l.map fY), .fn (.func 72)] (N (U1 l)):=by
 obtain⟨y,r,hyr⟩:=List.exists_cons_of_ne_nil h0;have l1:(l.map fY).length=l.length:=au ..;have hll:l.length=r.length+1:=by rw[hyr];rfl
 have e0:(l.map fY).getD 0 .fn0=N y:=by rw[hyr];rfl
 have hp: ∀ _:True,(0:Int)<(l.length:Int):=fun _=>oO
 have hp1:decide ((l.length:Int)<1)=false:=aS oO;refine eW call208 func208 ?_;refine dh (aN @l1 (aN @hp1 (aN @e0 (hp oT)))) ?_;refine ah (α:=Nat×Nat) (fun s=>l.length-s.1) (fun s=>⟨[(0, .v (.sl (l.map fY))),(1, .v (.fn (.func 72))),(5, .v (N s.2)),(6,E' s.1)],[],_⟩) (fun s=>s.1<=l.length/\s.2<(2^64)/\(l.drop s.1).foldl YR s.2=U1 l) (1,y) (fun _=>aA _) ⟨by simp only;omega,hb _ (by rw[hyr];exact .head _),by rw[hyr];rfl⟩ ?_ ?_
 ·exact lE
 ·rintro⟨i,m⟩ ⟨hi,hm,hf⟩ R hR;simp only at hi hm hf
  by_cases hit:i<l.length
  ·have e1:=Af l hit;have hx:=hb _ (ai 0 hit);rw[aE 0 hit,List.foldl_cons]at hf;have hgo:=fun h=>hR (i+1,YR m (l.getD i 0)) ⟨by simp only;omega,h,hf⟩ (by simp only;omega)
   simp only at hgo;clear hR hf;generalize l.getD i 0=x at*;have c1:=zS (a:=x) (b:=m) (by have:=jM;omega) (by have:=jM;omega)
   have x1:decide (a7 x m>0)=decide (m<x):=by rw[fk,Nj]
   generalize a7 x m=cm at*;unfold YR at hgo
   by_cases hlt:m<x
   ·rw[af hlt]at hgo;rw[aQ hlt]at x1;have hgo:=hgo hx;exact gi (aN @l1 (aN @e1 @x1)) @hgo @c1
   ·rw[aa hlt]at hgo;rw[aS hlt]at x1;have hgo:=hgo hm;exact gi (aN @l1 (aN @e1 @x1)) @hgo @c1
  ·obtain rfl:i=l.length:=oO;rw[bw]at hf;rw[<-hf];exact fz @l1
theorem MT (q:Bytes):aH 207 [.s q] (.agg [.s q, .s [2]]):=by
 refine eW call207 func207 ?_;exact z0
theorem B9 (n:Nat) (hn:n<1000000):aH 119 [E (n:Int)] (N n):=by
 have h:=iC n oO;refine eW call119 func119 ?_;exact z1 @h
theorem sT:cH fY 1:=⟨fun _=>rfl,fun _ y hy=>by cases fa.1 hy;rfl,fun _ _=>rfl,fun h=>aJ rfl h⟩
theorem Ma {P:Program} [cW P] {Q:AX->AS->Prop} {bf:Option (List Nat)} {nn:Nat} {d:Option Nat} {ops:List j9} {s:AS} {K:List Fr} {f:FuncId} {α:Type} {g:α->PV} {z n ver m:Nat} {l:List α} {gr:Bool} {el:Option TypeId} {ax:AV} {x r:PV}
  (he:qG P f [.sl (l.map g),x] r) (hrow:cH g z) (hr:r.flat=true) (hg:az s.h n=some ⟨ver,aP g l,gr,el⟩) (hm:m=l.length) (hx:view (az s.h) 9 ax=some x) (hK:RW P Q nx bf nn ops (k+1) (s.sM d (.v r) []) (xJ bf k ([AV.rs n ver 0 m z,ax].flatMap (aW (az s.h) 9)) [] tr) K):
  CR P Q nx bf nn nm (.v (.fn (.func f))) [.rs n ver 0 m z,ax] d ops k s tr K:=
 lO he (by simp[bA,iH hrow hm hg,hx]) hr hK
theorem L9 {P:Program} [cW P] {Q:AX->AS->Prop} {bf:Option (List Nat)} {nn:Nat} {d:Option Nat} {ops:List j9} {s:AS} {K:List Fr} {f:FuncId} {α β:Type} {g:α->PV} {g':β->PV} {z n ver m z' n' ver' m':Nat} {l:List α} {l':List β} {gr gr':Bool} {el el':Option TypeId} {ax aw:AV} {x w r:PV}
  (he:qG P f [x, .sl (l.map g), .sl (l'.map g'),w] r) (hrow:cH g z) (hrow':cH g' z') (hr:r.flat=true) (hg:az s.h n=some ⟨ver,aP g l,gr,el⟩) (hg':az s.h n'=some ⟨ver',aP g' l',gr',el'⟩) (hm:m=l.length) (hm':m'=l'.length) (hx:view (az s.h) 9 ax=some x) (hw:view (az s.h) 9 aw=some w) (hK:RW P Q nx bf nn ops (k+1) (s.sM d (.v r) []) (xJ bf k ([ax,AV.rs n ver 0 m z,AV.rs n' ver' 0 m' z',aw].flatMap (aW (az s.h) 9)) [] tr) K):
  CR P Q nx bf nn nm (.v (.fn (.func f))) [ax, .rs n ver 0 m z, .rs n' ver' 0 m' z',aw] d ops k s tr K:=
 lO he (by simp[bA,iH hrow hm hg,iH hrow' hm' hg',hx,hw]) hr hK
def YX (gs:List Bytes) (j:Nat) (kids:List Int):List Nat:=num (gs.getD j [])::kids.map fun k=>num (gs.getD k.toNat [])
noncomputable def HH (q:Nat) (gs:List Bytes) (j:Nat) (g:Gt):Bool:=decide (g.kids=[])||NM q (List.range (g.kids.length+1)) (YX gs j g.kids) (g.kids.length-g.need.toNat)
noncomputable def Hk (q:Nat) (G:List Gt) (gs:List Bytes):Bool:=(List.range G.length).all fun j=>HH q gs j (G.getD j eC)
theorem rU (l:List Nat) (x:Nat):aP fY (l++[x])=aP fY l++[.v (N x)]:=by rw[bU];rfl
theorem Hw {lv:List aT} {G:List Gt} {gs:List Bytes} {X:List Lf} (hF:IM G lv.length) (lq:(bY lv).length<=8) (vq:ae (bY lv)=true) (hp:ia (num (bY lv))=true) (h12:lv.length<=12) (hG:G.length<=512) (hsz: ∀s∈lv,qH s) (hgl:gs.length=G.length) (hgv: ∀g∈gs,ae g=true/\num g<num (bY lv)) (hfew: ∀g∈G,g.kids.length<num (bY lv)) (hXl:X.length=lv.length)
  (hX: ∀i,i<lv.length->aH 105 [.agg [.s (bY lv), .s [2]],(lv.getD i cC).pv,jV (X.getD i pg)] (E 0)/\(X.getD i pg).2.1=gs.getD (NY G i).toNat []):
  aH 116 [.agg [.sl (lv.map aT.pv), .sl (G.map Gt.pv)], .agg [.sl (gs.map .s), .sl (X.map jV)]] (E (if Hk (num (bY lv)) G gs then 0 else 16)):=by
 have c1:=wq (ls:=lv) (G:=G) oO;have c2:=MT (bY lv);have l1:(lv.map aT.pv).length=lv.length:=au ..;have l2:(G.map Gt.pv).length=G.length:=au ..;have l3:(gs.map PV.s).length=G.length:=by rw[au];exact hgl
 have l4:(X.map jV).length=lv.length:=by rw[au];exact hXl
 have hq8:=ga lq;have hq2:=(nF hp).1;have eNq:N (num (bY lv))= .s (bY lv):=fA vq;generalize bY lv=q at*;have cg: ∀i,i<gs.length->aH 72 [.s (gs.getD i []), .s q] (E (a7 (num (gs.getD i [])) (num q)))/\decide (a7 (num (gs.getD i [])) (num q)>=0)=false:=fun i hi=>by
  obtain⟨a,b⟩:=hgv _ (ai [] hi);exact⟨nA a vq,aS (fun g=>by have:=dY.1 g;omega)⟩
 refine eW call116 func116 ?_;repeat' first|simp only[go_sem,seval,l1,l2,l3,l4,iz]|refine cP c1 ?_|refine oE ?_|apply xX<;>intro hc
 refine ah (α:=Nat) (fun i=>G.length-i) (fun i=>⟨[(2, .p 1000 0 0),(3, .p 1001 0 0),(5, .v (.s q)),(36, .v (.sl (G.map Gt.pv))),(37,E' G.length),(38,E' i)],[(1000,⟨0,[.v (.sl (lv.map aT.pv)), .v (.sl (G.map Gt.pv))],false,none⟩),(1001,⟨0,[.v (.sl (gs.map .s)), .v (.sl (X.map jV))],false,none⟩)],_⟩) (fun i=>i<=G.length/\ ∀j,j<i->HH (num q) gs j (G.getD j eC)=true) 0 (fun _=>aA _) ⟨aD _,fun j hj=>oO⟩ ?_ ?_
 ·exact lE
 ·rintro j ⟨hj,hf⟩ R hR
  by_cases hjt:j<G.length
  ·have e1:=getD_map Gt.pv G eC hjt;have hjg:j<gs.length:=oO;have e2:=fJ hjg;obtain⟨c3,x3⟩:=cg j hjg;have hgo:=fun(h:HH (num q) gs j (G.getD j eC)=true)=>hR (j+1) ⟨oO,fun i hi=>by
     by_cases e:i=j
     ·subst e;exact h
     ·exact hf i oO⟩ oO
   have hbad:HH (num q) gs j (G.getD j eC)=false->Hk (num q) G gs=false:=fun h=>n8 (p:=fun j=>HH (num q) gs j (G.getD j eC)) hjt h
   have hlf:=hF.lf j hjt;have hnd:=hF.nd j hjt;have hfw:=hfew _ (ai eC hjt);have hgt:=FO hF hjt;have hlc:=wH G (show j+1<=G.length from hjt)
   have hls:iU G (j+1)=iU G j+if(G.getD j eC).kids=[]then 1 else 0:=rfl
   rw[hF.ct]at hlc;clear hR hf;generalize a7 (num (gs.getD j [])) (num q)=cm at*;generalize G.getD j eC=g at*;obtain⟨need,kids,leaf⟩:=g;have l5:(kids.map rB).length=kids.length:=au ..;simp only[Gt.pv]at e1;simp only at hlf hnd hfw hgt hls
   by_cases hk:kids=[]
   ·subst hk;have hlf:=hlf rfl;have hgt:=hgt rfl;rw[af rfl]at hls;have hg2:=hgo rfl;clear hgo hbad;generalize iU G j=i at*;subst hlf;have hit:i<lv.length:=oO;have e3:=getD_map jV X pg (show i<X.length by omega)
    have e4:=getD_map aT.pv lv cC hit;obtain⟨c4,hx⟩:=hX i hit;rw[hgt,Int.toNat_natCast]at hx;generalize X.getD i pg=x at*;obtain⟨s,ch,rs⟩:=x;simp only at hx;subst hx;simp only[jV]at e3 c4;generalize gs.getD j []=ch at*;have eq1:(ch==ch)=true:=eY _;generalize lv.getD i cC=s' at*;obtain⟨gs',vs',es'⟩:=s';simp only[aT.pv]at e4 c4;generalize ep s ch rs=F at*;exact YI (aN @l1 (aN @l2 (aN @l3 (aN @l4 (aN @e1 (aN @e2 (aN @e3 (aN @e4 (aN @x3 @eq1))))))))) @hg2 @c3 @c2 @c4 oT
   ·obtain⟨n1,n2,n3,n4⟩:=hnd hk;obtain⟨m,rfl⟩: ∃m:Nat,need=(m:Int):=⟨need.toNat,oO⟩;have hk0:0<kids.length:=gF.2 hk;have hkz:((kids.length:Int)==0)=false:=by rw[du];omega
    have hga:HH (num q) gs j ⟨(m:Int),kids,leaf⟩=NM (num q) (List.range (kids.length+1)) (YX gs j kids) (kids.length-m):=by
     unfold HH;simp only[aS hk,eH,Int.toNat_natCast]
    rw[hga]at hgo hbad;obtain⟨P,hP⟩: ∃P,P=List.range (kids.length+1):=⟨_,rfl⟩;obtain⟨Y,hY⟩: ∃Y,Y=YX gs j kids:=⟨_,rfl⟩;rw[<-hP,<-hY]at hgo hbad;have hPl:P.length=kids.length+1:=by rw[hP,qk]
    have hYl:Y.length=kids.length+1:=by rw[hY,YX,List.length_cons,au]
    have hYq: ∀y∈Y,y<num q:=fun y hy=>by
     rw[hY,YX]at hy;rcases cM.1 hy with rfl|hy
     ·exact(hgv _ (ai [] hjg)).2
     ·obtain⟨k,hk,rfl⟩:=cx.1 hy;have:=n4 k hk;exact(hgv _ (ai [] (show k.toNat<gs.length by omega))).2
    have hPb: ∀a∈P,a<=12/\a<num q:=fun a ha=>by
     rw[hP,fV]at ha;omega
    have c5:=Rq (l:=Y) (by intro h;rw[h]at hYl;cases hYl) oO (fun x hx=>by have:=hYq x hx;omega)
    have hmx:=W8 (q:=num q) (l:=Y) (by intro h;rw[h]at hYl;cases hYl) hYq
    have c6:=zS (a:=U1 Y) (b:=num q) (by have:=jM;omega) (by have:=jM;omega)
    have x6:decide (a7 (U1 Y) (num q)>=0)=false:=aS (fun g=>by have:=dY.1 g;omega)
    have c7:=P4 hq8 hp (xs:=P) (ys:=Y) oO hPb hYq (by rw[hP];exact List.nodup_range) oO (kids.length-m)
    have hsub:((kids.length-m:Nat):Int)=(kids.length:Int)-m:=oO;rw[hsub]at c7;rw[eNq]at c6 c7;have hPs: ∀k,k<kids.length->P.take (k+2)=P.take (k+1)++[k+1]:=fun k hk=>by
     rw[aL 0 (show k+1<P.length by omega),hP]
     congr 2;simp[bu,hk]
    have hYs: ∀k,k<kids.length->Y.take (k+2)=Y.take (k+1)++[num (gs.getD (kids.getD k 0).toNat [])]:=fun k hk=>by
     rw[aL 0 (show k+1<Y.length by omega),hY,YX]
     congr 2;simp[bu,hk]
    have hY1:Y.take 1=[num (gs.getD j [])]:=by rw[hY];rfl
    have hP1:P.take 1=[0]:=by rw[hP,List.range_succ_eq_map];rfl
    have hYv:=(hgv _ (ai [] hjg)).1;have hkd: ∀k,k<kids.length->0<=kids.getD k 0/\(kids.getD k 0).toNat<gs.length:=fun k hk=>by
     have:=n4 _ (ai 0 hk);omega
    clear hlf hls hlc hgt hnd hga hX n4 hP hY;generalize NM (num q) P Y (kids.length-m)=fb at*;generalize a7 (U1 Y) (num q)=cm2 at*;generalize U1 Y=mx at*;have e5:=getD_map rB kids 0 hk0;obtain⟨k1,k2⟩:=hkd 0 hk0;have e6:=fJ k2;have kv:=(hgv _ (ai [] k2)).1;have g1:=hPs 0 hk0;have g2:=hYs 0 hk0;have c8:aH 119 [E 1] (N 1):=B9 1 oC;generalize kids.getD 0 0=kk at*;simp only[rB]at e5;have hk01: ∀ _:True,(0:Int)<(kids.length:Int):=fun _=>oO
    refine jA (aN @l1 (aN @l2 (aN @l3 (aN @l4 (aN @l5 (aN @e1 (aN @e2 (aN @x3 @hkz)))))))) @c3 ?_;refine aq ?_;refine jA (aN @l3 (aN @l5 (aN @e5 (aN @e6 (hk01 oT))))) @c8 ?_;refine ah (α:=Nat) (fun k=>kids.length-(k+1)) (fun k=>⟨[(2, .p 1000 0 0),(3, .p 1001 0 0),(5, .v (.s q)),(36, .v (.sl (G.map Gt.pv))),(37,E' G.length),(38,E' j),(7, .p 1032 0 0),(9, .rs 1071 k 0 (k+2) 1),(10, .rs 1079 k 0 (k+2) 1),(90, .v (.sl (kids.map rB))),(91,E' kids.length),(92,E' (k+1))],[(1000,⟨0,[.v (.sl (lv.map aT.pv)), .v (.sl (G.map Gt.pv))],false,none⟩),(1001,⟨0,[.v (.sl (gs.map .s)), .v (.sl (X.map jV))],false,none⟩),(1032,⟨0,[.v (E (m:Int)), .v (.sl (kids.map rB)), .v (E leaf)],false,some 174⟩),(1071,⟨k,aP fY (P.take (k+2)),true,some 22⟩),(1079,⟨k,aP fY (Y.take (k+2)),true,some 22⟩)],1084⟩) (fun k=>k+1<=kids.length) 0 (fun _=>cd rfl) hk0 ?_ ?_
    ·rw[g1,g2,rU,rU,hP1,hY1,fA kv];rw[show aP fY [num (gs.getD j [])]=[.v (.s (gs.getD j []))] by show[AV.v (N _)]= _;rw[fA hYv]]
     rw[show aP fY [0]=[AV.v (.s [])]from rfl]
     simp only[List.cons_append,List.nil_append];exact lE
    ·clear e5 k1 k2 e6 kv g1 g2 c8;intro k hk' R' hR';have hj1:(P.take (k+2)).length=k+2:=by rw[bQ];omega
     have hj2:(Y.take (k+2)).length=k+2:=by rw[bQ];omega
     have b1:=bT sT (P.take (k+2));have b2:=cf sT (P.take (k+2));have b5:=bT sT (Y.take (k+2));have b6:=cf sT (Y.take (k+2));rw[hj1,dr]at b1 b2;rw[hj2,dr]at b5 b6
     by_cases hkt:k+1<kids.length
     ·have e5:=getD_map rB kids 0 hkt;obtain⟨k1,k2⟩:=hkd _ hkt;have e6:=fJ k2;have kv:=(hgv _ (ai [] k2)).1;have g1:=hPs _ hkt;have g2:=hYs _ hkt;have c8:=B9 (k+2) oO;rw[show(((k+2:Nat)):Int)=(k:Int)+1+1 by omega]at c8
      have hg':=hR' (k+1) oO oO;rw[g1,g2,rU,rU,fA kv]at hg';clear hR' hgo hbad g1 g2 hPs hYs;generalize kids.getD (k+1) 0=kk at*;generalize gs.getD kk.toNat []=xx at*;simp only[rB]at e5;refine gR (aN @l3 (aN @l5 (aN @e5 (aN @e6 (aN @b1 (aN @b2 (aN @b5 @b6))))))) @c8 ?_;refine hg' _ ?_
      (refine AS.Le.of (by first|decide|omega) ?_ ?_<;>simp[cU,cT,aO,az,AV.bd,AV.bd.bdL,u8,aj,ak,an])
      all_goals ((repeat' apply And.intro)<;>(intro c hc;first|exact bj hc|(rcases hc with h|h<;>first|exact bj h|(rcases h with rfl|rfl<;>rfl)|(subst h;rfl))))
     ·clear hR';have hkp:k+2=P.length:=oO;have hky:k+2=Y.length:=oO;rw[show P.take (k+2)=P from cQ oO]at*
      rw[show Y.take (k+2)=Y from cQ oO]at*
      clear hPs hYs;cases fb
      ·rw[hbad rfl];repeat' first|simp only[go_sem,seval,l5,x6,b1,b2,b5,b6]|(refine Ma (l:=Y) (g:=fY) (gr:=true) (el:=some 22) c5 sT rfl (by simp[az]) hky rfl ?_)|refine cP c6 ?_|(refine L9 (l:=P) (g:=fY) (l':=Y) (g':=fY) (gr:=true) (gr':=true) (el:=some 22) (el':=some 22) c7 sT sT rfl (by simp[az]) (by simp[az]) hkp hky rfl rfl ?_)|refine oE ?_|apply xX<;>intro hc
       all_goals rfl
      ·have hg2:=hgo rfl;clear hgo hbad;repeat' first|simp only[go_sem,seval,l5,x6,b1,b2,b5,b6]|(refine Ma (l:=Y) (g:=fY) (gr:=true) (el:=some 22) c5 sT rfl (by simp[az]) hky rfl ?_)|refine cP c6 ?_|(refine L9 (l:=P) (g:=fY) (l':=Y) (g':=fY) (gr:=true) (gr':=true) (el:=some 22) (el':=some 22) c7 sT sT rfl (by simp[az]) (by simp[az]) hkp hky rfl rfl ?_)|refine oE ?_|apply xX<;>intro hc
       refine hg2 _ ?_;exact lE
  ·obtain rfl:j=G.length:=oO;have hg:Hk (num q) G gs=true:=nu fun j hj=>hf j hj
   rw[hg];exact fz @l2
