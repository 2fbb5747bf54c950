/-
  Part of the proof, part KC25. Own work.
-/
import Derived.Test.YtmobkhegihemeaaGreatDoorKC23
set_option linter.all false
namespace Go.Proofs.YtmobkhegihemeaaGreatDoor
open Go Go.Dom
set_option maxRecDepth 100000
set_option maxHeartbeats 8000000
theorem EO {n k:Nat} (h1:2^k≤n) (h2:n<2^(k+1)):cd n=k+1:=by
 have hp:0<2^k:=fL (by decide)
 unfold cd;rw[if_neg (by omega),(Nat.log2_eq_iff (by omega)).2 ⟨h1,h2⟩]
theorem p9 (n:Nat):n<2^cd n:=by
 unfold cd;split
 ·rename_i h;rw[h];decide
 ·exact rp
theorem pZ {n:Nat} (h:n≠0):2^(cd n-1)≤n∧0<cd n:=by
 unfold cd;rw[if_neg h];exact⟨Nat.log2_self_le h,by omega⟩
theorem Gx {n:Nat} (h:n≠0):cd n=cd (n/2)+1:=by
 obtain⟨h1,h2⟩:=pZ h;have h3:=p9 n;obtain⟨k,hk⟩: ∃k,cd n=k+1:=⟨cd n-1,by omega⟩
 rw[hk]at h1 h3⊢;simp only[kn]at h1
 cases k with
 |zero=>
  have:n/2=0:=by simp at h3;omega
  rw[this];rfl
 |succ k=>
  rw[Nat.pow_succ]at h1 h3;rw[EO (n:=n/2) (k:=k) (by omega) (by omega)]
theorem Gw {c:UInt8} (r:Bytes) (h:c≠0):cd (num (c::r))=8*r.length+cd c.toNat:=by
 have hc:c.toNat≠0:=fun e=>h (jd.1 e)
 obtain⟨h1,h2⟩:=pZ hc;have h3:=p9 c.toNat;have e256:256^r.length=2^(8*r.length):=by rw[show 256=2^8 from rfl,←jb]
 have hn:num (c::r)=c.toNat*256^r.length+num r:=rfl;have hr:=bV r;have a1:2^(8*r.length+cd c.toNat-1)=2^(cd c.toNat-1)*256^r.length:=by rw[e256,←ct];congr 1;omega
 have a2:2^(8*r.length+cd c.toNat-1+1)=2^cd c.toNat*256^r.length:=by rw[e256,←ct];congr 1;omega
 have b1:=cC (256^r.length) h1;have b2:=cC (256^r.length) (show c.toNat+1≤2^cd c.toNat from h3)
 rw[cr]at b2;rw[EO (k:=8*r.length+cd c.toNat-1) (by omega) (by omega)]
 omega
theorem PG (x:Nat):(x:Int).tdiv 2=((x/2:Nat):Int):=rfl
theorem wY {a:Bytes} (h:Canon a) (la:a.length<1048576):aD Tryz.prog 150 [.s a] (E (cd (num a))):=by
 cases a with
 |nil=>
  refine eW Tryz.call150 Tryz.func150 ?_;repeat' first|simp only[go_sem,seval,nn]|refine sB ?_|(first|apply pX|apply bX)<;>intro hc|refine⟨oD,?_⟩|exact oD|fail
  rfl
 |cons c r=>
  have hc0:c≠0:=by rcases h with e|e;cases e;exact e
  have hb:=Gw r hc0;obtain⟨B,hB⟩: ∃B,B=cd (num (c::r)):=⟨_,rfl⟩;rw[←hB]at hb⊢;have hcl:=c.toNat_lt;have hl:r.length<1048576:=by simp at la;omega
  have hb8:cd c.toNat≤8:=by
   obtain⟨g1,g2⟩:=pZ (n:=c.toNat) (fun e=>hc0 (jd.1 e))
   have:=(oN (by decide:1<2)).1 (show 2^(cd c.toNat-1)<2^8 by omega)
   omega
  refine eW Tryz.call150 Tryz.func150 ?_;repeat' first|simp only[go_sem,seval,cn]|refine sB ?_|(first|apply pX|apply bX)<;>intro hc|refine⟨oD,?_⟩|exact oD|fail
  refine aj (α:=Nat) (fun x=>x) (fun x=>⟨[(3,E' (B-cd x)),(4,E' x)],[],_⟩) (fun x=>x<256∧cd x≤B) c.toNat (fun _=>au _) ⟨hcl,by omega⟩ ?_ ?_
  ·(refine AS.Le.of (by first|decide|omega) ?_ ?_<;>simp[cl,cj,aF,ar,AV.bd,AV.bd.bdL,u8,ah,ai,aq])
   all_goals omega
  ·rintro x ⟨hx,hxb⟩ R hR
   by_cases h0:x=0
   ·subst h0;repeat' first|simp only[go_sem,seval]|refine sB ?_|(first|apply pX|apply bX)<;>intro hc|refine⟨oD,?_⟩|exact oD|fail
    rfl
   ·have hh:=Gx h0;have hw: ∀ _:True,IntKind.i64.wrap (((B-cd x:Nat):Int)+1)=((B-cd (x/2):Nat):Int):=fun _=>by rw[IntWalk.i64_in _ (by omega)];omega
    repeat' first|simp only[go_sem,seval,PG,hw trivial]|refine sB ?_|(first|apply pX|apply bX)<;>intro hc|refine⟨oD,?_⟩|exact oD|fail
    refine hR (x/2) ⟨by omega,by omega⟩ (by omega) _ ?_
    exact lE
theorem FU (a:Bytes) (i:Nat) (la:a.length<1048576) (hi:i<1099511627776):aD Tryz.prog 152 [.s a,E i] (.b ((num a).testBit i)):=by
 have hd:=pF a (i/8) (by omega)
 have e0:(i:Int).tdiv 8=((i/8:Nat):Int):=rfl;have e1:(i:Int).tmod 8=((i%8:Nat):Int):=rfl;have key:(num a).testBit i=decide (num a/256^(i/8)%256/2^(i%8)%2=1):=by
  rw[jS];congr 1;have e2:256^(i/8)=2^(8*(i/8)):=by rw[show 256=2^8 from rfl,←jb]
  have e3:2^i=256^(i/8)*2^(i%8):=by rw[e2,←ct];congr 1;omega
  rw[e3,←dZ];generalize num a/256^(i/8)=z;have h8:i%8<8:=aG _ (by decide)
  generalize i%8=j at h8;have:2^j*2^(8-j)=256:=by rw[←ct,show j+(8-j)=8 by omega]
  have e5:z%256/2^j=z/2^j%2^(8-j):=by rw[←this,oU]
  rw[e5];have e6:2^(8-j)=2*2^(7-j):=by rw[←tY];congr 1;omega
  rw[e6,Nat.mod_mul_right_mod]
 rw[key];clear key;obtain⟨d,hdd⟩: ∃d,d=num a/256^(i/8)%256:=⟨_,rfl⟩;rw[←hdd]at hd⊢;have hdl:d<256:=by rw[hdd];exact aG _ (by decide)
 obtain⟨e,he⟩: ∃e,e=i%8:=⟨_,rfl⟩;rw[←he]at e1⊢;clear hdd;refine eW Tryz.call152 Tryz.func152 ?_;repeat' first|simp only[go_sem,seval,e0,e1]|refine cP hd ?_|refine sB ?_|(first|apply pX|apply bX)<;>intro hc|refine⟨oD,?_⟩|exact oD|fail
 refine aj (α:=Nat) (fun j=>e-j) (fun j=>⟨[(1,E' i),(5,E' (d/2^j)),(6,E' j)],[],_⟩) (fun j=>j≤e) 0 (fun _=>au _) (aL _) ?_ ?_
 ·(refine AS.Le.of (by first|decide|omega) ?_ ?_<;>simp[cl,cj,aF,ar,AV.bd,AV.bd.bdL,u8,ah,ai,aq])
  all_goals simp
 ·intro j hj R hR;have hle:d/2^j≤d:=dR _ _
  by_cases hlt:j<e
  ·have hw: ∀ _:True,IntKind.i64.wrap ((d/2^j/2:Nat):Int)=((d/2^(j+1):Nat):Int):=fun _=>by
    rw[Nat.pow_succ,←dZ];generalize d/2^j=z at hle⊢;rw[IntWalk.i64_in _ (by omega)]
   repeat' first|simp only[go_sem,seval,e1,PG,hw trivial]|refine sB ?_|(first|apply pX|apply bX)<;>intro hc|refine⟨oD,?_⟩|exact oD|fail
   refine hR (j+1) (by omega) (by omega) _ ?_
   exact lE
  ·obtain rfl:j=e:=by omega
   have e3:((d/2^j:Nat):Int).tmod 2=((d/2^j%2:Nat):Int):=rfl;repeat' first|simp only[go_sem,seval,e1,e3]|refine sB ?_|(first|apply pX|apply bX)<;>intro hc|refine⟨oD,?_⟩|exact oD|fail
   congr 1;rw[dx];simp only[beq_iff_eq,decide_eq_true_eq];omega
theorem KS {x y:Nat} (hx:(aP x).length<1099511627776) (hy:(aP y).length<1099511627776):aD Tryz.prog 151 [N x,N y] (N (x+y)):=by
 have:=Cm (aP x) (aP y) hx hy
 rwa[aK,aK]at this
theorem Of {x y:Nat} (hx:(aP x).length<1099511627776) (hy:(aP y).length<1099511627776) (h:y≤x):aD Tryz.prog 101 [N x,N y] (N (x-y)):=by
 have:=sC (aP x) (aP y) hx hy (by rw[aK,aK];exact h)
 rwa[aK,aK]at this
theorem FV {x y:Nat} (hx:(aP x).length<1099511627776) (hy:(aP y).length<1099511627776):aD Tryz.prog 87 [N x,N y] (E (a6 x y)):=by
 have:=kI (gH x) (gH y) (by omega) (by omega)
 rwa[aK,aK]at this
theorem FG:(.s [1]:PV)=N 1:=rfl
theorem MD (n:Nat):be n 0=List.replicate n 0:=by
 induction n with
 |zero=>rfl
 |succ n ih=>rw[be,ih,Nat.zero_div,List.replicate_succ];rfl
theorem xb {a b:Bytes} (ha:Canon a) (hb:Canon b) (h0:0<num b) (la:a.length<1048576) (lb:b.length<1048576):aD Tryz.prog 100 [.s a, .s b] (.tup [N (num a/num b),N (num a%num b)]):=by
 by_cases h8:a.length≤8∧b.length≤8
 ·have hu1:=qH a h8.1;have hu2:=qH b h8.2;have na:=ep h8.1;have nb:=ep h8.2;have hq:num a/num b<18446744073709551616:=dQ (dR _ _) na;have hr:num a%num b<18446744073709551616:=dQ (Nat.mod_le _ _) na;refine eW Tryz.call100 Tryz.func100 ?_;repeat' first|simp only[go_sem,seval,uw,bA hq]|refine cP hu1 ?_|refine cP hu2 ?_|refine cP (gP _ hq) ?_|refine cP (gP _ hr) ?_|refine sB ?_|(first|apply pX|apply bX)<;>intro hc|refine⟨oD,?_⟩|exact oD|fail
 have hbits:=wY ha la;obtain⟨n,hn⟩: ∃n,n=a.length:=⟨_,rfl⟩;have hone:=fun i hi=>FU a i la hi
 have hAn:num a<256^n:=by rw[hn];exact bV a
 obtain⟨A,hA⟩: ∃A,A=num a:=⟨_,rfl⟩;obtain⟨B,hB⟩: ∃B,B=num b:=⟨_,rfl⟩;have hbB:aP B=b:=by rw[hB];exact ER hb
 have hBl:(aP B).length<1048576:=by rw[hbB];exact lb
 have hlen: ∀{x:Nat},x<2*B→(aP x).length<1099511627776:=by
  intro x hx;have h1:B<256^b.length:=by rw[hB];exact bV b
  have h2:x<256^(b.length+1):=by rw[Nat.pow_succ];omega
  have:=mT.2 h2;omega
 have hbl:cd A<8388608:=by
  by_cases hz:A=0
  ·rw[hz];decide
  ·obtain⟨g1,g2⟩:=pZ hz;have g3:2^(cd A-1)<2^(8*n):=dQ g1 (by rw[jb];rw[hA];exact hAn)
   have:=(oN (by decide:1<2)).1 g3
   omega
 rw[←hA]at hbits hone hAn⊢;rw[←hB]at h0⊢;have eb:PV.s b=N B:=by show PV.s b=PV.s (aP B);rw[hbB]
 have hb2:A/2^cd A=0:=gn (p9 A);rcases(show 8<a.length∨(a.length≤8∧8<b.length) by omega)with g|g
 all_goals
  refine eW Tryz.call100 Tryz.func100 ?_;simp only[go_sem,seval,←hn];repeat' first|simp only[go_sem,seval,←hn,mn]|refine cP hbits ?_|refine sB ?_|(first|apply pX|apply bX)<;>intro hc|refine⟨oD,?_⟩|exact oD|fail
  refine aj (α:=Nat) (fun k=>k) (fun k=>⟨[(0, .v (.s a)),(1, .v (.s b)),(8, .rs 1012 0 0 n 1),(9, .v (N (A/2^k%B))),(10, .v (.i .i64 ((k:Int)-1)))],[(1012,⟨0,aC (be n (A/2^k/B*2^k)),false,none⟩)],_⟩) (fun k=>k≤cd A) (cd A) (fun _=>au _) (au _) ?_ ?_
  ·(refine AS.Le.of (by first|decide|omega) ?_ ?_<;>simp[cl,cj,aF,ar,AV.bd,AV.bd.bdL,u8,ah,ai,aq])
   all_goals simp[hb2,MD]
   all_goals rfl
  ·intro k hk R hR;have hbe: ∀q,(be n q).length=n:=fun q=>b9 _ _
   cases k with
   |zero=>
    have:=oe (be n (A/1/B)) (by rw[b9];omega)
    repeat' first|simp only[go_sem,seval,hbe]|(refine fT this rfl rfl (hbe _).symm ?_)|refine sB ?_|(first|apply pX|apply bX)<;>intro hc|refine⟨oD,?_⟩|exact oD|fail
    rw[iY,iR (dQ (dR _ _) hAn)]
   |succ i=>
    have hz:=BM A i;have ht:A/2^i%2<2:=aG _ (by decide)
    obtain⟨s1,s2⟩:=Ji (z:=A/2^(i+1)) (t:=A/2^i%2) (B:=B) h0 ht;rw[←hz]at s1 s2;have hr1:A/2^(i+1)%B<B:=aG _ h0;have hbit:=hone i (by omega)
    rw[jS]at hbit;have hQn:A/2^i/B*2^i≤A:=fg (cC _ (dR _ _)) (oV _ _);obtain⟨Q,hQ⟩: ∃Q,Q=A/2^(i+1)/B:=⟨_,rfl⟩;obtain⟨r,hr⟩: ∃r,r=A/2^(i+1)%B:=⟨_,rfl⟩;obtain⟨t,htt⟩: ∃t,t=A/2^i%2:=⟨_,rfl⟩;rw[←hQ,←hr,←htt]at s1;rw[←hr,←htt]at s2;rw[←hr]at hr1;rw[←htt]at ht hbit;rw[←hQ,←hr];have hQ2:Q*2^(i+1)=2*Q*2^i:=by rw[Nat.pow_succ,a7 (2^i),←bY,a7 Q]
    have p1:=KS (x:=r) (y:=r) (hlen (by omega)) (hlen (by omega))
    have p2:=KS (x:=r+r) (y:=1) (hlen (by omega)) (by decide)
    have hw0: ∀ _:True,((i+1:Nat):Int)-1=(i:Int):=fun _=>by omega
    have hge0: ∀ _:True,decide ((i:Int)≥0)=true:=fun _=>by simp
    have hrt:r+r+t=2*r+t:=by omega
    by_cases hge:B≤r+r+t
    ·rw[if_pos (by omega)]at s1 s2
     have m1:=Of (x:=r+r+t) (y:=B) (hlen (by omega)) (by omega) hge
     have o1:=FV (x:=r+r+t) (y:=B) (hlen (by omega)) (by omega)
     obtain⟨cm,hcm⟩: ∃cm,cm=a6 (r+r+t) B:=⟨_,rfl⟩;have hcg: ∀ _:True,decide (cm≥0)=true:=fun _=>by rw[hcm];unfold a6;rw[if_neg (by omega)];split<;>rfl
     rw[←hcm]at o1;rw[←eb]at m1 o1;have s2':A/2^i%B=r+r+t-B:=by rw[s2];omega
     have s1':A/2^i/B*2^i=Q*2^(i+1)+2^(i%8)*256^(i/8):=by rw[s1,cr,IQ,hQ2,ko]
     have hbf:=IU (Q:=Q) (i:=i);have hj:i/8<n:=by
      have h1:256^(i/8)≤A:=by
       rw[s1']at hQn;have:=A2 (256^(i/8)) (fL (n:=i%8) (show 0<2 by decide))
       omega
      exact(oN (by decide:1<256)).1 (dQ h1 hAn)
     have hadd:=QP hj hbf;rw[←s1']at hadd;have hq1:(i:Int).tdiv 8=((i/8:Nat):Int):=rfl;have hq2:(i:Int).tmod 8=((i%8:Nat):Int):=rfl;have hix: ∀ _:True,((n:Int)-1-((i/8:Nat):Int)).toNat=n-1-i/8:=fun _=>by omega
     have hdig:=sj (be n (Q*2^(i+1))) (i:=i/8) (by rw[b9];exact hj)
     rw[b9,wI]at hdig;have hdig2:Q*2^(i+1)%256^n/256^(i/8)%256=Q*2^(i+1)/256^(i/8)%256:=by
      have this:Q*2^(i+1)≤A/2^i/B*2^i:=by rw[s1'];exact Nat.le_add_right _ _
      rw[bA (dQ (fg this hQn) hAn)]
     rw[hdig2]at hdig;obtain⟨L,hL⟩: ∃L,L=be n (Q*2^(i+1)):=⟨_,rfl⟩;have hLl:L.length=n:=by rw[hL];exact b9 _ _
     obtain⟨y,hy⟩: ∃y,y=Q*2^(i+1)/256^(i/8)%256:=⟨_,rfl⟩;rw[←hL,←hy]at hadd hdig;rw[←hy]at hbf;rw[←hL];have hrd: ∀ _:True,(aC L).getD (n-1-i/8) .u= .v (.i .u8 (y:Int)):=fun _=>by
      have:n-1-i/8<L.length:=by omega
      rw[←hdig];simp[aC,aX,this,u8]
     have he7:i%8<8:=aG _ (by decide)
     clear hQ hr htt hz hQ2 hdig2 hL hy;rcases(show t=0∨t=1 by omega)with h0|h1
     ·subst h0;have hbit':aD Tryz.prog 152 [.s a,E i] (.b false):=hbit;repeat' first|simp only[go_sem,seval,hw0 trivial,hge0 trivial,hcg trivial]|refine cP p1 ?_|refine cP hbit' ?_|refine cP o1 ?_|refine cP m1 ?_|refine sB ?_|(first|apply pX|apply bX)<;>intro hc|refine⟨oD,?_⟩|exact oD|fail
      refine aj (α:=Nat) (fun j=>i%8-j) (fun j=>⟨[(0, .v (.s a)),(1, .v (.s b)),(8, .rs 1012 0 0 n 1),(9, .v (N (r+r-B))),(10, .v (.i .i64 (i:Int))),(11, .v (.i .u8 ((2^j:Nat):Int))),(12, .v (.i .i64 (j:Int)))],[(1012,⟨0,aC L,false,none⟩)],_⟩) (fun j=>j≤i%8) 0 (fun _=>au _) (aL _) ?_ ?_
      ·exact lE
      ·intro j hj R2 hR2
       by_cases hlt:j<i%8
       ·have hp7:2^(j+1)≤2^7:=cQ (by decide) (by omega)
        have hwj: ∀ _:True,IntKind.u8.wrap (((2^j:Nat):Int)*2)=((2^(j+1):Nat):Int):=fun _=>by
         rw[SF,Nat.pow_succ,Int.natCast_mul];rw[Nat.pow_succ]at hp7;omega
        repeat' first|simp only[go_sem,seval,hq2,hwj trivial]|refine sB ?_|(first|apply pX|apply bX)<;>intro hc|refine⟨oD,?_⟩|exact oD|fail
        refine hR2 (j+1) (by omega) (by omega) _ ?_
        exact lE
       ·obtain rfl:j=i%8:=by omega
        repeat' first|simp only[go_sem,seval,←hn,hq1,hq2,hLl,hix trivial,hrd trivial]|refine sB ?_|(first|apply pX|apply bX)<;>intro hc|refine⟨oD,?_⟩|exact oD|fail
        refine hR i (by omega) (by omega) _ ?_
        rw[s2',qc (c:=UInt8.ofNat (y+2^(i%8))) (by omega) (by rw[←Int.natCast_add,jO]),hadd]
        exact lE
     ·subst h1;have hbit':aD Tryz.prog 152 [.s a,E i] (.b true):=hbit;repeat' first|simp only[go_sem,seval,hw0 trivial,hge0 trivial,hcg trivial,FG]|refine cP p1 ?_|refine cP hbit' ?_|refine cP p2 ?_|refine cP o1 ?_|refine cP m1 ?_|refine sB ?_|(first|apply pX|apply bX)<;>intro hc|refine⟨oD,?_⟩|exact oD|fail
      refine aj (α:=Nat) (fun j=>i%8-j) (fun j=>⟨[(0, .v (.s a)),(1, .v (.s b)),(8, .rs 1012 0 0 n 1),(9, .v (N (r+r+1-B))),(10, .v (.i .i64 (i:Int))),(11, .v (.i .u8 ((2^j:Nat):Int))),(12, .v (.i .i64 (j:Int)))],[(1012,⟨0,aC L,false,none⟩)],_⟩) (fun j=>j≤i%8) 0 (fun _=>au _) (aL _) ?_ ?_
      ·exact lE
      ·intro j hj R2 hR2
       by_cases hlt:j<i%8
       ·have hp7:2^(j+1)≤2^7:=cQ (by decide) (by omega)
        have hwj: ∀ _:True,IntKind.u8.wrap (((2^j:Nat):Int)*2)=((2^(j+1):Nat):Int):=fun _=>by
         rw[SF,Nat.pow_succ,Int.natCast_mul];rw[Nat.pow_succ]at hp7;omega
        repeat' first|simp only[go_sem,seval,hq2,hwj trivial]|refine sB ?_|(first|apply pX|apply bX)<;>intro hc|refine⟨oD,?_⟩|exact oD|fail
        refine hR2 (j+1) (by omega) (by omega) _ ?_
        exact lE
       ·obtain rfl:j=i%8:=by omega
        repeat' first|simp only[go_sem,seval,←hn,hq1,hq2,hLl,hix trivial,hrd trivial]|refine sB ?_|(first|apply pX|apply bX)<;>intro hc|refine⟨oD,?_⟩|exact oD|fail
        refine hR i (by omega) (by omega) _ ?_
        rw[s2',qc (c:=UInt8.ofNat (y+2^(i%8))) (by omega) (by rw[←Int.natCast_add,jO]),hadd]
        exact lE
    ·rw[if_neg (by omega)]at s1 s2
     have o1:=FV (x:=r+r+t) (y:=B) (hlen (by omega)) (by omega)
     have hcm:a6 (r+r+t) B= -1:=by unfold a6;rw[if_pos (by omega)]
     rw[hcm,←eb]at o1;have s2':A/2^i%B=r+r+t:=by rw[s2];omega
     have s1':A/2^i/B*2^i=Q*2^(i+1):=by rw[s1,hQ2];rfl
     clear hQ hr htt hz hQ2;have hR':=hR i (by omega) (by omega)
     rw[s1',s2']at hR';rcases(show t=0∨t=1 by omega)with h0|h1
     ·subst h0;have hbit':aD Tryz.prog 152 [.s a,E i] (.b false):=hbit;repeat' first|simp only[go_sem,seval,hw0 trivial,hge0 trivial]|refine cP p1 ?_|refine cP hbit' ?_|refine cP o1 ?_|refine sB ?_|(first|apply pX|apply bX)<;>intro hc|refine⟨oD,?_⟩|exact oD|fail
      refine hR' _ ?_;exact lE
     ·subst h1;have hbit':aD Tryz.prog 152 [.s a,E i] (.b true):=hbit;repeat' first|simp only[go_sem,seval,hw0 trivial,hge0 trivial,FG]|refine cP p1 ?_|refine cP hbit' ?_|refine cP p2 ?_|refine cP o1 ?_|refine sB ?_|(first|apply pX|apply bX)<;>intro hc|refine⟨oD,?_⟩|exact oD|fail
      refine hR' _ ?_;exact lE
theorem FT (a:Bytes):aD Tryz.prog 232 [.s a] (.tup [.s (if a.length≤128 then a else[]),E (if a.length≤128 then 0 else 5)]):=by
 refine eW Tryz.call232 Tryz.func232 ?_;repeat' first|simp only[go_sem,seval]|refine sB ?_|(first|apply pX|apply bX)<;>intro hc|refine⟨oD,?_⟩|exact oD|fail
 ·have h: ¬a.length≤128:=by omega
  simp[h]
 ·have h:a.length≤128:=by omega
  simp[h]
theorem Ob (a b:Bytes):aD Tryz.prog 354 [.s a, .s b] (.tup [.s (xM a b).1,E (xM a b).2]):=by
 by_cases hv:aa a=true∧aa b=true
 case neg=>
  refine eW Tryz.call354 Tryz.func354 ?_;repeat' first|simp only[go_sem,seval]|refine cP (aO _) ?_|refine sB ?_|(first|apply pX|apply bX)<;>intro hc|refine⟨oD,?_⟩|exact oD|fail
  all_goals simp_all[xM]
 have la:=cI hv.1;have lb:=cI hv.2;have hp:=Cm a b (by omega) (by omega)
 refine eW Tryz.call354 Tryz.func354 ?_;repeat' first|simp only[go_sem,seval]|refine cP (aO _) ?_|refine cP hp ?_|refine cP (FT _) ?_|refine sB ?_|(first|apply pX|apply bX)<;>intro hc|refine⟨oD,?_⟩|exact oD|fail
 all_goals simp only[oz,xM,hv.1,hv.2,dh,if_true]
 all_goals (split<;>simp_all)
theorem Oh (a b:Bytes):aD Tryz.prog 355 [.s a, .s b] (.tup [.s (sK a b).1,E (sK a b).2]):=by
 by_cases hv:aa a=true∧aa b=true
 case neg=>
  refine eW Tryz.call355 Tryz.func355 ?_;repeat' first|simp only[go_sem,seval]|refine cP (aO _) ?_|refine sB ?_|(first|apply pX|apply bX)<;>intro hc|refine⟨oD,?_⟩|exact oD|fail
  all_goals simp_all[sK]
 have la:=cI hv.1;have lb:=cI hv.2;have ho:=kI (bE hv.1) (bE hv.2) (by omega) (by omega)
 have v1:=aO a;have v2:=aO b;rw[hv.1]at v1;rw[hv.2]at v2;refine eW Tryz.call355 Tryz.func355 ?_;repeat' first|simp only[go_sem,seval]|refine cP v1 ?_|refine cP v2 ?_|refine cP ho ?_|(refine dF (sC a b (by omega) (by omega) (by rw[fS]at hc;omega)) rfl ?_)|refine sB ?_|(first|apply pX|apply bX)<;>intro hc|refine⟨oD,?_⟩|exact oD|fail
 ·rw[fS]at hc;simp[sK,hv.1,hv.2,show¬num b≤num a by omega]
 ·rw[fS]at hc;simp[sK,hv.1,hv.2,show num b≤num a by omega]
theorem Og (a b:Bytes):aD Tryz.prog 157 [.s a, .s b] (.tup [.s (tB a b).1,E (tB a b).2]):=by
 by_cases hv:aa a=true∧aa b=true
 case neg=>
  refine eW Tryz.call157 Tryz.func157 ?_;repeat' first|simp only[go_sem,seval]|refine cP (aO _) ?_|refine sB ?_|(first|apply pX|apply bX)<;>intro hc|refine⟨oD,?_⟩|exact oD|fail
  all_goals simp_all[tB]
 have la:=cI hv.1;have lb:=cI hv.2;have hp:=HL a b (by omega) (by omega)
 refine eW Tryz.call157 Tryz.func157 ?_;repeat' first|simp only[go_sem,seval]|refine cP (aO _) ?_|refine cP hp ?_|refine cP (FT _) ?_|refine sB ?_|(first|apply pX|apply bX)<;>intro hc|refine⟨oD,?_⟩|exact oD|fail
 all_goals simp only[oz,tB,hv.1,hv.2,dh,if_true]
 all_goals (split<;>simp_all)
theorem D3 (a b:Bytes):aD Tryz.prog 231 [.s a, .s b] (.tup [.s (qm a b).1, .s (qm a b).2.1,E (qm a b).2.2]):=by
 by_cases hv:aa a=true∧aa b=true
 case neg=>
  refine eW Tryz.call231 Tryz.func231 ?_;repeat' first|simp only[go_sem,seval]|refine cP (aO _) ?_|refine sB ?_|(first|apply pX|apply bX)<;>intro hc|refine⟨oD,?_⟩|exact oD|fail
  all_goals simp_all[qm]
 have la:=cI hv.1;have lb:=cI hv.2
 by_cases h0:b=[]
 ·subst h0;refine eW Tryz.call231 Tryz.func231 ?_;repeat' first|simp only[go_sem,seval,nn]|refine cP (aO _) ?_|refine sB ?_|(first|apply pX|apply bX)<;>intro hc|refine⟨oD,?_⟩|exact oD|fail
  all_goals simp_all[qm]
 have hp:=qA (bE hv.2) h0;have ho:=xb (bE hv.1) (bE hv.2) hp (by omega) (by omega)
 refine eW Tryz.call231 Tryz.func231 ?_;repeat' first|simp only[go_sem,seval]|refine cP (aO _) ?_|refine cP ho ?_|refine sB ?_|(first|apply pX|apply bX)<;>intro hc|refine⟨oD,?_⟩|exact oD|fail
 all_goals simp_all[qm]
theorem sE (a:Bytes):aD Tryz.prog 16 [.s a] (.tup [.i .u64 (if aa a&&decide (a.length≤8)then num a else 0), .b (aa a&&decide (a.length≤8))]):=by
 by_cases h:aa a=true∧a.length≤8
 ·have hu:=qH a h.2;refine eW Tryz.call16 Tryz.func16 ?_;repeat' first|simp only[go_sem,seval]|refine cP (aO _) ?_|refine cP hu ?_|refine sB ?_|(first|apply pX|apply bX)<;>intro hc|refine⟨oD,?_⟩|exact oD|fail
  all_goals simp_all
 ·refine eW Tryz.call16 Tryz.func16 ?_;repeat' first|simp only[go_sem,seval]|refine cP (aO _) ?_|refine sB ?_|(first|apply pX|apply bX)<;>intro hc|refine⟨oD,?_⟩|exact oD|fail
  all_goals simp_all
  all_goals omega
theorem HJ {a:Bytes} (h:aa a=true):aD Tryz.prog 236 [.s a] (E (cd (num a))):=by
 have la:=cI h;have hb:=wY (bE h) (by omega)
 refine eW Tryz.call236 Tryz.func236 ?_;repeat' first|simp only[go_sem,seval]|refine cP (aO _) ?_|refine cP hb ?_|refine sB ?_|(first|apply pX|apply bX)<;>intro hc|refine⟨oD,?_⟩|exact oD|fail
 all_goals simp_all
theorem Oc {a:Bytes} (h:aa a=true) (i:Nat) (hi:i<1099511627776):aD Tryz.prog 237 [.s a,E i] (.b ((num a).testBit i)):=by
 have la:=cI h;have hb:=wY (bE h) (by omega)
 have ho:=FU a i (by omega) hi
 have hv:=aO a;rw[h]at hv;have hlt: ¬i<cd (num a)→(num a).testBit i=false:=by
  intro g;rw[jS,gn (a9 (p9 _) (cQ (by decide) (by omega)))];rfl
 generalize (num a).testBit i=tb at*;refine eW Tryz.call237 Tryz.func237 ?_;repeat' first|simp only[go_sem,seval]|refine cP hv ?_|refine cP hb ?_|refine cP ho ?_|refine sB ?_|(first|apply pX|apply bX)<;>intro hc|refine⟨oD,?_⟩|exact oD|fail
 all_goals simp_all
 all_goals (first|omega|skip)
theorem KP {a b:Nat} (ha:a<du) (hb:b<du):aD Tryz.prog 103 [N a,N b] (N (Nat.gcd a b)):=by
 have hlim: ∀{x:Nat},x<du→(aP x).length<1048576:=fun h=>by have:=oz.2 h;omega
 refine eW Tryz.call103 Tryz.func103 ?_;simp only[go_sem,seval];refine aj (α:=Nat×Nat) (fun x=>x.2) (fun x=>⟨[(0, .v (N x.1)),(1, .v (N x.2))],[],_⟩) (fun x=>x.1<du∧x.2<du∧Nat.gcd x.1 x.2=Nat.gcd a b) (a,b) (fun _=>au _) ⟨ha,hb,rfl⟩ ?_ ?_
 ·exact lE
 ·rintro⟨x,y⟩ ⟨hx,hy,hg⟩ R hR;simp only at hx hy hg
  by_cases h0:y=0
  ·subst h0;repeat' first|simp only[go_sem,seval,DN]|refine sB ?_|(first|apply pX|apply bX)<;>intro hc|refine⟨oD,?_⟩|exact oD|fail
   rw[←hg,AJ]
  ·have e:=qz h0;have hd:=xb (gH x) (gH y) (by rw[aK];omega) (hlim hx) (hlim hy)
   rw[aK,aK]at hd;repeat' first|simp only[go_sem,seval,e]|refine cP hd ?_|refine sB ?_|(first|apply pX|apply bX)<;>intro hc|refine⟨oD,?_⟩|exact oD|fail
   have hm:x%y<y:=aG _ (by omega)
   refine hR (y,x%y) ⟨hy,by show x%y< _;omega,?_⟩ hm _ ?_
   ·show Nat.gcd y (x%y)= _;rw[←hg,jx x y,kD y x,jx]
   ·exact lE
theorem FP {a b:Nat} (h:a+b<du):aD Tryz.prog 354 [N a,N b] (.tup [N (a+b),E 0]):=by
 have:=Ob (aP a) (aP b);simp only[xM,vB (show a<du by omega),vB (show b<du by omega),dh,if_true,aK,h]at this
 exact this
theorem FW {a b:Nat} (h:b≤a) (ha:a<du):aD Tryz.prog 355 [N a,N b] (.tup [N (a-b),E 0]):=by
 have:=Oh (aP a) (aP b);simp only[sK,vB ha,vB (show b<du by omega),dh,if_true,aK,h]at this
 exact this
theorem PA {a b:Nat} (h:a*b<du) (ha:a<du) (hb:b<du):aD Tryz.prog 157 [N a,N b] (.tup [N (a*b),E 0]):=by
 have:=Og (aP a) (aP b);simp only[tB,vB ha,vB hb,dh,if_true,aK,h]at this;exact this
theorem n8 {a b:Nat} (ha:a<du) (hb:b<du) (h0:0<b):aD Tryz.prog 231 [N a,N b] (.tup [N (a/b),N (a%b),E 0]):=by
 have:=D3 (aP a) (aP b);have e:aP b≠[]:=fun h=>by rw[gI]at h;omega
 simpa only[qm,vB ha,vB hb,dh,if_true,e,if_false,aK]using this
theorem T7 {a b:Nat} (ha:a<du) (hb:b<du):aD Tryz.prog 38 [N a,N b] (E (a6 a b)):=by
 have:=tU (aP a) (aP b);simpa only[vB ha,vB hb,dh,if_true,aK]using this
theorem pG (n:Bool) (a:Bytes):aD Tryz.prog 48 [.agg [.b n, .s a]] (.b (aa a&& !(n&&a==[]))):=by
 have hv:=aO a;refine eW Tryz.call48 Tryz.func48 ?_;repeat' first|simp only[go_sem,seval]|refine cP hv ?_|refine sB ?_|(first|apply pX|apply bX)<;>intro hc|refine⟨oD,?_⟩|exact oD|fail
 all_goals simp_all
theorem Cl (n:Bool) (a:Bytes):aD Tryz.prog 229 [.b n, .s a] (.agg [.b (n&& !(a==[])), .s a]):=by
 refine eW Tryz.call229 Tryz.func229 ?_;repeat' first|simp only[go_sem,seval]|refine sB ?_|(first|apply pX|apply bX)<;>intro hc|refine⟨oD,?_⟩|exact oD|fail
 all_goals simp_all
theorem kU (b:Bool) (n:Nat) {z:Int} (h:(if b then-(n:Int)else n)=z):aD Tryz.prog 229 [.b b,N n] (Z z):=by
 have:=Cl b (aP n);rw[WH,h]at this;exact this
theorem gX {x:Int} (h:x.natAbs<du):aD Tryz.prog 48 [Z x] (.b true):=by
 have:=pG (zs x) (zb x)
 rwa[SI h]at this
theorem wZ {n:Nat} (h:n<du):aD Tryz.prog 145 [N n] (Z n):=by
 have hv:=aO (aP n);rw[vB h]at hv;have hm:=kU false n rfl;refine eW Tryz.call145 Tryz.func145 ?_;repeat' first|simp only[go_sem,seval,Z]|refine cP hv ?_|refine cP hm ?_|refine sB ?_|(first|apply pX|apply bX)<;>intro hc|refine⟨oD,?_⟩|exact oD|fail
theorem V4:aD Tryz.prog 304 [E 1] (Z 1):=by
 have h1:=gP 1 (by decide)
 have hm:=kU false 1 rfl;refine eW Tryz.call304 Tryz.func304 ?_;repeat' first|simp only[go_sem,seval,Z]|refine cP h1 ?_|refine cP hm ?_|refine sB ?_|(first|apply pX|apply bX)<;>intro hc|refine⟨oD,?_⟩|exact oD|fail
theorem V3:aD Tryz.prog 304 [E 0] (Z 0):=by
 have h1:=gP 0 (by decide)
 have hm:=kU false 0 rfl;refine eW Tryz.call304 Tryz.func304 ?_;repeat' first|simp only[go_sem,seval,Z]|refine cP h1 ?_|refine cP hm ?_|refine sB ?_|(first|apply pX|apply bX)<;>intro hc|refine⟨oD,?_⟩|exact oD|fail
theorem T9 {y:Int} (h:y.natAbs<du):aD Tryz.prog 378 [Z y] (Z (-y)):=by
 have hv:=gX h;have hm:=kU (!zs y) y.natAbs (UT y);refine eW Tryz.call378 Tryz.func378 ?_;repeat' first|simp only[go_sem,seval,Z]|refine cP hv ?_|refine cP hm ?_|refine sB ?_|(first|apply pX|apply bX)<;>intro hc|refine⟨oD,?_⟩|exact oD|fail
theorem Sl {x y:Int} (hx:x.natAbs<du) (hy:y.natAbs<du) (h:x.natAbs*y.natAbs<du):aD Tryz.prog 307 [Z x,Z y] (.tup [Z (x*y),E 0]):=by
 have v1:=gX hx;have v2:=gX hy;have hm:=PA (a:=x.natAbs) (b:=y.natAbs) h hx hy;have hk:=kU (zs x !=zs y) (x.natAbs*y.natAbs) (US x y);refine eW Tryz.call307 Tryz.func307 ?_;repeat' first|simp only[go_sem,seval,Z]|refine cP v1 ?_|refine cP v2 ?_|refine cP hm ?_|refine cP hk ?_|refine sB ?_|(first|apply pX|apply bX)<;>intro hc|refine⟨oD,?_⟩|exact oD|fail
theorem KR {x y:Int} (hx:x.natAbs<c9) (hy:y.natAbs<c9):aD Tryz.prog 307 [Z x,Z y] (.tup [Z (x*y),E 0]):=
 have hw:=Ao
 Sl (by omega) (by omega) (a9 (fO hx hy) C2)
theorem KQ {x y:Int} (hlim:x.natAbs+y.natAbs<du):aD Tryz.prog 308 [Z x,Z y] (.tup [Z (x+y),E 0]):=by
 have v1:=gX (x:=x) (by omega)
 have v2:=gX (x:=y) (by omega)
 by_cases hs:zs x=zs y
 ·have ha:=FP hlim;have hk:=kU (zs x) (x.natAbs+y.natAbs) (PL hs);have hb: ∀ _:True,(zs x==zs y)=true:=fun _=>by rw[hs];simp
  clear hs hlim;refine eW Tryz.call308 Tryz.func308 ?_;repeat' first|simp only[go_sem,seval,Z,hb trivial]|refine cP v1 ?_|refine cP v2 ?_|refine cP ha ?_|refine cP hk ?_|refine sB ?_|(first|apply pX|apply bX)<;>intro hc|refine⟨oD,?_⟩|exact oD|fail
 have hb: ∀ _:True,(zs x==zs y)=false:=fun _=>by simpa using hs
 have hcm:=T7 (a:=x.natAbs) (b:=y.natAbs) (by omega) (by omega)
 by_cases hl:y.natAbs≤x.natAbs
 ·have hd:=FW hl (by omega)
  have hk:=kU (zs x) (x.natAbs-y.natAbs) (LA hs hl);have hg: ∀ _:True,decide (a6 x.natAbs y.natAbs≥0)=true:=fun _=>decide_eq_true (jJ.2 hl)
  generalize a6 x.natAbs y.natAbs=cm at*;clear hs hlim;refine eW Tryz.call308 Tryz.func308 ?_;repeat' first|simp only[go_sem,seval,Z,hb trivial,hg trivial]|refine cP v1 ?_|refine cP v2 ?_|refine cP hcm ?_|refine cP hd ?_|refine cP hk ?_|refine sB ?_|(first|apply pX|apply bX)<;>intro hc|refine⟨oD,?_⟩|exact oD|fail
 ·have hd:=FW (a:=y.natAbs) (b:=x.natAbs) (by omega) (by omega)
  have hk:=kU (zs y) (y.natAbs-x.natAbs) (PM hs (by omega))
  have hg: ∀ _:True,decide (a6 x.natAbs y.natAbs≥0)=false:=fun _=>decide_eq_false (fun h=>hl (jJ.1 h))
  generalize a6 x.natAbs y.natAbs=cm at*;clear hs hlim;refine eW Tryz.call308 Tryz.func308 ?_;repeat' first|simp only[go_sem,seval,Z,hb trivial,hg trivial]|refine cP v1 ?_|refine cP v2 ?_|refine cP hcm ?_|refine cP hd ?_|refine cP hk ?_|refine sB ?_|(first|apply pX|apply bX)<;>intro hc|refine⟨oD,?_⟩|exact oD|fail
theorem Sj {x y:Int} (hx:x.natAbs<c9) (hy:y.natAbs<c9):aD Tryz.prog 308 [Z x,Z y] (.tup [Z (x+y),E 0]):=
 KQ (a9 (show _<c9*c9 by unfold c9 at*;omega) C2)
theorem Sm {x y:Int} (hlim:x.natAbs+y.natAbs<du):aD Tryz.prog 356 [Z x,Z y] (.tup [Z (x-y),E 0]):=by
 have v1:=gX (x:=x) (by omega)
 have v2:=gX (x:=y) (by omega)
 have hn:=T9 (y:=y) (by omega)
 have ha:=KQ (x:=x) (y:= -y) (by omega)
 rw[←Int.sub_eq_add_neg]at ha;refine eW Tryz.call356 Tryz.func356 ?_;repeat' first|simp only[go_sem,seval,Z]|refine cP v1 ?_|refine cP v2 ?_|refine cP hn ?_|refine cP ha ?_|refine sB ?_|(first|apply pX|apply bX)<;>intro hc|refine⟨oD,?_⟩|exact oD|fail
theorem Sn {x y:Int} (hx:x.natAbs<c9) (hy:y.natAbs<c9):aD Tryz.prog 356 [Z x,Z y] (.tup [Z (x-y),E 0]):=
 Sm (a9 (show _<c9*c9 by unfold c9 at*;omega) C2)
end Go.Proofs.YtmobkhegihemeaaGreatDoor
