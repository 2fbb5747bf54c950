/-
  Part of the proof, part FA25. Own work.
-/
import Derived.Test.YtfdjchnefpefbaaGreatDoorFA24
import Derived.Test.YtfdjchnefpefbaaGreatDoorFA22
set_option linter.all false
namespace Go.Proofs.YtfdjchnefpefbaaGreatDoor
open Go Go.Dom
set_option maxRecDepth 100000
set_option maxHeartbeats 8000000
theorem Gl {n k:Nat} (h1:2^k<=n) (h2:n<2^(k+1)):b9 n=k+1:=by
 have hp:0<2^k:=fI oC;unfold b9;rw[if_neg oO,(Nat.log2_eq_iff oO).2 ⟨h1,h2⟩]
theorem qX (n:Nat):n<2^b9 n:=by
 unfold b9;split
 ·rename_i h;rw[h];decide
 ·exact sG
theorem qW {n:Nat} (h:n≠0):2^(b9 n-1)<=n/\0<b9 n:=by
 unfold b9;rw[if_neg h];exact⟨Nat.log2_self_le h,by omega⟩
theorem H5 {n:Nat} (h:n≠0):b9 n=b9 (n/2)+1:=by
 obtain⟨h1,h2⟩:=qW h;have h3:=qX n;obtain⟨k,hk⟩: ∃k,b9 n=k+1:=⟨b9 n-1,by omega⟩
 rw[hk]at h1 h3⊢;simp only[j8]at h1
 cases k with
 |zero=>
  have:n/2=0:=by simp at h3;omega
  rw[this];rfl
 |succ k=>
  rw[Nat.pow_succ]at h1 h3;rw[Gl (n:=n/2) (k:=k) oO oO]
theorem H4 {c:UInt8} (r:Bytes) (h:c≠0):b9 (num (c::r))=8*r.length+b9 c.toNat:=by
 have hc:c.toNat≠0:=fun e=>h (iP.1 e)
 obtain⟨h1,h2⟩:=qW hc;have h3:=qX c.toNat;have e256:256^r.length=2^(8*r.length):=by rw[show 256=2^8 from rfl,<-jo]
 have hn:num (c::r)=c.toNat*256^r.length+num r:=rfl;have hr:=cb r;have a1:2^(8*r.length+b9 c.toNat-1)=2^(b9 c.toNat-1)*256^r.length:=by rw[e256,<-ct];congr 1;omega
 have a2:2^(8*r.length+b9 c.toNat-1+1)=2^b9 c.toNat*256^r.length:=by rw[e256,<-ct];congr 1;omega
 have b1:=cF (256^r.length) h1;have b2:=cF (256^r.length) (show c.toNat+1<=2^b9 c.toNat from h3)
 rw[cu]at b2;rw[Gl (k:=8*r.length+b9 c.toNat-1) oO oO];omega
theorem RM (x:Nat):(x:Int).tdiv 2=((x/2:Nat):Int):=rfl
theorem yn {a:Bytes} (h:Canon a) (la:a.length<1048576):aA Tryz.prog 256 [.s a] (E (b9 (num a))):=by
 cases a with
 |nil=>
  refine eW Tryz.call256 Tryz.func256 ?_;repeat' first|simp only[go_sem,seval,nn]|refine sB ?_|apply xX<;>intro hc|refine⟨oD,?_⟩|exact oD|fail
  rfl
 |cons c r=>
  have hc0:c≠0:=by rcases h with e|e;cases e;exact e
  have hb:=H4 r hc0;obtain⟨B,hB⟩: ∃B,B=b9 (num (c::r)):=⟨_,rfl⟩;rw[<-hB]at hb⊢;have hcl:=c.toNat_lt;have hl:r.length<1048576:=by simp at la;omega
  have hb8:b9 c.toNat<=8:=by
   obtain⟨g1,g2⟩:=qW (n:=c.toNat) (fun e=>hc0 (iP.1 e))
   have:=(pC (by decide:1<2)).1 (show 2^(b9 c.toNat-1)<2^8 by omega)
   omega
  refine eW Tryz.call256 Tryz.func256 ?_;repeat' first|simp only[go_sem,seval,cn]|refine sB ?_|apply xX<;>intro hc|refine⟨oD,?_⟩|exact oD|fail
  refine af (α:=Nat) (fun x=>x) (fun x=>⟨[(3,E' (B-b9 x)),(4,E' x)],[],_⟩) (fun x=>x<256/\b9 x<=B) c.toNat (fun _=>an _) ⟨hcl,by omega⟩ ?_ ?_
  ·(refine AS.Le.of (by first|decide|omega) ?_ ?_<;>simp[dM,dL,aK,aj,AV.bd,AV.bd.bdL,u8,ai,ak,ar])
   all_goals omega
  ·rintro x ⟨hx,hxb⟩ R hR
   by_cases h0:x=0
   ·subst h0;repeat' first|simp only[go_sem,seval]|refine sB ?_|apply xX<;>intro hc|refine⟨oD,?_⟩|exact oD|fail
    rfl
   ·have hh:=H5 h0;have hw: ∀ _:True,IntKind.i64.wrap (((B-b9 x:Nat):Int)+1)=((B-b9 (x/2):Nat):Int):=fun _=>by rw[IntWalk.i64_in _ oO];omega
    repeat' first|simp only[go_sem,seval,RM,hw trivial]|refine sB ?_|apply xX<;>intro hc|refine⟨oD,?_⟩|exact oD|fail
    refine hR (x/2) ⟨by omega,by omega⟩ oO _ ?_
    exact lE
theorem Ho (a:Bytes) (i:Nat) (la:a.length<1048576) (hi:i<1099511627776):aA Tryz.prog 257 [.s a,E i] (.b ((num a).testBit i)):=by
 have hd:=qC a (i/8) oO;have e0:(i:Int).tdiv 8=((i/8:Nat):Int):=rfl;have e1:(i:Int).tmod 8=((i%8:Nat):Int):=rfl;have key:(num a).testBit i=decide (num a/256^(i/8)%256/2^(i%8)%2=1):=by
  rw[j6];congr 1;have e2:256^(i/8)=2^(8*(i/8)):=by rw[show 256=2^8 from rfl,<-jo]
  have e3:2^i=256^(i/8)*2^(i%8):=by rw[e2,<-ct];congr 1;omega
  rw[e3,<-eg];generalize num a/256^(i/8)=z;have h8:i%8<8:=aD _ oC;generalize i%8=j at h8;have:2^j*2^(8-j)=256:=by rw[<-ct,show j+(8-j)=8 by omega]
  have e5:z%256/2^j=z/2^j%2^(8-j):=by rw[<-this,pK]
  rw[e5];have e6:2^(8-j)=2*2^(7-j):=by rw[<-vV];congr 1;omega
  rw[e6,Nat.mod_mul_right_mod]
 rw[key];clear key;obtain⟨d,hdd⟩: ∃d,d=num a/256^(i/8)%256:=⟨_,rfl⟩;rw[<-hdd]at hd⊢;have hdl:d<256:=by rw[hdd];exact aD _ oC
 obtain⟨e,he⟩: ∃e,e=i%8:=⟨_,rfl⟩;rw[<-he]at e1⊢;clear hdd;refine eW Tryz.call257 Tryz.func257 ?_;refine zr (aN @e0 @e1) @hd ?_;refine af (α:=Nat) (fun j=>e-j) (fun j=>⟨[(1,E' i),(5,E' (d/2^j)),(6,E' j)],[],_⟩) (fun j=>j<=e) 0 (fun _=>an _) (aH _) ?_ ?_
 ·(refine AS.Le.of (by first|decide|omega) ?_ ?_<;>simp[dM,dL,aK,aj,AV.bd,AV.bd.bdL,u8,ai,ak,ar])
  all_goals simp
 ·intro j hj R hR;have hle:d/2^j<=d:=dZ _ _
  by_cases hlt:j<e
  ·have hw: ∀ _:True,IntKind.i64.wrap ((d/2^j/2:Nat):Int)=((d/2^(j+1):Nat):Int):=fun _=>by
    rw[Nat.pow_succ,<-eg];generalize d/2^j=z at hle⊢;rw[IntWalk.i64_in _ oO]
   repeat' first|simp only[go_sem,seval,e1,RM,hw trivial]|refine sB ?_|apply xX<;>intro hc|refine⟨oD,?_⟩|exact oD|fail
   refine hR (j+1) oO oO _ ?_;exact lE
  ·obtain rfl:j=e:=by omega
   have e3:((d/2^j:Nat):Int).tmod 2=((d/2^j%2:Nat):Int):=rfl;repeat' first|simp only[go_sem,seval,e1,e3]|refine sB ?_|apply xX<;>intro hc|refine⟨oD,?_⟩|exact oD|fail
   congr 1;rw[dE];simp only[beq_iff_eq,decide_eq_true_eq];omega
theorem FB {x y:Nat} (hx:(aO x).length<1099511627776) (hy:(aO y).length<1099511627776):aA Tryz.prog 86 [N x,N y] (N (x+y)):=by
 have:=DP (aO x) (aO y) hx hy
 rwa[aG,aG]at this
theorem Hn {x y:Nat} (hx:(aO x).length<1099511627776) (hy:(aO y).length<1099511627776) (h:y<=x):aA Tryz.prog 85 [N x,N y] (N (x-y)):=by
 have:=tX (aO x) (aO y) hx hy (by rw[aG,aG];exact h)
 rwa[aG,aG]at this
theorem Hp {x y:Nat} (hx:(aO x).length<1099511627776) (hy:(aO y).length<1099511627776):aA Tryz.prog 109 [N x,N y] (E (aU x y)):=by
 have:=kT (gP x) (gP y) oO oO
 rwa[aG,aG]at this
theorem Hc:(.s [1]:PV)=N 1:=rfl
theorem OO (n:Nat):be n 0=List.replicate n 0:=by
 induction n with
 |zero=>rfl
 |succ n ih=>rw[be,ih,Nat.zero_div,List.replicate_succ];rfl
theorem yq {a b:Bytes} (ha:Canon a) (hb:Canon b) (h0:0<num b) (la:a.length<1048576) (lb:b.length<1048576):aA Tryz.prog 150 [.s a, .s b] (.tup [N (num a/num b),N (num a%num b)]):=by
 by_cases h8:a.length<=8/\b.length<=8
 ·have hu1:=rT a h8.1;have hu2:=rT b h8.2;have na:=dY h8.1;have nb:=dY h8.2;have hq:num a/num b<18446744073709551616:=ec (dZ _ _) na;have hr:num a%num b<18446744073709551616:=ec (sy _ _) na;refine eW Tryz.call150 Tryz.func150 ?_;repeat' first|simp only[go_sem,seval,uw,aV hq]|refine cP hu1 ?_|refine cP hu2 ?_|refine cP (jE _ hq) ?_|refine cP (jE _ hr) ?_|refine sB ?_|apply xX<;>intro hc|refine⟨oD,?_⟩|exact oD|fail
 have hbits:=yn ha la;obtain⟨n,hn⟩: ∃n,n=a.length:=⟨_,rfl⟩;have hone:=fun i hi=>Ho a i la hi
 have hAn:num a<256^n:=by rw[hn];exact cb a
 obtain⟨A,hA⟩: ∃A,A=num a:=⟨_,rfl⟩;obtain⟨B,hB⟩: ∃B,B=num b:=⟨_,rfl⟩;have hbB:aO B=b:=by rw[hB];exact Gn hb
 have hBl:(aO B).length<1048576:=by rw[hbB];exact lb
 have hlen: ∀{x:Nat},x<2*B->(aO x).length<1099511627776:=by
  intro x hx;have h1:B<256^b.length:=by rw[hB];exact cb b
  have h2:x<256^(b.length+1):=by rw[Nat.pow_succ];omega
  have:=nA.2 h2;omega
 have hbl:b9 A<8388608:=by
  by_cases hz:A=0
  ·rw[hz];decide
  ·obtain⟨g1,g2⟩:=qW hz;have g3:2^(b9 A-1)<2^(8*n):=ec g1 (by rw[jo];rw[hA];exact hAn)
   have:=(pC (by decide:1<2)).1 g3
   omega
 rw[<-hA]at hbits hone hAn⊢;rw[<-hB]at h0⊢;have eb:PV.s b=N B:=by show PV.s b=PV.s (aO B);rw[hbB]
 have hb2:A/2^b9 A=0:=gI (qX A);rcases(show 8<a.length\/(a.length<=8/\8<b.length) by omega)with g|g
 all_goals
  refine eW Tryz.call150 Tryz.func150 ?_;simp only[go_sem,seval,<-hn];repeat' first|simp only[go_sem,seval,<-hn,mG]|refine cP hbits ?_|refine sB ?_|apply xX<;>intro hc|refine⟨oD,?_⟩|exact oD|fail
  refine af (α:=Nat) (fun k=>k) (fun k=>⟨[(0, .v (.s a)),(1, .v (.s b)),(8, .rs 1012 0 0 n 1),(9, .v (N (A/2^k%B))),(10, .v (.i .i64 ((k:Int)-1)))],[(1012,⟨0,ay (be n (A/2^k/B*2^k)),false,none⟩)],_⟩) (fun k=>k<=b9 A) (b9 A) (fun _=>an _) (an _) ?_ ?_
  ·(refine AS.Le.of (by first|decide|omega) ?_ ?_<;>simp[dM,dL,aK,aj,AV.bd,AV.bd.bdL,u8,ai,ak,ar])
   all_goals simp[hb2,OO]
   all_goals rfl
  ·intro k hk R hR;have hbe: ∀q,(be n q).length=n:=fun q=>cj _ _
   cases k with
   |zero=>
    have:=oU (be n (A/1/B)) (by rw[cj];omega)
    repeat' first|simp only[go_sem,seval,hbe]|(refine fZ this rfl rfl (hbe _).symm ?_)|refine sB ?_|apply xX<;>intro hc|refine⟨oD,?_⟩|exact oD|fail
    rw[iS,ji (ec (dZ _ _) hAn)]
   |succ i=>
    have hz:=Dj A i;have ht:A/2^i%2<2:=aD _ oC;obtain⟨s1,s2⟩:=KQ (z:=A/2^(i+1)) (t:=A/2^i%2) (B:=B) h0 ht;rw[<-hz]at s1 s2;have hr1:A/2^(i+1)%B<B:=aD _ h0;have hbit:=hone i oO;rw[j6]at hbit;have hQn:A/2^i/B*2^i<=A:=ft (cF _ (dZ _ _)) (pD _ _);obtain⟨Q,hQ⟩: ∃Q,Q=A/2^(i+1)/B:=⟨_,rfl⟩;obtain⟨r,hr⟩: ∃r,r=A/2^(i+1)%B:=⟨_,rfl⟩;obtain⟨t,htt⟩: ∃t,t=A/2^i%2:=⟨_,rfl⟩;rw[<-hQ,<-hr,<-htt]at s1;rw[<-hr,<-htt]at s2;rw[<-hr]at hr1;rw[<-htt]at ht hbit;rw[<-hQ,<-hr];have hQ2:Q*2^(i+1)=2*Q*2^i:=by rw[Nat.pow_succ,bc (2^i),<-bQ,bc Q]
    have p1:=FB (x:=r) (y:=r) (hlen oO) (hlen oO);have p2:=FB (x:=r+r) (y:=1) (hlen oO) oC;have hw0: ∀ _:True,((i+1:Nat):Int)-1=(i:Int):=fun _=>by omega
    have hge0: ∀ _:True,decide ((i:Int)>=0)=true:=fun _=>by simp
    have hrt:r+r+t=2*r+t:=by omega
    by_cases hge:B<=r+r+t
    ·rw[if_pos oO]at s1 s2;have m1:=Hn (x:=r+r+t) (y:=B) (hlen oO) oO hge;have o1:=Hp (x:=r+r+t) (y:=B) (hlen oO) oO;obtain⟨cm,hcm⟩: ∃cm,cm=aU (r+r+t) B:=⟨_,rfl⟩;have hcg: ∀ _:True,decide (cm>=0)=true:=fun _=>by rw[hcm];unfold aU;rw[if_neg oO];split<;>rfl
     rw[<-hcm]at o1;rw[<-eb]at m1 o1;have s2':A/2^i%B=r+r+t-B:=by rw[s2];omega
     have s1':A/2^i/B*2^i=Q*2^(i+1)+2^(i%8)*256^(i/8):=by rw[s1,cu,Km,hQ2,ia]
     have hbf:=Kn (Q:=Q) (i:=i);have hj:i/8<n:=by
      have h1:256^(i/8)<=A:=by
       rw[s1']at hQn;have:=CB (256^(i/8)) (fI (n:=i%8) (show 0<2 by decide))
       omega
      exact(pC (by decide:1<256)).1 (ec h1 hAn)
     have hadd:=S3 hj hbf;rw[<-s1']at hadd;have hq1:(i:Int).tdiv 8=((i/8:Nat):Int):=rfl;have hq2:(i:Int).tmod 8=((i%8:Nat):Int):=rfl;have hix: ∀ _:True,((n:Int)-1-((i/8:Nat):Int)).toNat=n-1-i/8:=fun _=>by omega
     have hdig:=tP (be n (Q*2^(i+1))) (i:=i/8) (by rw[cj];exact hj)
     rw[cj,xW]at hdig;have hdig2:Q*2^(i+1)%256^n/256^(i/8)%256=Q*2^(i+1)/256^(i/8)%256:=by
      have this:Q*2^(i+1)<=A/2^i/B*2^i:=by rw[s1'];exact Nat.le_add_right _ _
      rw[aV (ec (ft this hQn) hAn)]
     rw[hdig2]at hdig;obtain⟨L,hL⟩: ∃L,L=be n (Q*2^(i+1)):=⟨_,rfl⟩;have hLl:L.length=n:=by rw[hL];exact cj _ _
     obtain⟨y,hy⟩: ∃y,y=Q*2^(i+1)/256^(i/8)%256:=⟨_,rfl⟩;rw[<-hL,<-hy]at hadd hdig;rw[<-hy]at hbf;rw[<-hL];have hrd: ∀ _:True,(ay L).getD (n-1-i/8) .u= .v (.i .u8 (y:Int)):=fun _=>by
      have:n-1-i/8<L.length:=by omega
      rw[<-hdig];simp[ay,aR,this,u8]
     have he7:i%8<8:=aD _ oC;clear hQ hr htt hz hQ2 hdig2 hL hy;rcases(show t=0\/t=1 by omega)with h0|h1
     ·subst h0;have hbit':aA Tryz.prog 257 [.s a,E i] (.b false):=hbit;refine Xq (aN (hw0 trivial) (aN (hge0 trivial) (hcg trivial))) @p1 @hbit' @o1 @m1 ?_;refine af (α:=Nat) (fun j=>i%8-j) (fun j=>⟨[(0, .v (.s a)),(1, .v (.s b)),(8, .rs 1012 0 0 n 1),(9, .v (N (r+r-B))),(10, .v (.i .i64 (i:Int))),(11, .v (.i .u8 ((2^j:Nat):Int))),(12, .v (.i .i64 (j:Int)))],[(1012,⟨0,ay L,false,none⟩)],_⟩) (fun j=>j<=i%8) 0 (fun _=>an _) (aH _) ?_ ?_
      ·exact lE
      ·intro j hj R2 hR2
       by_cases hlt:j<i%8
       ·have hp7:2^(j+1)<=2^7:=cI oC oO;have hwj: ∀ _:True,IntKind.u8.wrap (((2^j:Nat):Int)*2)=((2^(j+1):Nat):Int):=fun _=>by
         rw[UU,Nat.pow_succ,Int.natCast_mul];rw[Nat.pow_succ]at hp7;omega
        refine fx (aN @hq2 (hwj trivial)) ?_;refine hR2 (j+1) oO oO _ ?_;exact lE
       ·obtain rfl:j=i%8:=by omega
        repeat' first|simp only[go_sem,seval,<-hn,hq1,hq2,hLl,hix trivial,hrd trivial]|refine sB ?_|apply xX<;>intro hc|refine⟨oD,?_⟩|exact oD|fail
        refine hR i oO oO _ ?_;rw[s2',qZ (c:=UInt8.ofNat (y+2^(i%8))) oO (by rw[<-Int.natCast_add,j4]),hadd]
        exact lE
     ·subst h1;have hbit':aA Tryz.prog 257 [.s a,E i] (.b true):=hbit;repeat' first|simp only[go_sem,seval,hw0 trivial,hge0 trivial,hcg trivial,Hc]|refine cP p1 ?_|refine cP hbit' ?_|refine cP p2 ?_|refine cP o1 ?_|refine cP m1 ?_|refine sB ?_|apply xX<;>intro hc|refine⟨oD,?_⟩|exact oD|fail
      refine af (α:=Nat) (fun j=>i%8-j) (fun j=>⟨[(0, .v (.s a)),(1, .v (.s b)),(8, .rs 1012 0 0 n 1),(9, .v (N (r+r+1-B))),(10, .v (.i .i64 (i:Int))),(11, .v (.i .u8 ((2^j:Nat):Int))),(12, .v (.i .i64 (j:Int)))],[(1012,⟨0,ay L,false,none⟩)],_⟩) (fun j=>j<=i%8) 0 (fun _=>an _) (aH _) ?_ ?_
      ·exact lE
      ·intro j hj R2 hR2
       by_cases hlt:j<i%8
       ·have hp7:2^(j+1)<=2^7:=cI oC oO;have hwj: ∀ _:True,IntKind.u8.wrap (((2^j:Nat):Int)*2)=((2^(j+1):Nat):Int):=fun _=>by
         rw[UU,Nat.pow_succ,Int.natCast_mul];rw[Nat.pow_succ]at hp7;omega
        refine fx (aN @hq2 (hwj trivial)) ?_;refine hR2 (j+1) oO oO _ ?_;exact lE
       ·obtain rfl:j=i%8:=by omega
        repeat' first|simp only[go_sem,seval,<-hn,hq1,hq2,hLl,hix trivial,hrd trivial]|refine sB ?_|apply xX<;>intro hc|refine⟨oD,?_⟩|exact oD|fail
        refine hR i oO oO _ ?_;rw[s2',qZ (c:=UInt8.ofNat (y+2^(i%8))) oO (by rw[<-Int.natCast_add,j4]),hadd]
        exact lE
    ·rw[if_neg oO]at s1 s2;have o1:=Hp (x:=r+r+t) (y:=B) (hlen oO) oO;have hcm:aU (r+r+t) B= -1:=by unfold aU;rw[if_pos oO]
     rw[hcm,<-eb]at o1;have s2':A/2^i%B=r+r+t:=by rw[s2];omega
     have s1':A/2^i/B*2^i=Q*2^(i+1):=by rw[s1,hQ2];rfl
     clear hQ hr htt hz hQ2;have hR':=hR i oO oO;rw[s1',s2']at hR';rcases(show t=0\/t=1 by omega)with h0|h1
     ·subst h0;have hbit':aA Tryz.prog 257 [.s a,E i] (.b false):=hbit;refine JK (aN (hw0 trivial) (hge0 trivial)) @p1 @hbit' @o1 ?_;refine hR' _ ?_;exact lE
     ·subst h1;have hbit':aA Tryz.prog 257 [.s a,E i] (.b true):=hbit;repeat' first|simp only[go_sem,seval,hw0 trivial,hge0 trivial,Hc]|refine cP p1 ?_|refine cP hbit' ?_|refine cP p2 ?_|refine cP o1 ?_|refine sB ?_|apply xX<;>intro hc|refine⟨oD,?_⟩|exact oD|fail
      refine hR' _ ?_;exact lE
theorem Hm (a:Bytes):aA Tryz.prog 416 [.s a] (.tup [.s (if a.length<=128 then a else[]),E (if a.length<=128 then 0 else 5)]):=by
 refine eW Tryz.call416 Tryz.func416 ?_;repeat' first|simp only[go_sem,seval]|refine sB ?_|apply xX<;>intro hc|refine⟨oD,?_⟩|exact oD|fail
 ·have h: ¬a.length<=128:=by omega
  simp[h]
 ·have h:a.length<=128:=by omega
  simp[h]
theorem Qk (a b:Bytes):aA Tryz.prog 325 [.s a, .s b] (.tup [.s (y2 a b).1,E (y2 a b).2]):=by
 by_cases hv:aa a=true/\aa b=true
 case neg=>
  refine eW Tryz.call325 Tryz.func325 ?_;repeat' first|simp only[go_sem,seval]|refine cP (aM _) ?_|refine sB ?_|apply xX<;>intro hc|refine⟨oD,?_⟩|exact oD|fail
  all_goals simp_all[y2]
 have la:=cE hv.1;have lb:=cE hv.2;have hp:=DP a b oO oO;refine eW Tryz.call325 Tryz.func325 ?_;repeat' first|simp only[go_sem,seval]|refine cP (aM _) ?_|refine cP hp ?_|refine cP (Hm _) ?_|refine sB ?_|apply xX<;>intro hc|refine⟨oD,?_⟩|exact oD|fail
 all_goals simp only[pk,y2,hv.1,hv.2,db,if_true]
 all_goals (split<;>simp_all)
theorem Qq (a b:Bytes):aA Tryz.prog 324 [.s a, .s b] (.tup [.s (ui a b).1,E (ui a b).2]):=by
 by_cases hv:aa a=true/\aa b=true
 case neg=>
  refine eW Tryz.call324 Tryz.func324 ?_;repeat' first|simp only[go_sem,seval]|refine cP (aM _) ?_|refine sB ?_|apply xX<;>intro hc|refine⟨oD,?_⟩|exact oD|fail
  all_goals simp_all[ui]
 have la:=cE hv.1;have lb:=cE hv.2;have ho:=kT (bK hv.1) (bK hv.2) oO oO;have v1:=aM a;have v2:=aM b;rw[hv.1]at v1;rw[hv.2]at v2;refine eW Tryz.call324 Tryz.func324 ?_;repeat' first|simp only[go_sem,seval]|refine cP v1 ?_|refine cP v2 ?_|refine cP ho ?_|(refine il (tX a b oO oO (by rw[fX]at hc;omega)) rfl ?_)|refine sB ?_|apply xX<;>intro hc|refine⟨oD,?_⟩|exact oD|fail
 ·rw[fX]at hc;simp[ui,hv.1,hv.2,show¬num b<=num a by omega]
 ·rw[fX]at hc;simp[ui,hv.1,hv.2,show num b<=num a by omega]
theorem Qp (a b:Bytes):aA Tryz.prog 366 [.s a, .s b] (.tup [.s (uR a b).1,E (uR a b).2]):=by
 by_cases hv:aa a=true/\aa b=true
 case neg=>
  refine eW Tryz.call366 Tryz.func366 ?_;repeat' first|simp only[go_sem,seval]|refine cP (aM _) ?_|refine sB ?_|apply xX<;>intro hc|refine⟨oD,?_⟩|exact oD|fail
  all_goals simp_all[uR]
 have la:=cE hv.1;have lb:=cE hv.2;have hp:=Ji a b oO oO;refine eW Tryz.call366 Tryz.func366 ?_;repeat' first|simp only[go_sem,seval]|refine cP (aM _) ?_|refine cP hp ?_|refine cP (Hm _) ?_|refine sB ?_|apply xX<;>intro hc|refine⟨oD,?_⟩|exact oD|fail
 all_goals simp only[pk,uR,hv.1,hv.2,db,if_true]
 all_goals (split<;>simp_all)
theorem Fx (a b:Bytes):aA Tryz.prog 422 [.s a, .s b] (.tup [.s (rm a b).1, .s (rm a b).2.1,E (rm a b).2.2]):=by
 by_cases hv:aa a=true/\aa b=true
 case neg=>
  refine eW Tryz.call422 Tryz.func422 ?_;repeat' first|simp only[go_sem,seval]|refine cP (aM _) ?_|refine sB ?_|apply xX<;>intro hc|refine⟨oD,?_⟩|exact oD|fail
  all_goals simp_all[rm]
 have la:=cE hv.1;have lb:=cE hv.2
 by_cases h0:b=[]
 ·subst h0;refine eW Tryz.call422 Tryz.func422 ?_;repeat' first|simp only[go_sem,seval,nn]|refine cP (aM _) ?_|refine sB ?_|apply xX<;>intro hc|refine⟨oD,?_⟩|exact oD|fail
  all_goals simp_all[rm]
 have hp:=rH (bK hv.2) h0;have ho:=yq (bK hv.1) (bK hv.2) hp oO oO;refine eW Tryz.call422 Tryz.func422 ?_;repeat' first|simp only[go_sem,seval]|refine cP (aM _) ?_|refine cP ho ?_|refine sB ?_|apply xX<;>intro hc|refine⟨oD,?_⟩|exact oD|fail
 all_goals simp_all[rm]
theorem ua (a:Bytes):aA Tryz.prog 365 [.s a] (.tup [.i .u64 (if aa a&&decide (a.length<=8)then num a else 0), .b (aa a&&decide (a.length<=8))]):=by
 by_cases h:aa a=true/\a.length<=8
 ·have hu:=rT a h.2;refine eW Tryz.call365 Tryz.func365 ?_;repeat' first|simp only[go_sem,seval]|refine cP (aM _) ?_|refine cP hu ?_|refine sB ?_|apply xX<;>intro hc|refine⟨oD,?_⟩|exact oD|fail
  all_goals simp_all
 ·refine eW Tryz.call365 Tryz.func365 ?_;repeat' first|simp only[go_sem,seval]|refine cP (aM _) ?_|refine sB ?_|apply xX<;>intro hc|refine⟨oD,?_⟩|exact oD|fail
  all_goals simp_all
  all_goals omega
theorem Af {a:Bytes} (h:aa a=true):aA Tryz.prog 259 [.s a] (E (b9 (num a))):=by
 have la:=cE h;have hb:=yn (bK h) oO;refine eW Tryz.call259 Tryz.func259 ?_;repeat' first|simp only[go_sem,seval]|refine cP (aM _) ?_|refine cP hb ?_|refine sB ?_|apply xX<;>intro hc|refine⟨oD,?_⟩|exact oD|fail
 all_goals simp_all
theorem Ql {a:Bytes} (h:aa a=true) (i:Nat) (hi:i<1099511627776):aA Tryz.prog 373 [.s a,E i] (.b ((num a).testBit i)):=by
 have la:=cE h;have hb:=yn (bK h) oO;have ho:=Ho a i oO hi;have hv:=aM a;rw[h]at hv;have hlt: ¬i<b9 (num a)->(num a).testBit i=false:=by
  intro g;rw[j6,gI (bj (qX _) (cI oC oO))];rfl
 generalize (num a).testBit i=tb at*;refine eW Tryz.call373 Tryz.func373 ?_;repeat' first|simp only[go_sem,seval]|refine cP hv ?_|refine cP hb ?_|refine cP ho ?_|refine sB ?_|apply xX<;>intro hc|refine⟨oD,?_⟩|exact oD|fail
 all_goals simp_all
 all_goals (first|omega|skip)
theorem MG {a b:Nat} (ha:a<dw) (hb:b<dw):aA Tryz.prog 247 [N a,N b] (N (Nat.gcd a b)):=by
 have hlim: ∀{x:Nat},x<dw->(aO x).length<1048576:=fun h=>by have:=pk.2 h;omega
 refine eW Tryz.call247 Tryz.func247 ?_;simp only[go_sem,seval];refine af (α:=Nat×Nat) (fun x=>x.2) (fun x=>⟨[(0, .v (N x.1)),(1, .v (N x.2))],[],_⟩) (fun x=>x.1<dw/\x.2<dw/\Nat.gcd x.1 x.2=Nat.gcd a b) (a,b) (fun _=>an _) ⟨ha,hb,rfl⟩ ?_ ?_
 ·exact lE
 ·rintro⟨x,y⟩ ⟨hx,hy,hg⟩ R hR;simp only at hx hy hg
  by_cases h0:y=0
  ·subst h0;repeat' first|simp only[go_sem,seval,Fg]|refine sB ?_|apply xX<;>intro hc|refine⟨oD,?_⟩|exact oD|fail
   rw[<-hg,B9]
  ·have e:=rG h0;have hd:=yq (gP x) (gP y) (by rw[aG];omega) (hlim hx) (hlim hy)
   rw[aG,aG]at hd;refine o8 @e @hd ?_;have hm:x%y<y:=aD _ oO;refine hR (y,x%y) ⟨hy,by show x%y< _;omega,?_⟩ hm _ ?_
   ·show Nat.gcd y (x%y)= _;rw[<-hg,jT x y,kM y x,jT]
   ·exact lE
theorem MD {a b:Nat} (h:a+b<dw):aA Tryz.prog 325 [N a,N b] (.tup [N (a+b),E 0]):=by
 have:=Qk (aO a) (aO b);simp only[y2,vB (show a<dw by omega),vB (show b<dw by omega),db,if_true,aG,h]at this
 exact this
theorem MJ {a b:Nat} (h:b<=a) (ha:a<dw):aA Tryz.prog 324 [N a,N b] (.tup [N (a-b),E 0]):=by
 have:=Qq (aO a) (aO b);simp only[ui,vB ha,vB (show b<dw by omega),db,if_true,aG,h]at this
 exact this
theorem RD {a b:Nat} (h:a*b<dw) (ha:a<dw) (hb:b<dw):aA Tryz.prog 366 [N a,N b] (.tup [N (a*b),E 0]):=by
 have:=Qp (aO a) (aO b);simp only[uR,vB ha,vB hb,db,if_true,aG,h]at this;exact this
theorem oT {a b:Nat} (ha:a<dw) (hb:b<dw) (h0:0<b):aA Tryz.prog 422 [N a,N b] (.tup [N (a/b),N (a%b),E 0]):=by
 have:=Fx (aO a) (aO b);have e:aO b≠[]:=fun h=>by rw[fW]at h;omega
 simpa only[rm,vB ha,vB hb,db,if_true,e,if_false,aG]using this
theorem MF {a b:Nat} (ha:a<dw) (hb:b<dw):aA Tryz.prog 51 [N a,N b] (E (aU a b)):=by
 have:=vE (aO a) (aO b);simpa only[vB ha,vB hb,db,if_true,aG]using this
theorem qD (n:Bool) (a:Bytes):aA Tryz.prog 137 [.agg [.b n, .s a]] (.b (aa a&& !(n&&a==[]))):=by
 have hv:=aM a;refine eW Tryz.call137 Tryz.func137 ?_;exact XG @hv
theorem DO (n:Bool) (a:Bytes):aA Tryz.prog 122 [.b n, .s a] (.agg [.b (n&& !(a==[])), .s a]):=by
 refine eW Tryz.call122 Tryz.func122 ?_;exact XF
theorem lz (b:Bool) (n:Nat) {z:Int} (h:(if b then-(n:Int)else n)=z):aA Tryz.prog 122 [.b b,N n] (Z z):=by
 have:=DO b (aO n);rw[ZO,h]at this;exact this
theorem ij {x:Int} (h:x.natAbs<dw):aA Tryz.prog 137 [Z x] (.b true):=by
 have:=qD (zs x) (zb x)
 rwa[U4 h]at this
theorem yo {n:Nat} (h:n<dw):aA Tryz.prog 56 [N n] (Z n):=by
 have hv:=aM (aO n);rw[vB h]at hv;have hm:=lz false n rfl;refine eW Tryz.call56 Tryz.func56 ?_;repeat' first|simp only[go_sem,seval,Z]|refine cP hv ?_|refine cP hm ?_|refine sB ?_|apply xX<;>intro hc|refine⟨oD,?_⟩|exact oD|fail
theorem Y5:aA Tryz.prog 65 [E 1] (Z 1):=by
 have h1:=jE 1 oC;have hm:=lz false 1 rfl;refine eW Tryz.call65 Tryz.func65 ?_;repeat' first|simp only[go_sem,seval,Z]|refine cP h1 ?_|refine cP hm ?_|refine sB ?_|apply xX<;>intro hc|refine⟨oD,?_⟩|exact oD|fail
theorem Y4:aA Tryz.prog 65 [E 0] (Z 0):=by
 have h1:=jE 0 oC;have hm:=lz false 0 rfl;refine eW Tryz.call65 Tryz.func65 ?_;repeat' first|simp only[go_sem,seval,Z]|refine cP h1 ?_|refine cP hm ?_|refine sB ?_|apply xX<;>intro hc|refine⟨oD,?_⟩|exact oD|fail
theorem Wt {y:Int} (h:y.natAbs<dw):aA Tryz.prog 418 [Z y] (Z (-y)):=by
 have hv:=ij h;have hm:=lz (!zs y) y.natAbs (Xm y);refine eW Tryz.call418 Tryz.func418 ?_;repeat' first|simp only[go_sem,seval,Z]|refine cP hv ?_|refine cP hm ?_|refine sB ?_|apply xX<;>intro hc|refine⟨oD,?_⟩|exact oD|fail
theorem UA {x y:Int} (hx:x.natAbs<dw) (hy:y.natAbs<dw) (h:x.natAbs*y.natAbs<dw):aA Tryz.prog 323 [Z x,Z y] (.tup [Z (x*y),E 0]):=by
 have v1:=ij hx;have v2:=ij hy;have hm:=RD (a:=x.natAbs) (b:=y.natAbs) h hx hy;have hk:=lz (zs x !=zs y) (x.natAbs*y.natAbs) (Xl x y);refine eW Tryz.call323 Tryz.func323 ?_;repeat' first|simp only[go_sem,seval,Z]|refine cP v1 ?_|refine cP v2 ?_|refine cP hm ?_|refine cP hk ?_|refine sB ?_|apply xX<;>intro hc|refine⟨oD,?_⟩|exact oD|fail
theorem MI {x y:Int} (hx:x.natAbs<cZ) (hy:y.natAbs<cZ):aA Tryz.prog 323 [Z x,Z y] (.tup [Z (x*y),E 0]):=
 have hw:=BV
 UA oO oO (bj (fR hx hy) Er)
theorem MH {x y:Int} (hlim:x.natAbs+y.natAbs<dw):aA Tryz.prog 417 [Z x,Z y] (.tup [Z (x+y),E 0]):=by
 have v1:=ij (x:=x) oO;have v2:=ij (x:=y) oO
 by_cases hs:zs x=zs y
 ·have ha:=MD hlim;have hk:=lz (zs x) (x.natAbs+y.natAbs) (RS hs);have hb: ∀ _:True,(zs x==zs y)=true:=fun _=>by rw[hs];simp
  clear hs hlim;refine eW Tryz.call417 Tryz.func417 ?_;repeat' first|simp only[go_sem,seval,Z,hb trivial]|refine cP v1 ?_|refine cP v2 ?_|refine cP ha ?_|refine cP hk ?_|refine sB ?_|apply xX<;>intro hc|refine⟨oD,?_⟩|exact oD|fail
 have hb: ∀ _:True,(zs x==zs y)=false:=fun _=>by simpa using hs
 have hcm:=MF (a:=x.natAbs) (b:=y.natAbs) oO oO
 by_cases hl:y.natAbs<=x.natAbs
 ·have hd:=MJ hl oO;have hk:=lz (zs x) (x.natAbs-y.natAbs) (NN hs hl);have hg: ∀ _:True,decide (aU x.natAbs y.natAbs>=0)=true:=fun _=>decide_eq_true (jW.2 hl)
  generalize aU x.natAbs y.natAbs=cm at*;clear hs hlim;refine eW Tryz.call417 Tryz.func417 ?_;repeat' first|simp only[go_sem,seval,Z,hb trivial,hg trivial]|refine cP v1 ?_|refine cP v2 ?_|refine cP hcm ?_|refine cP hd ?_|refine cP hk ?_|refine sB ?_|apply xX<;>intro hc|refine⟨oD,?_⟩|exact oD|fail
 ·have hd:=MJ (a:=y.natAbs) (b:=x.natAbs) oO oO;have hk:=lz (zs y) (y.natAbs-x.natAbs) (RT hs oO);have hg: ∀ _:True,decide (aU x.natAbs y.natAbs>=0)=false:=fun _=>decide_eq_false (fun h=>hl (jW.1 h))
  generalize aU x.natAbs y.natAbs=cm at*;clear hs hlim;refine eW Tryz.call417 Tryz.func417 ?_;repeat' first|simp only[go_sem,seval,Z,hb trivial,hg trivial]|refine cP v1 ?_|refine cP v2 ?_|refine cP hcm ?_|refine cP hd ?_|refine cP hk ?_|refine sB ?_|apply xX<;>intro hc|refine⟨oD,?_⟩|exact oD|fail
theorem Uy {x y:Int} (hx:x.natAbs<cZ) (hy:y.natAbs<cZ):aA Tryz.prog 417 [Z x,Z y] (.tup [Z (x+y),E 0]):=
 MH (bj (show _<cZ*cZ by unfold cZ at*;omega) Er)
theorem UB {x y:Int} (hlim:x.natAbs+y.natAbs<dw):aA Tryz.prog 326 [Z x,Z y] (.tup [Z (x-y),E 0]):=by
 have v1:=ij (x:=x) oO;have v2:=ij (x:=y) oO;have hn:=Wt (y:=y) oO;have ha:=MH (x:=x) (y:= -y) oO;rw[<-Int.sub_eq_add_neg]at ha;refine eW Tryz.call326 Tryz.func326 ?_;repeat' first|simp only[go_sem,seval,Z]|refine cP v1 ?_|refine cP v2 ?_|refine cP hn ?_|refine cP ha ?_|refine sB ?_|apply xX<;>intro hc|refine⟨oD,?_⟩|exact oD|fail
theorem UC {x y:Int} (hx:x.natAbs<cZ) (hy:y.natAbs<cZ):aA Tryz.prog 326 [Z x,Z y] (.tup [Z (x-y),E 0]):=
 UB (bj (show _<cZ*cZ by unfold cZ at*;omega) Er)
end Go.Proofs.YtfdjchnefpefbaaGreatDoor
