/-
  Part of the proof, part Z25. Own work.
-/
import Derived.Test.YtmobkhegihemeaaGreatDoorZ22
set_option linter.all false
namespace Go.Proofs.YtmobkhegihemeaaGreatDoor
open Go Go.Dom
set_option maxRecDepth 100000
set_option maxHeartbeats 8000000
theorem BL {n k:Nat} (h1:2^k≤n) (h2:n<2^(k+1)):a9 n=k+1:=by
 have hp:0<2^k:=Nat.pow_pos (by decide)
 unfold a9;rw[if_neg (by omega),(Nat.log2_eq_iff (by omega)).2 ⟨h1,h2⟩]
theorem mZ (n:Nat):n<2^a9 n:=by
 unfold a9;split
 ·rename_i h;rw[h];decide
 ·exact Nat.lt_log2_self
theorem mi {n:Nat} (h:n≠0):2^(a9 n-1)≤n∧0<a9 n:=by
 unfold a9;rw[if_neg h];exact⟨Nat.log2_self_le h,by omega⟩
theorem B2 {n:Nat} (h:n≠0):a9 n=a9 (n/2)+1:=by
 obtain⟨h1,h2⟩:=mi h;have h3:=mZ n;obtain⟨k,hk⟩: ∃k,a9 n=k+1:=⟨a9 n-1,by omega⟩
 rw[hk]at h1 h3⊢;simp only[Nat.add_sub_cancel]at h1
 cases k with
 |zero=>
  have:n/2=0:=by simp at h3;omega
  rw[this];rfl
 |succ k=>
  rw[Nat.pow_succ]at h1 h3;rw[BL (n:=n/2) (k:=k) (by omega) (by omega)]
theorem Ch {c:UInt8} (r:Bytes) (h:c≠0):a9 (num (c::r))=8*r.length+a9 c.toNat:=by
 have hc:c.toNat≠0:=fun e=>h (UInt8.toNat_inj.1 e)
 obtain⟨h1,h2⟩:=mi hc;have h3:=mZ c.toNat;have e256:256^r.length=2^(8*r.length):=by rw[show 256=2^8 from rfl,←Nat.pow_mul]
 have hn:num (c::r)=c.toNat*256^r.length+num r:=rfl;have hr:=aZ r;have a1:2^(8*r.length+a9 c.toNat-1)=2^(a9 c.toNat-1)*256^r.length:=by rw[e256,←Nat.pow_add];congr 1;omega
 have a2:2^(8*r.length+a9 c.toNat-1+1)=2^a9 c.toNat*256^r.length:=by rw[e256,←Nat.pow_add];congr 1;omega
 have b1:=Nat.mul_le_mul_right (256^r.length) h1;have b2:=Nat.mul_le_mul_right (256^r.length) (show c.toNat+1≤2^a9 c.toNat from h3)
 rw[Nat.add_mul]at b2;rw[BL (k:=8*r.length+a9 c.toNat-1) (by omega) (by omega)]
 omega
theorem Ld (x:Nat):(x:Int).tdiv 2=((x/2:Nat):Int):=rfl
theorem qO {a:Bytes} (h:Canon a) (la:a.length<1048576):aA Tryz.prog 150 [.s a] (E (a9 (num a))):=by
 cases a with
 |nil=>
  refine eW Tryz.call150 Tryz.func150 ?_;repeat' first|simp only[go_sem,seval,nn]|refine sB ?_|(first|apply pX|apply bX)<;>intro hc|refine⟨oD,?_⟩|exact oD|fail
  rfl
 |cons c r=>
  have hc0:c≠0:=by rcases h with e|e;cases e;exact e
  have hb:=Ch r hc0;obtain⟨B,hB⟩: ∃B,B=a9 (num (c::r)):=⟨_,rfl⟩;rw[←hB]at hb⊢;have hcl:=c.toNat_lt;have hl:r.length<1048576:=by simp at la;omega
  have hb8:a9 c.toNat≤8:=by
   obtain⟨g1,g2⟩:=mi (n:=c.toNat) (fun e=>hc0 (UInt8.toNat_inj.1 e))
   have:=(Nat.pow_lt_pow_iff_right (by decide:1<2)).1 (show 2^(a9 c.toNat-1)<2^8 by omega)
   omega
  refine eW Tryz.call150 Tryz.func150 ?_;repeat' first|simp only[go_sem,seval,cn]|refine sB ?_|(first|apply pX|apply bX)<;>intro hc|refine⟨oD,?_⟩|exact oD|fail
  refine ai (α:=Nat) (fun x=>x) (fun x=>⟨[(3,E' (B-a9 x)),(4,E' x)],[],_⟩) (fun x=>x<256∧a9 x≤B) c.toNat (fun _=>Nat.le_refl _) ⟨hcl,by omega⟩ ?_ ?_
  ·(refine AS.Le.of (by first|decide|omega) ?_ ?_<;>simp[bz,bA,aD,ak,AV.bd,AV.bd.bdL,u8,af,ah,aj])
   all_goals omega
  ·rintro x ⟨hx,hxb⟩ R hR
   by_cases h0:x=0
   ·subst h0;repeat' first|simp only[go_sem,seval]|refine sB ?_|(first|apply pX|apply bX)<;>intro hc|refine⟨oD,?_⟩|exact oD|fail
    rfl
   ·have hh:=B2 h0;have hw: ∀ _:True,IntKind.i64.wrap (((B-a9 x:Nat):Int)+1)=((B-a9 (x/2):Nat):Int):=fun _=>by rw[IntWalk.i64_in _ (by omega)];omega
    repeat' first|simp only[go_sem,seval,Ld,hw trivial]|refine sB ?_|(first|apply pX|apply bX)<;>intro hc|refine⟨oD,?_⟩|exact oD|fail
    refine hR (x/2) ⟨by omega,by omega⟩ (by omega) _ ?_
    exact lE
theorem Bm (a:Bytes) (i:Nat) (la:a.length<1048576) (hi:i<1099511627776):aA Tryz.prog 152 [.s a,E i] (.b ((num a).testBit i)):=by
 have hd:=lk a (i/8) (by omega)
 have e0:(i:Int).tdiv 8=((i/8:Nat):Int):=rfl;have e1:(i:Int).tmod 8=((i%8:Nat):Int):=rfl;have key:(num a).testBit i=decide (num a/256^(i/8)%256/2^(i%8)%2=1):=by
  rw[Nat.testBit_eq_decide_div_mod_eq];congr 1;have e2:256^(i/8)=2^(8*(i/8)):=by rw[show 256=2^8 from rfl,←Nat.pow_mul]
  have e3:2^i=256^(i/8)*2^(i%8):=by rw[e2,←Nat.pow_add];congr 1;omega
  rw[e3,←Nat.div_div_eq_div_mul];generalize num a/256^(i/8)=z;have h8:i%8<8:=Nat.mod_lt _ (by decide)
  generalize i%8=j at h8;have:2^j*2^(8-j)=256:=by rw[←Nat.pow_add,show j+(8-j)=8 by omega]
  have e5:z%256/2^j=z/2^j%2^(8-j):=by rw[←this,Nat.mod_mul_right_div_self]
  rw[e5];have e6:2^(8-j)=2*2^(7-j):=by rw[←Nat.pow_succ'];congr 1;omega
  rw[e6,Nat.mod_mul_right_mod]
 rw[key];clear key;obtain⟨d,hdd⟩: ∃d,d=num a/256^(i/8)%256:=⟨_,rfl⟩;rw[←hdd]at hd⊢;have hdl:d<256:=by rw[hdd];exact Nat.mod_lt _ (by decide)
 obtain⟨e,he⟩: ∃e,e=i%8:=⟨_,rfl⟩;rw[←he]at e1⊢;clear hdd;refine eW Tryz.call152 Tryz.func152 ?_;repeat' first|simp only[go_sem,seval,e0,e1]|refine cP hd ?_|refine sB ?_|(first|apply pX|apply bX)<;>intro hc|refine⟨oD,?_⟩|exact oD|fail
 refine ai (α:=Nat) (fun j=>e-j) (fun j=>⟨[(1,E' i),(5,E' (d/2^j)),(6,E' j)],[],_⟩) (fun j=>j≤e) 0 (fun _=>Nat.le_refl _) (Nat.zero_le _) ?_ ?_
 ·(refine AS.Le.of (by first|decide|omega) ?_ ?_<;>simp[bz,bA,aD,ak,AV.bd,AV.bd.bdL,u8,af,ah,aj])
  all_goals simp
 ·intro j hj R hR;have hle:d/2^j≤d:=Nat.div_le_self _ _
  by_cases hlt:j<e
  ·have hw: ∀ _:True,IntKind.i64.wrap ((d/2^j/2:Nat):Int)=((d/2^(j+1):Nat):Int):=fun _=>by
    rw[Nat.pow_succ,←Nat.div_div_eq_div_mul];generalize d/2^j=z at hle⊢;rw[IntWalk.i64_in _ (by omega)]
   repeat' first|simp only[go_sem,seval,e1,Ld,hw trivial]|refine sB ?_|(first|apply pX|apply bX)<;>intro hc|refine⟨oD,?_⟩|exact oD|fail
   refine hR (j+1) (by omega) (by omega) _ ?_
   exact lE
  ·obtain rfl:j=e:=by omega
   have e3:((d/2^j:Nat):Int).tmod 2=((d/2^j%2:Nat):Int):=rfl;repeat' first|simp only[go_sem,seval,e1,e3]|refine sB ?_|(first|apply pX|apply bX)<;>intro hc|refine⟨oD,?_⟩|exact oD|fail
   congr 1;rw[Bool.eq_iff_iff];simp only[beq_iff_eq,decide_eq_true_eq];omega
theorem E5 {x y:Nat} (hx:(aI x).length<1099511627776) (hy:(aI y).length<1099511627776):aA Tryz.prog 151 [N x,N y] (N (x+y)):=by
 have:=wj (aI x) (aI y) hx hy
 rwa[aE,aE]at this
theorem JM {x y:Nat} (hx:(aI x).length<1099511627776) (hy:(aI y).length<1099511627776) (h:y≤x):aA Tryz.prog 101 [N x,N y] (N (x-y)):=by
 have:=nC (aI x) (aI y) hx hy (by rw[aE,aE];exact h)
 rwa[aE,aE]at this
theorem Au {x y:Nat} (hx:(aI x).length<1099511627776) (hy:(aI y).length<1099511627776):aA Tryz.prog 87 [N x,N y] (E (aO x y)):=by
 have:=gP (ek x) (ek y) (by omega) (by omega)
 rwa[aE,aE]at this
theorem A3:(.s [1]:PV)=N 1:=rfl
theorem J6 (n:Nat):be n 0=List.replicate n 0:=by
 induction n with
 |zero=>rfl
 |succ n ih=>rw[be,ih,Nat.zero_div,List.replicate_succ];rfl
theorem qJ {a b:Bytes} (ha:Canon a) (hb:Canon b) (h0:0<num b) (la:a.length<1048576) (lb:b.length<1048576):aA Tryz.prog 100 [.s a, .s b] (.tup [N (num a/num b),N (num a%num b)]):=by
 by_cases h8:a.length≤8∧b.length≤8
 ·have hu1:=my a h8.1;have hu2:=my b h8.2;have na:=cv h8.1;have nb:=cv h8.2;have hq:num a/num b<18446744073709551616:=Nat.lt_of_le_of_lt (Nat.div_le_self _ _) na;have hr:num a%num b<18446744073709551616:=Nat.lt_of_le_of_lt (Nat.mod_le _ _) na;refine eW Tryz.call100 Tryz.func100 ?_;repeat' first|simp only[go_sem,seval,uw,Nat.mod_eq_of_lt hq]|refine cP hu1 ?_|refine cP hu2 ?_|refine cP (iR _ hq) ?_|refine cP (iR _ hr) ?_|refine sB ?_|(first|apply pX|apply bX)<;>intro hc|refine⟨oD,?_⟩|exact oD|fail
 have hbits:=qO ha la;obtain⟨n,hn⟩: ∃n,n=a.length:=⟨_,rfl⟩;have hone:=fun i hi=>Bm a i la hi
 have hAn:num a<256^n:=by rw[hn];exact aZ a
 obtain⟨A,hA⟩: ∃A,A=num a:=⟨_,rfl⟩;obtain⟨B,hB⟩: ∃B,B=num b:=⟨_,rfl⟩;have hbB:aI B=b:=by rw[hB];exact Ak hb
 have hBl:(aI B).length<1048576:=by rw[hbB];exact lb
 have hlen: ∀{x:Nat},x<2*B→(aI x).length<1099511627776:=by
  intro x hx;have h1:B<256^b.length:=by rw[hB];exact aZ b
  have h2:x<256^(b.length+1):=by rw[Nat.pow_succ];omega
  have:=ju.2 h2;omega
 have hbl:a9 A<8388608:=by
  by_cases hz:A=0
  ·rw[hz];decide
  ·obtain⟨g1,g2⟩:=mi hz;have g3:2^(a9 A-1)<2^(8*n):=Nat.lt_of_le_of_lt g1 (by rw[Nat.pow_mul];rw[hA];exact hAn)
   have:=(Nat.pow_lt_pow_iff_right (by decide:1<2)).1 g3
   omega
 rw[←hA]at hbits hone hAn⊢;rw[←hB]at h0⊢;have eb:PV.s b=N B:=by show PV.s b=PV.s (aI B);rw[hbB]
 have hb2:A/2^a9 A=0:=Nat.div_eq_of_lt (mZ A);rcases(show 8<a.length∨(a.length≤8∧8<b.length) by omega)with g|g
 all_goals
  refine eW Tryz.call100 Tryz.func100 ?_;simp only[go_sem,seval,←hn];repeat' first|simp only[go_sem,seval,←hn,iO]|refine cP hbits ?_|refine sB ?_|(first|apply pX|apply bX)<;>intro hc|refine⟨oD,?_⟩|exact oD|fail
  refine ai (α:=Nat) (fun k=>k) (fun k=>⟨[(0, .v (.s a)),(1, .v (.s b)),(8, .rs 1012 0 0 n 1),(9, .v (N (A/2^k%B))),(10, .v (.i .i64 ((k:Int)-1)))],[(1012,⟨0,ay (be n (A/2^k/B*2^k)),false,none⟩)],_⟩) (fun k=>k≤a9 A) (a9 A) (fun _=>Nat.le_refl _) (Nat.le_refl _) ?_ ?_
  ·(refine AS.Le.of (by first|decide|omega) ?_ ?_<;>simp[bz,bA,aD,ak,AV.bd,AV.bd.bdL,u8,af,ah,aj])
   all_goals simp[hb2,J6]
   all_goals rfl
  ·intro k hk R hR;have hbe: ∀q,(be n q).length=n:=fun q=>a5 _ _
   cases k with
   |zero=>
    have:=j4 (be n (A/1/B)) (by rw[a5];omega)
    repeat' first|simp only[go_sem,seval,hbe]|(refine dQ this rfl rfl (hbe _).symm ?_)|refine sB ?_|(first|apply pX|apply bX)<;>intro hc|refine⟨oD,?_⟩|exact oD|fail
    rw[Nat.div_one,fw (Nat.lt_of_le_of_lt (Nat.div_le_self _ _) hAn)]
   |succ i=>
    have hz:=yc A i;have ht:A/2^i%2<2:=Nat.mod_lt _ (by decide)
    obtain⟨s1,s2⟩:=Gi (z:=A/2^(i+1)) (t:=A/2^i%2) (B:=B) h0 ht;rw[←hz]at s1 s2;have hr1:A/2^(i+1)%B<B:=Nat.mod_lt _ h0;have hbit:=hone i (by omega)
    rw[Nat.testBit_eq_decide_div_mod_eq]at hbit;have hQn:A/2^i/B*2^i≤A:=Nat.le_trans (Nat.mul_le_mul_right _ (Nat.div_le_self _ _)) (Nat.div_mul_le_self _ _);obtain⟨Q,hQ⟩: ∃Q,Q=A/2^(i+1)/B:=⟨_,rfl⟩;obtain⟨r,hr⟩: ∃r,r=A/2^(i+1)%B:=⟨_,rfl⟩;obtain⟨t,htt⟩: ∃t,t=A/2^i%2:=⟨_,rfl⟩;rw[←hQ,←hr,←htt]at s1;rw[←hr,←htt]at s2;rw[←hr]at hr1;rw[←htt]at ht hbit;rw[←hQ,←hr];have hQ2:Q*2^(i+1)=2*Q*2^i:=by rw[Nat.pow_succ,Nat.mul_comm (2^i),←Nat.mul_assoc,Nat.mul_comm Q]
    have p1:=E5 (x:=r) (y:=r) (hlen (by omega)) (hlen (by omega))
    have p2:=E5 (x:=r+r) (y:=1) (hlen (by omega)) (by decide)
    have hw0: ∀ _:True,((i+1:Nat):Int)-1=(i:Int):=fun _=>by omega
    have hge0: ∀ _:True,decide ((i:Int)≥0)=true:=fun _=>by simp
    have hrt:r+r+t=2*r+t:=by omega
    by_cases hge:B≤r+r+t
    ·rw[if_pos (by omega)]at s1 s2
     have m1:=JM (x:=r+r+t) (y:=B) (hlen (by omega)) (by omega) hge
     have o1:=Au (x:=r+r+t) (y:=B) (hlen (by omega)) (by omega)
     obtain⟨cm,hcm⟩: ∃cm,cm=aO (r+r+t) B:=⟨_,rfl⟩;have hcg: ∀ _:True,decide (cm≥0)=true:=fun _=>by rw[hcm];unfold aO;rw[if_neg (by omega)];split<;>rfl
     rw[←hcm]at o1;rw[←eb]at m1 o1;have s2':A/2^i%B=r+r+t-B:=by rw[s2];omega
     have s1':A/2^i/B*2^i=Q*2^(i+1)+2^(i%8)*256^(i/8):=by rw[s1,Nat.add_mul,Hr,hQ2,Nat.one_mul]
     have hbf:=GD (Q:=Q) (i:=i);have hj:i/8<n:=by
      have h1:256^(i/8)≤A:=by
       rw[s1']at hQn;have:=Nat.le_mul_of_pos_left (256^(i/8)) (Nat.pow_pos (n:=i%8) (show 0<2 by decide))
       omega
      exact(Nat.pow_lt_pow_iff_right (by decide:1<256)).1 (Nat.lt_of_le_of_lt h1 hAn)
     have hadd:=NW hj hbf;rw[←s1']at hadd;have hq1:(i:Int).tdiv 8=((i/8:Nat):Int):=rfl;have hq2:(i:Int).tmod 8=((i%8:Nat):Int):=rfl;have hix: ∀ _:True,((n:Int)-1-((i/8:Nat):Int)).toNat=n-1-i/8:=fun _=>by omega
     have hdig:=nu (be n (Q*2^(i+1))) (i:=i/8) (by rw[a5];exact hj)
     rw[a5,qW]at hdig;have hdig2:Q*2^(i+1)%256^n/256^(i/8)%256=Q*2^(i+1)/256^(i/8)%256:=by
      have this:Q*2^(i+1)≤A/2^i/B*2^i:=by rw[s1'];exact Nat.le_add_right _ _
      rw[Nat.mod_eq_of_lt (Nat.lt_of_le_of_lt (Nat.le_trans this hQn) hAn)]
     rw[hdig2]at hdig;obtain⟨L,hL⟩: ∃L,L=be n (Q*2^(i+1)):=⟨_,rfl⟩;have hLl:L.length=n:=by rw[hL];exact a5 _ _
     obtain⟨y,hy⟩: ∃y,y=Q*2^(i+1)/256^(i/8)%256:=⟨_,rfl⟩;rw[←hL,←hy]at hadd hdig;rw[←hy]at hbf;rw[←hL];have hrd: ∀ _:True,(ay L).getD (n-1-i/8) .u= .v (.i .u8 (y:Int)):=fun _=>by
      have:n-1-i/8<L.length:=by omega
      rw[←hdig];simp[ay,List.getD_eq_getElem?_getD,this,u8]
     have he7:i%8<8:=Nat.mod_lt _ (by decide)
     clear hQ hr htt hz hQ2 hdig2 hL hy;rcases(show t=0∨t=1 by omega)with h0|h1
     ·subst h0;have hbit':aA Tryz.prog 152 [.s a,E i] (.b false):=hbit;repeat' first|simp only[go_sem,seval,hw0 trivial,hge0 trivial,hcg trivial]|refine cP p1 ?_|refine cP hbit' ?_|refine cP o1 ?_|refine cP m1 ?_|refine sB ?_|(first|apply pX|apply bX)<;>intro hc|refine⟨oD,?_⟩|exact oD|fail
      refine ai (α:=Nat) (fun j=>i%8-j) (fun j=>⟨[(0, .v (.s a)),(1, .v (.s b)),(8, .rs 1012 0 0 n 1),(9, .v (N (r+r-B))),(10, .v (.i .i64 (i:Int))),(11, .v (.i .u8 ((2^j:Nat):Int))),(12, .v (.i .i64 (j:Int)))],[(1012,⟨0,ay L,false,none⟩)],_⟩) (fun j=>j≤i%8) 0 (fun _=>Nat.le_refl _) (Nat.zero_le _) ?_ ?_
      ·exact lE
      ·intro j hj R2 hR2
       by_cases hlt:j<i%8
       ·have hp7:2^(j+1)≤2^7:=Nat.pow_le_pow_right (by decide) (by omega)
        have hwj: ∀ _:True,IntKind.u8.wrap (((2^j:Nat):Int)*2)=((2^(j+1):Nat):Int):=fun _=>by
         rw[NH,Nat.pow_succ,Int.natCast_mul];rw[Nat.pow_succ]at hp7;omega
        repeat' first|simp only[go_sem,seval,hq2,hwj trivial]|refine sB ?_|(first|apply pX|apply bX)<;>intro hc|refine⟨oD,?_⟩|exact oD|fail
        refine hR2 (j+1) (by omega) (by omega) _ ?_
        exact lE
       ·obtain rfl:j=i%8:=by omega
        repeat' first|simp only[go_sem,seval,←hn,hq1,hq2,hLl,hix trivial,hrd trivial]|refine sB ?_|(first|apply pX|apply bX)<;>intro hc|refine⟨oD,?_⟩|exact oD|fail
        refine hR i (by omega) (by omega) _ ?_
        rw[s2',mn (c:=UInt8.ofNat (y+2^(i%8))) (by omega) (by rw[←Int.natCast_add,fT]),hadd]
        exact lE
     ·subst h1;have hbit':aA Tryz.prog 152 [.s a,E i] (.b true):=hbit;repeat' first|simp only[go_sem,seval,hw0 trivial,hge0 trivial,hcg trivial,A3]|refine cP p1 ?_|refine cP hbit' ?_|refine cP p2 ?_|refine cP o1 ?_|refine cP m1 ?_|refine sB ?_|(first|apply pX|apply bX)<;>intro hc|refine⟨oD,?_⟩|exact oD|fail
      refine ai (α:=Nat) (fun j=>i%8-j) (fun j=>⟨[(0, .v (.s a)),(1, .v (.s b)),(8, .rs 1012 0 0 n 1),(9, .v (N (r+r+1-B))),(10, .v (.i .i64 (i:Int))),(11, .v (.i .u8 ((2^j:Nat):Int))),(12, .v (.i .i64 (j:Int)))],[(1012,⟨0,ay L,false,none⟩)],_⟩) (fun j=>j≤i%8) 0 (fun _=>Nat.le_refl _) (Nat.zero_le _) ?_ ?_
      ·exact lE
      ·intro j hj R2 hR2
       by_cases hlt:j<i%8
       ·have hp7:2^(j+1)≤2^7:=Nat.pow_le_pow_right (by decide) (by omega)
        have hwj: ∀ _:True,IntKind.u8.wrap (((2^j:Nat):Int)*2)=((2^(j+1):Nat):Int):=fun _=>by
         rw[NH,Nat.pow_succ,Int.natCast_mul];rw[Nat.pow_succ]at hp7;omega
        repeat' first|simp only[go_sem,seval,hq2,hwj trivial]|refine sB ?_|(first|apply pX|apply bX)<;>intro hc|refine⟨oD,?_⟩|exact oD|fail
        refine hR2 (j+1) (by omega) (by omega) _ ?_
        exact lE
       ·obtain rfl:j=i%8:=by omega
        repeat' first|simp only[go_sem,seval,←hn,hq1,hq2,hLl,hix trivial,hrd trivial]|refine sB ?_|(first|apply pX|apply bX)<;>intro hc|refine⟨oD,?_⟩|exact oD|fail
        refine hR i (by omega) (by omega) _ ?_
        rw[s2',mn (c:=UInt8.ofNat (y+2^(i%8))) (by omega) (by rw[←Int.natCast_add,fT]),hadd]
        exact lE
    ·rw[if_neg (by omega)]at s1 s2
     have o1:=Au (x:=r+r+t) (y:=B) (hlen (by omega)) (by omega)
     have hcm:aO (r+r+t) B= -1:=by unfold aO;rw[if_pos (by omega)]
     rw[hcm,←eb]at o1;have s2':A/2^i%B=r+r+t:=by rw[s2];omega
     have s1':A/2^i/B*2^i=Q*2^(i+1):=by rw[s1,hQ2];rfl
     clear hQ hr htt hz hQ2;have hR':=hR i (by omega) (by omega)
     rw[s1',s2']at hR';rcases(show t=0∨t=1 by omega)with h0|h1
     ·subst h0;have hbit':aA Tryz.prog 152 [.s a,E i] (.b false):=hbit;repeat' first|simp only[go_sem,seval,hw0 trivial,hge0 trivial]|refine cP p1 ?_|refine cP hbit' ?_|refine cP o1 ?_|refine sB ?_|(first|apply pX|apply bX)<;>intro hc|refine⟨oD,?_⟩|exact oD|fail
      refine hR' _ ?_;exact lE
     ·subst h1;have hbit':aA Tryz.prog 152 [.s a,E i] (.b true):=hbit;repeat' first|simp only[go_sem,seval,hw0 trivial,hge0 trivial,A3]|refine cP p1 ?_|refine cP hbit' ?_|refine cP p2 ?_|refine cP o1 ?_|refine sB ?_|(first|apply pX|apply bX)<;>intro hc|refine⟨oD,?_⟩|exact oD|fail
      refine hR' _ ?_;exact lE
theorem Al (a:Bytes):aA Tryz.prog 232 [.s a] (.tup [.s (if a.length≤128 then a else[]),E (if a.length≤128 then 0 else 5)]):=by
 refine eW Tryz.call232 Tryz.func232 ?_;repeat' first|simp only[go_sem,seval]|refine sB ?_|(first|apply pX|apply bX)<;>intro hc|refine⟨oD,?_⟩|exact oD|fail
 ·have h: ¬a.length≤128:=by omega
  simp[h]
 ·have h:a.length≤128:=by omega
  simp[h]
theorem JG (a b:Bytes):aA Tryz.prog 354 [.s a, .s b] (.tup [.s (rX a b).1,E (rX a b).2]):=by
 by_cases hv:aa a=true∧aa b=true
 case neg=>
  refine eW Tryz.call354 Tryz.func354 ?_;repeat' first|simp only[go_sem,seval]|refine cP (aN _) ?_|refine sB ?_|(first|apply pX|apply bX)<;>intro hc|refine⟨oD,?_⟩|exact oD|fail
  all_goals simp_all[rX]
 have la:=bw hv.1;have lb:=bw hv.2;have hp:=wj a b (by omega) (by omega)
 refine eW Tryz.call354 Tryz.func354 ?_;repeat' first|simp only[go_sem,seval]|refine cP (aN _) ?_|refine cP hp ?_|refine cP (Al _) ?_|refine sB ?_|(first|apply pX|apply bX)<;>intro hc|refine⟨oD,?_⟩|exact oD|fail
 all_goals simp only[kx,rX,hv.1,hv.2,Bool.and_self,if_true]
 all_goals (split<;>simp_all)
theorem J8 (a b:Bytes):aA Tryz.prog 355 [.s a, .s b] (.tup [.s (nK a b).1,E (nK a b).2]):=by
 by_cases hv:aa a=true∧aa b=true
 case neg=>
  refine eW Tryz.call355 Tryz.func355 ?_;repeat' first|simp only[go_sem,seval]|refine cP (aN _) ?_|refine sB ?_|(first|apply pX|apply bX)<;>intro hc|refine⟨oD,?_⟩|exact oD|fail
  all_goals simp_all[nK]
 have la:=bw hv.1;have lb:=bw hv.2;have ho:=gP (aS hv.1) (aS hv.2) (by omega) (by omega)
 have v1:=aN a;have v2:=aN b;rw[hv.1]at v1;rw[hv.2]at v2;refine eW Tryz.call355 Tryz.func355 ?_;repeat' first|simp only[go_sem,seval]|refine cP v1 ?_|refine cP v2 ?_|refine cP ho ?_|(refine b9 (nC a b (by omega) (by omega) (by rw[dL]at hc;omega)) rfl ?_)|refine sB ?_|(first|apply pX|apply bX)<;>intro hc|refine⟨oD,?_⟩|exact oD|fail
 ·rw[dL]at hc;simp[nK,hv.1,hv.2,show¬num b≤num a by omega]
 ·rw[dL]at hc;simp[nK,hv.1,hv.2,show num b≤num a by omega]
theorem H8 (a b:Bytes):aA Tryz.prog 157 [.s a, .s b] (.tup [.s (oS a b).1,E (oS a b).2]):=by
 by_cases hv:aa a=true∧aa b=true
 case neg=>
  refine eW Tryz.call157 Tryz.func157 ?_;repeat' first|simp only[go_sem,seval]|refine cP (aN _) ?_|refine sB ?_|(first|apply pX|apply bX)<;>intro hc|refine⟨oD,?_⟩|exact oD|fail
  all_goals simp_all[oS]
 have la:=bw hv.1;have lb:=bw hv.2;have hp:=Df a b (by omega) (by omega)
 refine eW Tryz.call157 Tryz.func157 ?_;repeat' first|simp only[go_sem,seval]|refine cP (aN _) ?_|refine cP hp ?_|refine cP (Al _) ?_|refine sB ?_|(first|apply pX|apply bX)<;>intro hc|refine⟨oD,?_⟩|exact oD|fail
 all_goals simp only[kx,oS,hv.1,hv.2,Bool.and_self,if_true]
 all_goals (split<;>simp_all)
theorem zD (a b:Bytes):aA Tryz.prog 231 [.s a, .s b] (.tup [.s (lQ a b).1, .s (lQ a b).2.1,E (lQ a b).2.2]):=by
 by_cases hv:aa a=true∧aa b=true
 case neg=>
  refine eW Tryz.call231 Tryz.func231 ?_;repeat' first|simp only[go_sem,seval]|refine cP (aN _) ?_|refine sB ?_|(first|apply pX|apply bX)<;>intro hc|refine⟨oD,?_⟩|exact oD|fail
  all_goals simp_all[lQ]
 have la:=bw hv.1;have lb:=bw hv.2
 by_cases h0:b=[]
 ·subst h0;refine eW Tryz.call231 Tryz.func231 ?_;repeat' first|simp only[go_sem,seval,nn]|refine cP (aN _) ?_|refine sB ?_|(first|apply pX|apply bX)<;>intro hc|refine⟨oD,?_⟩|exact oD|fail
  all_goals simp_all[lQ]
 have hp:=mR (aS hv.2) h0;have ho:=qJ (aS hv.1) (aS hv.2) hp (by omega) (by omega)
 refine eW Tryz.call231 Tryz.func231 ?_;repeat' first|simp only[go_sem,seval]|refine cP (aN _) ?_|refine cP ho ?_|refine sB ?_|(first|apply pX|apply bX)<;>intro hc|refine⟨oD,?_⟩|exact oD|fail
 all_goals simp_all[lQ]
theorem nf (a:Bytes):aA Tryz.prog 16 [.s a] (.tup [.i .u64 (if aa a&&decide (a.length≤8)then num a else 0), .b (aa a&&decide (a.length≤8))]):=by
 by_cases h:aa a=true∧a.length≤8
 ·have hu:=my a h.2;refine eW Tryz.call16 Tryz.func16 ?_;repeat' first|simp only[go_sem,seval]|refine cP (aN _) ?_|refine cP hu ?_|refine sB ?_|(first|apply pX|apply bX)<;>intro hc|refine⟨oD,?_⟩|exact oD|fail
  all_goals simp_all
 ·refine eW Tryz.call16 Tryz.func16 ?_;repeat' first|simp only[go_sem,seval]|refine cP (aN _) ?_|refine sB ?_|(first|apply pX|apply bX)<;>intro hc|refine⟨oD,?_⟩|exact oD|fail
  all_goals simp_all
  all_goals omega
theorem C6 {a:Bytes} (h:aa a=true):aA Tryz.prog 236 [.s a] (E (a9 (num a))):=by
 have la:=bw h;have hb:=qO (aS h) (by omega)
 refine eW Tryz.call236 Tryz.func236 ?_;repeat' first|simp only[go_sem,seval]|refine cP (aN _) ?_|refine cP hb ?_|refine sB ?_|(first|apply pX|apply bX)<;>intro hc|refine⟨oD,?_⟩|exact oD|fail
 all_goals simp_all
theorem J0 {a:Bytes} (h:aa a=true) (i:Nat) (hi:i<1099511627776):aA Tryz.prog 237 [.s a,E i] (.b ((num a).testBit i)):=by
 have la:=bw h;have hb:=qO (aS h) (by omega)
 have ho:=Bm a i (by omega) hi
 have hv:=aN a;rw[h]at hv;have hlt: ¬i<a9 (num a)→(num a).testBit i=false:=by
  intro g;rw[Nat.testBit_eq_decide_div_mod_eq,Nat.div_eq_of_lt (Nat.lt_of_lt_of_le (mZ _) (Nat.pow_le_pow_right (by decide) (by omega)))];rfl
 generalize (num a).testBit i=tb at*;refine eW Tryz.call237 Tryz.func237 ?_;repeat' first|simp only[go_sem,seval]|refine cP hv ?_|refine cP hb ?_|refine cP ho ?_|refine sB ?_|(first|apply pX|apply bX)<;>intro hc|refine⟨oD,?_⟩|exact oD|fail
 all_goals simp_all
 all_goals (first|omega|skip)
theorem GI {a b:Nat} (ha:a<bR) (hb:b<bR):aA Tryz.prog 103 [N a,N b] (N (Nat.gcd a b)):=by
 have hlim: ∀{x:Nat},x<bR→(aI x).length<1048576:=fun h=>by have:=kx.2 h;omega
 refine eW Tryz.call103 Tryz.func103 ?_;simp only[go_sem,seval];refine ai (α:=Nat×Nat) (fun x=>x.2) (fun x=>⟨[(0, .v (N x.1)),(1, .v (N x.2))],[],_⟩) (fun x=>x.1<bR∧x.2<bR∧Nat.gcd x.1 x.2=Nat.gcd a b) (a,b) (fun _=>Nat.le_refl _) ⟨ha,hb,rfl⟩ ?_ ?_
 ·exact lE
 ·rintro⟨x,y⟩ ⟨hx,hy,hg⟩ R hR;simp only at hx hy hg
  by_cases h0:y=0
  ·subst h0;repeat' first|simp only[go_sem,seval,yU]|refine sB ?_|(first|apply pX|apply bX)<;>intro hc|refine⟨oD,?_⟩|exact oD|fail
   rw[←hg,Nat.gcd_zero_right]
  ·have e:=lU h0;have hd:=qJ (ek x) (ek y) (by rw[aE];omega) (hlim hx) (hlim hy)
   rw[aE,aE]at hd;repeat' first|simp only[go_sem,seval,e]|refine cP hd ?_|refine sB ?_|(first|apply pX|apply bX)<;>intro hc|refine⟨oD,?_⟩|exact oD|fail
   have hm:x%y<y:=Nat.mod_lt _ (by omega)
   refine hR (y,x%y) ⟨hy,by show x%y< _;omega,?_⟩ hm _ ?_
   ·show Nat.gcd y (x%y)= _;rw[←hg,Nat.gcd_comm x y,Nat.gcd_rec y x,Nat.gcd_comm]
   ·exact lE
theorem KT {a b:Nat} (h:a+b<bR):aA Tryz.prog 354 [N a,N b] (.tup [N (a+b),E 0]):=by
 have:=JG (aI a) (aI b);simp only[rX,vB (show a<bR by omega),vB (show b<bR by omega),Bool.and_self,if_true,aE,h]at this
 exact this
theorem FP {a b:Nat} (h:b≤a) (ha:a<bR):aA Tryz.prog 355 [N a,N b] (.tup [N (a-b),E 0]):=by
 have:=J8 (aI a) (aI b);simp only[nK,vB ha,vB (show b<bR by omega),Bool.and_self,if_true,aE,h]at this
 exact this
theorem K9 {a b:Nat} (h:a*b<bR) (ha:a<bR) (hb:b<bR):aA Tryz.prog 157 [N a,N b] (.tup [N (a*b),E 0]):=by
 have:=H8 (aI a) (aI b);simp only[oS,vB ha,vB hb,Bool.and_self,if_true,aE,h]at this;exact this
theorem ka {a b:Nat} (ha:a<bR) (hb:b<bR) (h0:0<b):aA Tryz.prog 231 [N a,N b] (.tup [N (a/b),N (a%b),E 0]):=by
 have:=zD (aI a) (aI b);have e:aI b≠[]:=fun h=>by rw[ep]at h;omega
 simpa only[lQ,vB ha,vB hb,Bool.and_self,if_true,e,if_false,aE]using this
theorem QF {a b:Nat} (ha:a<bR) (hb:b<bR):aA Tryz.prog 38 [N a,N b] (E (aO a b)):=by
 have:=I6 (aI a) (aI b);simpa only[vB ha,vB hb,Bool.and_self,if_true,aE]using this
theorem kY (n:Bool) (a:Bytes):aA Tryz.prog 48 [.agg [.b n, .s a]] (.b (aa a&& !(n&&a==[]))):=by
 have hv:=aN a;refine eW Tryz.call48 Tryz.func48 ?_;repeat' first|simp only[go_sem,seval]|refine cP hv ?_|refine sB ?_|(first|apply pX|apply bX)<;>intro hc|refine⟨oD,?_⟩|exact oD|fail
 all_goals simp_all
theorem Fv (n:Bool) (a:Bytes):aA Tryz.prog 229 [.b n, .s a] (.agg [.b (n&& !(a==[])), .s a]):=by
 refine eW Tryz.call229 Tryz.func229 ?_;repeat' first|simp only[go_sem,seval]|refine sB ?_|(first|apply pX|apply bX)<;>intro hc|refine⟨oD,?_⟩|exact oD|fail
 all_goals simp_all
theorem gS (b:Bool) (n:Nat) {z:Int} (h:(if b then-(n:Int)else n)=z):aA Tryz.prog 229 [.b b,N n] (Z z):=by
 have:=Fv b (aI n);rw[St,h]at this;exact this
theorem eB {x:Int} (h:x.natAbs<bR):aA Tryz.prog 48 [Z x] (.b true):=by
 have:=kY (zs x) (zb x)
 rwa[Mp h]at this
theorem ry {n:Nat} (h:n<bR):aA Tryz.prog 145 [N n] (Z n):=by
 have hv:=aN (aI n);rw[vB h]at hv;have hm:=gS false n rfl;refine eW Tryz.call145 Tryz.func145 ?_;repeat' first|simp only[go_sem,seval,Z]|refine cP hv ?_|refine cP hm ?_|refine sB ?_|(first|apply pX|apply bX)<;>intro hc|refine⟨oD,?_⟩|exact oD|fail
theorem Rz:aA Tryz.prog 304 [E 1] (Z 1):=by
 have h1:=iR 1 (by decide)
 have hm:=gS false 1 rfl;refine eW Tryz.call304 Tryz.func304 ?_;repeat' first|simp only[go_sem,seval,Z]|refine cP h1 ?_|refine cP hm ?_|refine sB ?_|(first|apply pX|apply bX)<;>intro hc|refine⟨oD,?_⟩|exact oD|fail
theorem RY:aA Tryz.prog 304 [E 0] (Z 0):=by
 have h1:=iR 0 (by decide)
 have hm:=gS false 0 rfl;refine eW Tryz.call304 Tryz.func304 ?_;repeat' first|simp only[go_sem,seval,Z]|refine cP h1 ?_|refine cP hm ?_|refine sB ?_|(first|apply pX|apply bX)<;>intro hc|refine⟨oD,?_⟩|exact oD|fail
theorem P5 {y:Int} (h:y.natAbs<bR):aA Tryz.prog 378 [Z y] (Z (-y)):=by
 have hv:=eB h;have hm:=gS (!zs y) y.natAbs (PK y);refine eW Tryz.call378 Tryz.func378 ?_;repeat' first|simp only[go_sem,seval,Z]|refine cP hv ?_|refine cP hm ?_|refine sB ?_|(first|apply pX|apply bX)<;>intro hc|refine⟨oD,?_⟩|exact oD|fail
theorem MQ {x y:Int} (hx:x.natAbs<bR) (hy:y.natAbs<bR) (h:x.natAbs*y.natAbs<bR):aA Tryz.prog 307 [Z x,Z y] (.tup [Z (x*y),E 0]):=by
 have v1:=eB hx;have v2:=eB hy;have hm:=K9 (a:=x.natAbs) (b:=y.natAbs) h hx hy;have hk:=gS (zs x !=zs y) (x.natAbs*y.natAbs) (Qb x y);refine eW Tryz.call307 Tryz.func307 ?_;repeat' first|simp only[go_sem,seval,Z]|refine cP v1 ?_|refine cP v2 ?_|refine cP hm ?_|refine cP hk ?_|refine sB ?_|(first|apply pX|apply bX)<;>intro hc|refine⟨oD,?_⟩|exact oD|fail
theorem Gl {x y:Int} (hx:x.natAbs<bL) (hy:y.natAbs<bL):aA Tryz.prog 307 [Z x,Z y] (.tup [Z (x*y),E 0]):=
 have hw:=vL
 MQ (by omega) (by omega) (Nat.lt_of_lt_of_le (Nat.mul_lt_mul'' hx hy) xX)
theorem G6 {x y:Int} (hlim:x.natAbs+y.natAbs<bR):aA Tryz.prog 308 [Z x,Z y] (.tup [Z (x+y),E 0]):=by
 have v1:=eB (x:=x) (by omega)
 have v2:=eB (x:=y) (by omega)
 by_cases hs:zs x=zs y
 ·have ha:=KT hlim;have hk:=gS (zs x) (x.natAbs+y.natAbs) (KY hs);have hb: ∀ _:True,(zs x==zs y)=true:=fun _=>by rw[hs];simp
  clear hs hlim;refine eW Tryz.call308 Tryz.func308 ?_;repeat' first|simp only[go_sem,seval,Z,hb trivial]|refine cP v1 ?_|refine cP v2 ?_|refine cP ha ?_|refine cP hk ?_|refine sB ?_|(first|apply pX|apply bX)<;>intro hc|refine⟨oD,?_⟩|exact oD|fail
 have hb: ∀ _:True,(zs x==zs y)=false:=fun _=>by simpa using hs
 have hcm:=QF (a:=x.natAbs) (b:=y.natAbs) (by omega) (by omega)
 by_cases hl:y.natAbs≤x.natAbs
 ·have hd:=FP hl (by omega)
  have hk:=gS (zs x) (x.natAbs-y.natAbs) (E8 hs hl);have hg: ∀ _:True,decide (aO x.natAbs y.natAbs≥0)=true:=fun _=>decide_eq_true (fQ.2 hl)
  generalize aO x.natAbs y.natAbs=cm at*;clear hs hlim;refine eW Tryz.call308 Tryz.func308 ?_;repeat' first|simp only[go_sem,seval,Z,hb trivial,hg trivial]|refine cP v1 ?_|refine cP v2 ?_|refine cP hcm ?_|refine cP hd ?_|refine cP hk ?_|refine sB ?_|(first|apply pX|apply bX)<;>intro hc|refine⟨oD,?_⟩|exact oD|fail
 ·have hd:=FP (a:=y.natAbs) (b:=x.natAbs) (by omega) (by omega)
  have hk:=gS (zs y) (y.natAbs-x.natAbs) (KE hs (by omega))
  have hg: ∀ _:True,decide (aO x.natAbs y.natAbs≥0)=false:=fun _=>decide_eq_false (fun h=>hl (fQ.1 h))
  generalize aO x.natAbs y.natAbs=cm at*;clear hs hlim;refine eW Tryz.call308 Tryz.func308 ?_;repeat' first|simp only[go_sem,seval,Z,hb trivial,hg trivial]|refine cP v1 ?_|refine cP v2 ?_|refine cP hcm ?_|refine cP hd ?_|refine cP hk ?_|refine sB ?_|(first|apply pX|apply bX)<;>intro hc|refine⟨oD,?_⟩|exact oD|fail
theorem LG {x y:Int} (hx:x.natAbs<bL) (hy:y.natAbs<bL):aA Tryz.prog 308 [Z x,Z y] (.tup [Z (x+y),E 0]):=
 G6 (Nat.lt_of_lt_of_le (show _<bL*bL by unfold bL at*;omega) xX)
theorem NU {x y:Int} (hlim:x.natAbs+y.natAbs<bR):aA Tryz.prog 356 [Z x,Z y] (.tup [Z (x-y),E 0]):=by
 have v1:=eB (x:=x) (by omega)
 have v2:=eB (x:=y) (by omega)
 have hn:=P5 (y:=y) (by omega)
 have ha:=G6 (x:=x) (y:= -y) (by omega)
 rw[←Int.sub_eq_add_neg]at ha;refine eW Tryz.call356 Tryz.func356 ?_;repeat' first|simp only[go_sem,seval,Z]|refine cP v1 ?_|refine cP v2 ?_|refine cP hn ?_|refine cP ha ?_|refine sB ?_|(first|apply pX|apply bX)<;>intro hc|refine⟨oD,?_⟩|exact oD|fail
theorem N3 {x y:Int} (hx:x.natAbs<bL) (hy:y.natAbs<bL):aA Tryz.prog 356 [Z x,Z y] (.tup [Z (x-y),E 0]):=
 NU (Nat.lt_of_lt_of_le (show _<bL*bL by unfold bL at*;omega) xX)
end Go.Proofs.YtmobkhegihemeaaGreatDoor
