/-
  Part of the proof, part 29. Own work.
-/
import Derived.Test.YtmledjfbgjnknaaGreatDoorM27
set_option linter.all false
namespace Go.Proofs.YtmledjfbgjnknaaGreatDoor
open Go Go.Dom
set_option maxRecDepth 100000
set_option maxHeartbeats 8000000
theorem blen_eq {n k:Nat} (h1:2^k≤n) (h2:n<2^(k+1)):blen n=k+1:=by
 have hp:0<2^k:=Nat.pow_pos (by decide)
 unfold blen;rw[if_neg (by omega),(Nat.log2_eq_iff (by omega)).2 ⟨h1,h2⟩]
theorem blen_lt (n:Nat):n<2^blen n:=by
 unfold blen;split
 ·rename_i h;rw[h];decide
 ·exact Nat.lt_log2_self
theorem blen_le {n:Nat} (h:n≠0):2^(blen n-1)≤n∧0<blen n:=by
 unfold blen;rw[if_neg h];exact⟨Nat.log2_self_le h,by omega⟩
theorem blen_half {n:Nat} (h:n≠0):blen n=blen (n/2)+1:=by
 obtain⟨h1,h2⟩:=blen_le h;have h3:=blen_lt n;obtain⟨k,hk⟩: ∃k,blen n=k+1:=⟨blen n-1,by omega⟩
 rw[hk]at h1 h3⊢;simp only[Nat.add_sub_cancel]at h1
 cases k with
 |zero=>
  have:n/2=0:=by simp at h3;omega
  rw[this];rfl
 |succ k=>
  rw[Nat.pow_succ]at h1 h3;rw[blen_eq (n:=n/2) (k:=k) (by omega) (by omega)]
theorem blen_cons {c:UInt8} (r:Bytes) (h:c≠0):blen (num (c::r))=8*r.length+blen c.toNat:=by
 have hc:c.toNat≠0:=fun e=>h (UInt8.toNat_inj.1 e)
 obtain⟨h1,h2⟩:=blen_le hc;have h3:=blen_lt c.toNat;have e256:256^r.length=2^(8*r.length):=by rw[show 256=2^8 from rfl,←Nat.pow_mul]
 have hn:num (c::r)=c.toNat*256^r.length+num r:=rfl;have hr:=num_lt r;have a1:2^(8*r.length+blen c.toNat-1)=2^(blen c.toNat-1)*256^r.length:=by rw[e256,←Nat.pow_add];congr 1;omega
 have a2:2^(8*r.length+blen c.toNat-1+1)=2^blen c.toNat*256^r.length:=by rw[e256,←Nat.pow_add];congr 1;omega
 have b1:=Nat.mul_le_mul_right (256^r.length) h1;have b2:=Nat.mul_le_mul_right (256^r.length) (show c.toNat+1≤2^blen c.toNat from h3)
 rw[Nat.add_mul]at b2;rw[blen_eq (k:=8*r.length+blen c.toNat-1) (by omega) (by omega)]
 omega
theorem tdiv2 (x:Nat):(x:Int).tdiv 2=((x/2:Nat):Int):=rfl
theorem rBits_ok {a:Bytes} (h:Canon a) (la:a.length<1048576):EvP Tryz.prog 269 [.s a] (E (blen (num a))):=by
 cases a with
 |nil=>
  refine eW Tryz.call269 Tryz.func269 ?_;repeat' first|simp only[go_sem,seval,nn]|refine sB ?_|(first|apply pX|apply bX)<;>intro hc|refine⟨oD,?_⟩|exact oD|fail
  rfl
 |cons c r=>
  have hc0:c≠0:=by rcases h with e|e;cases e;exact e
  have hb:=blen_cons r hc0;obtain⟨B,hB⟩: ∃B,B=blen (num (c::r)):=⟨_,rfl⟩;rw[←hB]at hb⊢;have hcl:=c.toNat_lt;have hl:r.length<1048576:=by simp at la;omega
  have hb8:blen c.toNat≤8:=by
   obtain⟨g1,g2⟩:=blen_le (n:=c.toNat) (fun e=>hc0 (UInt8.toNat_inj.1 e))
   have:=(Nat.pow_lt_pow_iff_right (by decide:1<2)).1 (show 2^(blen c.toNat-1)<2^8 by omega)
   omega
  refine eW Tryz.call269 Tryz.func269 ?_;repeat' first|simp only[go_sem,seval,cn]|refine sB ?_|(first|apply pX|apply bX)<;>intro hc|refine⟨oD,?_⟩|exact oD|fail
  refine loop_run (α:=Nat) (fun x=>x) (fun x=>⟨[(3,E' (B-blen x)),(4,E' x)],[],_⟩) (fun x=>x<256∧blen x≤B) c.toNat (fun _=>Nat.le_refl _) ⟨hcl,by omega⟩ ?_ ?_
  ·(refine AS.Le.of (by first|decide|omega) ?_ ?_<;>simp[LeT,LeH,tget,hget,AV.bd,AV.bd.bdL,u8,bd_cellsOf,bcells_bd,icells_bd])
   all_goals omega
  ·rintro x ⟨hx,hxb⟩ R hR
   by_cases h0:x=0
   ·subst h0;repeat' first|simp only[go_sem,seval]|refine sB ?_|(first|apply pX|apply bX)<;>intro hc|refine⟨oD,?_⟩|exact oD|fail
    rfl
   ·have hh:=blen_half h0;have hw: ∀ _:True,IntKind.i64.wrap (((B-blen x:Nat):Int)+1)=((B-blen (x/2):Nat):Int):=fun _=>by rw[IntWalk.i64_in _ (by omega)];omega
    repeat' first|simp only[go_sem,seval,tdiv2,hw trivial]|refine sB ?_|(first|apply pX|apply bX)<;>intro hc|refine⟨oD,?_⟩|exact oD|fail
    refine hR (x/2) ⟨by omega,by omega⟩ (by omega) _ ?_
    exact lE
theorem rOne_ok (a:Bytes) (i:Nat) (la:a.length<1048576) (hi:i<1099511627776):EvP Tryz.prog 270 [.s a,E i] (.b ((num a).testBit i)):=by
 have hd:=rAt_ok a (i/8) (by omega)
 have e0:(i:Int).tdiv 8=((i/8:Nat):Int):=rfl;have e1:(i:Int).tmod 8=((i%8:Nat):Int):=rfl;have key:(num a).testBit i=decide (num a/256^(i/8)%256/2^(i%8)%2=1):=by
  rw[Nat.testBit_eq_decide_div_mod_eq];congr 1;have e2:256^(i/8)=2^(8*(i/8)):=by rw[show 256=2^8 from rfl,←Nat.pow_mul]
  have e3:2^i=256^(i/8)*2^(i%8):=by rw[e2,←Nat.pow_add];congr 1;omega
  rw[e3,←Nat.div_div_eq_div_mul];generalize num a/256^(i/8)=z;have h8:i%8<8:=Nat.mod_lt _ (by decide)
  generalize i%8=j at h8;have:2^j*2^(8-j)=256:=by rw[←Nat.pow_add,show j+(8-j)=8 by omega]
  have e5:z%256/2^j=z/2^j%2^(8-j):=by rw[←this,Nat.mod_mul_right_div_self]
  rw[e5];have e6:2^(8-j)=2*2^(7-j):=by rw[←Nat.pow_succ'];congr 1;omega
  rw[e6,Nat.mod_mul_right_mod]
 rw[key];clear key;obtain⟨d,hdd⟩: ∃d,d=num a/256^(i/8)%256:=⟨_,rfl⟩;rw[←hdd]at hd⊢;have hdl:d<256:=by rw[hdd];exact Nat.mod_lt _ (by decide)
 obtain⟨e,he⟩: ∃e,e=i%8:=⟨_,rfl⟩;rw[←he]at e1⊢;clear hdd;refine eW Tryz.call270 Tryz.func270 ?_;repeat' first|simp only[go_sem,seval,e0,e1]|refine cP hd ?_|refine sB ?_|(first|apply pX|apply bX)<;>intro hc|refine⟨oD,?_⟩|exact oD|fail
 refine loop_run (α:=Nat) (fun j=>e-j) (fun j=>⟨[(1,E' i),(5,E' (d/2^j)),(6,E' j)],[],_⟩) (fun j=>j≤e) 0 (fun _=>Nat.le_refl _) (Nat.zero_le _) ?_ ?_
 ·(refine AS.Le.of (by first|decide|omega) ?_ ?_<;>simp[LeT,LeH,tget,hget,AV.bd,AV.bd.bdL,u8,bd_cellsOf,bcells_bd,icells_bd])
  all_goals simp
 ·intro j hj R hR;have hle:d/2^j≤d:=Nat.div_le_self _ _
  by_cases hlt:j<e
  ·have hw: ∀ _:True,IntKind.i64.wrap ((d/2^j/2:Nat):Int)=((d/2^(j+1):Nat):Int):=fun _=>by
    rw[Nat.pow_succ,←Nat.div_div_eq_div_mul];generalize d/2^j=z at hle⊢;rw[IntWalk.i64_in _ (by omega)]
   repeat' first|simp only[go_sem,seval,e1,tdiv2,hw trivial]|refine sB ?_|(first|apply pX|apply bX)<;>intro hc|refine⟨oD,?_⟩|exact oD|fail
   refine hR (j+1) (by omega) (by omega) _ ?_
   exact lE
  ·obtain rfl:j=e:=by omega
   have e3:((d/2^j:Nat):Int).tmod 2=((d/2^j%2:Nat):Int):=rfl;repeat' first|simp only[go_sem,seval,e1,e3]|refine sB ?_|(first|apply pX|apply bX)<;>intro hc|refine⟨oD,?_⟩|exact oD|fail
   congr 1;rw[Bool.eq_iff_iff];simp only[beq_iff_eq,decide_eq_true_eq];omega
theorem rPlusN {x y:Nat} (hx:(bts x).length<1099511627776) (hy:(bts y).length<1099511627776):EvP Tryz.prog 276 [N x,N y] (N (x+y)):=by
 have:=rPlus_ok (bts x) (bts y) hx hy
 rwa[num_bts,num_bts]at this
theorem rMinusN {x y:Nat} (hx:(bts x).length<1099511627776) (hy:(bts y).length<1099511627776) (h:y≤x):EvP Tryz.prog 154 [N x,N y] (N (x-y)):=by
 have:=rMinus_ok (bts x) (bts y) hx hy (by rw[num_bts,num_bts];exact h)
 rwa[num_bts,num_bts]at this
theorem rTimesN {x y:Nat} (hx:(bts x).length<1048576) (hy:(bts y).length<1048576):EvP Tryz.prog 274 [N x,N y] (N (x*y)):=by
 have:=rTimes_ok (bts x) (bts y) hx hy
 rwa[num_bts,num_bts]at this
theorem rOrderN {x y:Nat} (hx:(bts x).length<1099511627776) (hy:(bts y).length<1099511627776):EvP Tryz.prog 152 [N x,N y] (E (cmpN x y)):=by
 have:=rOrder_ok (bts_canon x) (bts_canon y) (by omega) (by omega)
 rwa[num_bts,num_bts]at this
theorem one_eq':(.s [1]:PV)=N 1:=rfl
theorem be_zero (n:Nat):be n 0=List.replicate n 0:=by
 induction n with
 |zero=>rfl
 |succ n ih=>rw[be,ih,Nat.zero_div,List.replicate_succ];rfl
theorem rOver_ok {a b:Bytes} (ha:Canon a) (hb:Canon b) (h0:0<num b) (la:a.length<1048576) (lb:b.length<1048576):EvP Tryz.prog 153 [.s a, .s b] (.tup [N (num a/num b),N (num a%num b)]):=by
 by_cases h8:a.length≤8∧b.length≤8
 ·have hu1:=rU64_ok a h8.1;have hu2:=rU64_ok b h8.2;have na:=num8 h8.1;have nb:=num8 h8.2;have hq:num a/num b<18446744073709551616:=Nat.lt_of_le_of_lt (Nat.div_le_self _ _) na;have hr:num a%num b<18446744073709551616:=Nat.lt_of_le_of_lt (Nat.mod_le _ _) na;refine eW Tryz.call153 Tryz.func153 ?_;repeat' first|simp only[go_sem,seval,uw,Nat.mod_eq_of_lt hq]|refine cP hu1 ?_|refine cP hu2 ?_|refine cP (rOf_ok _ hq) ?_|refine cP (rOf_ok _ hr) ?_|refine sB ?_|(first|apply pX|apply bX)<;>intro hc|refine⟨oD,?_⟩|exact oD|fail
 have hbits:=rBits_ok ha la;obtain⟨n,hn⟩: ∃n,n=a.length:=⟨_,rfl⟩;have hone:=fun i hi=>rOne_ok a i la hi
 have hAn:num a<256^n:=by rw[hn];exact num_lt a
 obtain⟨A,hA⟩: ∃A,A=num a:=⟨_,rfl⟩;obtain⟨B,hB⟩: ∃B,B=num b:=⟨_,rfl⟩;have hbB:bts B=b:=by rw[hB];exact bts_num hb
 have hBl:(bts B).length<1048576:=by rw[hbB];exact lb
 have hlen: ∀{x:Nat},x<2*B→(bts x).length<1099511627776:=by
  intro x hx;have h1:B<256^b.length:=by rw[hB];exact num_lt b
  have h2:x<256^(b.length+1):=by rw[Nat.pow_succ];omega
  have:=bts_len.2 h2;omega
 have hbl:blen A<8388608:=by
  by_cases hz:A=0
  ·rw[hz];decide
  ·obtain⟨g1,g2⟩:=blen_le hz;have g3:2^(blen A-1)<2^(8*n):=Nat.lt_of_le_of_lt g1 (by rw[Nat.pow_mul];rw[hA];exact hAn)
   have:=(Nat.pow_lt_pow_iff_right (by decide:1<2)).1 g3
   omega
 rw[←hA]at hbits hone hAn⊢;rw[←hB]at h0⊢;have eb:PV.s b=N B:=by show PV.s b=PV.s (bts B);rw[hbB]
 have hb2:A/2^blen A=0:=Nat.div_eq_of_lt (blen_lt A);rcases(show 8<a.length∨(a.length≤8∧8<b.length) by omega)with g|g
 all_goals
  refine eW Tryz.call153 Tryz.func153 ?_;simp only[go_sem,seval,←hn];repeat' first|simp only[go_sem,seval,←hn,cellsZ]|refine cP hbits ?_|refine sB ?_|(first|apply pX|apply bX)<;>intro hc|refine⟨oD,?_⟩|exact oD|fail
  refine loop_run (α:=Nat) (fun k=>k) (fun k=>⟨[(0, .v (.s a)),(1, .v (.s b)),(8, .rs 1012 0 0 n 1),(9, .v (N (A/2^k%B))),(10, .v (.i .i64 ((k:Int)-1)))],[(1012,⟨0,bcells (be n (A/2^k/B*2^k)),false,none⟩)],_⟩) (fun k=>k≤blen A) (blen A) (fun _=>Nat.le_refl _) (Nat.le_refl _) ?_ ?_
  ·(refine AS.Le.of (by first|decide|omega) ?_ ?_<;>simp[LeT,LeH,tget,hget,AV.bd,AV.bd.bdL,u8,bd_cellsOf,bcells_bd,icells_bd])
   all_goals simp[hb2,be_zero]
   all_goals rfl
  ·intro k hk R hR;have hbe: ∀q,(be n q).length=n:=fun q=>be_len _ _
   cases k with
   |zero=>
    have:=rTrim_ok (be n (A/1/B)) (by rw[be_len];omega)
    repeat' first|simp only[go_sem,seval,hbe]|(refine CR_bytes this rfl rfl (hbe _).symm ?_)|refine sB ?_|(first|apply pX|apply bX)<;>intro hc|refine⟨oD,?_⟩|exact oD|fail
    rw[Nat.div_one,trim_be (Nat.lt_of_le_of_lt (Nat.div_le_self _ _) hAn)]
   |succ i=>
    have hz:=half_pow A i;have ht:A/2^i%2<2:=Nat.mod_lt _ (by decide)
    obtain⟨s1,s2⟩:=div_step (z:=A/2^(i+1)) (t:=A/2^i%2) (B:=B) h0 ht;rw[←hz]at s1 s2;have hr1:A/2^(i+1)%B<B:=Nat.mod_lt _ h0;have hbit:=hone i (by omega)
    rw[Nat.testBit_eq_decide_div_mod_eq]at hbit;have hQn:A/2^i/B*2^i≤A:=Nat.le_trans (Nat.mul_le_mul_right _ (Nat.div_le_self _ _)) (Nat.div_mul_le_self _ _);obtain⟨Q,hQ⟩: ∃Q,Q=A/2^(i+1)/B:=⟨_,rfl⟩;obtain⟨r,hr⟩: ∃r,r=A/2^(i+1)%B:=⟨_,rfl⟩;obtain⟨t,htt⟩: ∃t,t=A/2^i%2:=⟨_,rfl⟩;rw[←hQ,←hr,←htt]at s1;rw[←hr,←htt]at s2;rw[←hr]at hr1;rw[←htt]at ht hbit;rw[←hQ,←hr];have hQ2:Q*2^(i+1)=2*Q*2^i:=by rw[Nat.pow_succ,Nat.mul_comm (2^i),←Nat.mul_assoc,Nat.mul_comm Q]
    have p1:=rPlusN (x:=r) (y:=r) (hlen (by omega)) (hlen (by omega))
    have p2:=rPlusN (x:=r+r) (y:=1) (hlen (by omega)) (by decide)
    have hw0: ∀ _:True,((i+1:Nat):Int)-1=(i:Int):=fun _=>by omega
    have hge0: ∀ _:True,decide ((i:Int)≥0)=true:=fun _=>by simp
    have hrt:r+r+t=2*r+t:=by omega
    by_cases hge:B≤r+r+t
    ·rw[if_pos (by omega)]at s1 s2
     have m1:=rMinusN (x:=r+r+t) (y:=B) (hlen (by omega)) (by omega) hge
     have o1:=rOrderN (x:=r+r+t) (y:=B) (hlen (by omega)) (by omega)
     obtain⟨cm,hcm⟩: ∃cm,cm=cmpN (r+r+t) B:=⟨_,rfl⟩;have hcg: ∀ _:True,decide (cm≥0)=true:=fun _=>by rw[hcm];unfold cmpN;rw[if_neg (by omega)];split<;>rfl
     rw[←hcm]at o1;rw[←eb]at m1 o1;have s2':A/2^i%B=r+r+t-B:=by rw[s2];omega
     have s1':A/2^i/B*2^i=Q*2^(i+1)+2^(i%8)*256^(i/8):=by rw[s1,Nat.add_mul,bit_byte,hQ2,Nat.one_mul]
     have hbf:=bit_free (Q:=Q) (i:=i);have hj:i/8<n:=by
      have h1:256^(i/8)≤A:=by
       rw[s1']at hQn;have:=Nat.le_mul_of_pos_left (256^(i/8)) (Nat.pow_pos (n:=i%8) (show 0<2 by decide))
       omega
      exact(Nat.pow_lt_pow_iff_right (by decide:1<256)).1 (Nat.lt_of_le_of_lt h1 hAn)
     have hadd:=be_add hj hbf;rw[←s1']at hadd;have hq1:(i:Int).tdiv 8=((i/8:Nat):Int):=rfl;have hq2:(i:Int).tmod 8=((i%8:Nat):Int):=rfl;have hix: ∀ _:True,((n:Int)-1-((i/8:Nat):Int)).toNat=n-1-i/8:=fun _=>by omega
     have hdig:=num_digit (be n (Q*2^(i+1))) (i:=i/8) (by rw[be_len];exact hj)
     rw[be_len,num_be]at hdig;have hdig2:Q*2^(i+1)%256^n/256^(i/8)%256=Q*2^(i+1)/256^(i/8)%256:=by
      have this:Q*2^(i+1)≤A/2^i/B*2^i:=by rw[s1'];exact Nat.le_add_right _ _
      rw[Nat.mod_eq_of_lt (Nat.lt_of_le_of_lt (Nat.le_trans this hQn) hAn)]
     rw[hdig2]at hdig;obtain⟨L,hL⟩: ∃L,L=be n (Q*2^(i+1)):=⟨_,rfl⟩;have hLl:L.length=n:=by rw[hL];exact be_len _ _
     obtain⟨y,hy⟩: ∃y,y=Q*2^(i+1)/256^(i/8)%256:=⟨_,rfl⟩;rw[←hL,←hy]at hadd hdig;rw[←hy]at hbf;rw[←hL];have hrd: ∀ _:True,(bcells L).getD (n-1-i/8) .u= .v (.i .u8 (y:Int)):=fun _=>by
      have:n-1-i/8<L.length:=by omega
      rw[←hdig];simp[bcells,List.getD_eq_getElem?_getD,this,u8]
     have he7:i%8<8:=Nat.mod_lt _ (by decide)
     clear hQ hr htt hz hQ2 hdig2 hL hy;rcases(show t=0∨t=1 by omega)with h0|h1
     ·subst h0;have hbit':EvP Tryz.prog 270 [.s a,E i] (.b false):=hbit;repeat' first|simp only[go_sem,seval,hw0 trivial,hge0 trivial,hcg trivial]|refine cP p1 ?_|refine cP hbit' ?_|refine cP o1 ?_|refine cP m1 ?_|refine sB ?_|(first|apply pX|apply bX)<;>intro hc|refine⟨oD,?_⟩|exact oD|fail
      refine loop_run (α:=Nat) (fun j=>i%8-j) (fun j=>⟨[(0, .v (.s a)),(1, .v (.s b)),(8, .rs 1012 0 0 n 1),(9, .v (N (r+r-B))),(10, .v (.i .i64 (i:Int))),(11, .v (.i .u8 ((2^j:Nat):Int))),(12, .v (.i .i64 (j:Int)))],[(1012,⟨0,bcells L,false,none⟩)],_⟩) (fun j=>j≤i%8) 0 (fun _=>Nat.le_refl _) (Nat.zero_le _) ?_ ?_
      ·exact lE
      ·intro j hj R2 hR2
       by_cases hlt:j<i%8
       ·have hp7:2^(j+1)≤2^7:=Nat.pow_le_pow_right (by decide) (by omega)
        have hwj: ∀ _:True,IntKind.u8.wrap (((2^j:Nat):Int)*2)=((2^(j+1):Nat):Int):=fun _=>by
         rw[wu8,Nat.pow_succ,Int.natCast_mul];rw[Nat.pow_succ]at hp7;omega
        repeat' first|simp only[go_sem,seval,hq2,hwj trivial]|refine sB ?_|(first|apply pX|apply bX)<;>intro hc|refine⟨oD,?_⟩|exact oD|fail
        refine hR2 (j+1) (by omega) (by omega) _ ?_
        exact lE
       ·obtain rfl:j=i%8:=by omega
        repeat' first|simp only[go_sem,seval,←hn,hq1,hq2,hLl,hix trivial,hrd trivial]|refine sB ?_|(first|apply pX|apply bX)<;>intro hc|refine⟨oD,?_⟩|exact oD|fail
        refine hR i (by omega) (by omega) _ ?_
        rw[s2',bput (c:=UInt8.ofNat (y+2^(i%8))) (by omega) (by rw[←Int.natCast_add,wu8_nat]),hadd]
        exact lE
     ·subst h1;have hbit':EvP Tryz.prog 270 [.s a,E i] (.b true):=hbit;repeat' first|simp only[go_sem,seval,hw0 trivial,hge0 trivial,hcg trivial,one_eq']|refine cP p1 ?_|refine cP hbit' ?_|refine cP p2 ?_|refine cP o1 ?_|refine cP m1 ?_|refine sB ?_|(first|apply pX|apply bX)<;>intro hc|refine⟨oD,?_⟩|exact oD|fail
      refine loop_run (α:=Nat) (fun j=>i%8-j) (fun j=>⟨[(0, .v (.s a)),(1, .v (.s b)),(8, .rs 1012 0 0 n 1),(9, .v (N (r+r+1-B))),(10, .v (.i .i64 (i:Int))),(11, .v (.i .u8 ((2^j:Nat):Int))),(12, .v (.i .i64 (j:Int)))],[(1012,⟨0,bcells L,false,none⟩)],_⟩) (fun j=>j≤i%8) 0 (fun _=>Nat.le_refl _) (Nat.zero_le _) ?_ ?_
      ·exact lE
      ·intro j hj R2 hR2
       by_cases hlt:j<i%8
       ·have hp7:2^(j+1)≤2^7:=Nat.pow_le_pow_right (by decide) (by omega)
        have hwj: ∀ _:True,IntKind.u8.wrap (((2^j:Nat):Int)*2)=((2^(j+1):Nat):Int):=fun _=>by
         rw[wu8,Nat.pow_succ,Int.natCast_mul];rw[Nat.pow_succ]at hp7;omega
        repeat' first|simp only[go_sem,seval,hq2,hwj trivial]|refine sB ?_|(first|apply pX|apply bX)<;>intro hc|refine⟨oD,?_⟩|exact oD|fail
        refine hR2 (j+1) (by omega) (by omega) _ ?_
        exact lE
       ·obtain rfl:j=i%8:=by omega
        repeat' first|simp only[go_sem,seval,←hn,hq1,hq2,hLl,hix trivial,hrd trivial]|refine sB ?_|(first|apply pX|apply bX)<;>intro hc|refine⟨oD,?_⟩|exact oD|fail
        refine hR i (by omega) (by omega) _ ?_
        rw[s2',bput (c:=UInt8.ofNat (y+2^(i%8))) (by omega) (by rw[←Int.natCast_add,wu8_nat]),hadd]
        exact lE
    ·rw[if_neg (by omega)]at s1 s2
     have o1:=rOrderN (x:=r+r+t) (y:=B) (hlen (by omega)) (by omega)
     have hcm:cmpN (r+r+t) B= -1:=by unfold cmpN;rw[if_pos (by omega)]
     rw[hcm,←eb]at o1;have s2':A/2^i%B=r+r+t:=by rw[s2];omega
     have s1':A/2^i/B*2^i=Q*2^(i+1):=by rw[s1,hQ2];rfl
     clear hQ hr htt hz hQ2;have hR':=hR i (by omega) (by omega)
     rw[s1',s2']at hR';rcases(show t=0∨t=1 by omega)with h0|h1
     ·subst h0;have hbit':EvP Tryz.prog 270 [.s a,E i] (.b false):=hbit;repeat' first|simp only[go_sem,seval,hw0 trivial,hge0 trivial]|refine cP p1 ?_|refine cP hbit' ?_|refine cP o1 ?_|refine sB ?_|(first|apply pX|apply bX)<;>intro hc|refine⟨oD,?_⟩|exact oD|fail
      refine hR' _ ?_;exact lE
     ·subst h1;have hbit':EvP Tryz.prog 270 [.s a,E i] (.b true):=hbit;repeat' first|simp only[go_sem,seval,hw0 trivial,hge0 trivial,one_eq']|refine cP p1 ?_|refine cP hbit' ?_|refine cP p2 ?_|refine cP o1 ?_|refine sB ?_|(first|apply pX|apply bX)<;>intro hc|refine⟨oD,?_⟩|exact oD|fail
      refine hR' _ ?_;exact lE
theorem rFit_ok (a:Bytes):EvP Tryz.prog 273 [.s a] (.tup [.s (if a.length≤128 then a else[]),E (if a.length≤128 then 0 else 5)]):=by
 refine eW Tryz.call273 Tryz.func273 ?_;repeat' first|simp only[go_sem,seval]|refine sB ?_|(first|apply pX|apply bX)<;>intro hc|refine⟨oD,?_⟩|exact oD|fail
 ·have h: ¬a.length≤128:=by omega
  simp[h]
 ·have h:a.length≤128:=by omega
  simp[h]
theorem rAdd_ok (a b:Bytes):EvP Tryz.prog 288 [.s a, .s b] (.tup [.s (addB a b).1,E (addB a b).2]):=by
 by_cases hv:validN a=true∧validN b=true
 case neg=>
  refine eW Tryz.call288 Tryz.func288 ?_;repeat' first|simp only[go_sem,seval]|refine cP (rValid_ok _) ?_|refine sB ?_|(first|apply pX|apply bX)<;>intro hc|refine⟨oD,?_⟩|exact oD|fail
  all_goals simp_all[addB]
 have la:=len_of hv.1;have lb:=len_of hv.2;have hp:=rPlus_ok a b (by omega) (by omega)
 refine eW Tryz.call288 Tryz.func288 ?_;repeat' first|simp only[go_sem,seval]|refine cP (rValid_ok _) ?_|refine cP hp ?_|refine cP (rFit_ok _) ?_|refine sB ?_|(first|apply pX|apply bX)<;>intro hc|refine⟨oD,?_⟩|exact oD|fail
 all_goals simp only[lim_len,addB,hv.1,hv.2,Bool.and_self,if_true]
 all_goals (split<;>simp_all)
theorem rSub_ok (a b:Bytes):EvP Tryz.prog 287 [.s a, .s b] (.tup [.s (subB a b).1,E (subB a b).2]):=by
 by_cases hv:validN a=true∧validN b=true
 case neg=>
  refine eW Tryz.call287 Tryz.func287 ?_;repeat' first|simp only[go_sem,seval]|refine cP (rValid_ok _) ?_|refine sB ?_|(first|apply pX|apply bX)<;>intro hc|refine⟨oD,?_⟩|exact oD|fail
  all_goals simp_all[subB]
 have la:=len_of hv.1;have lb:=len_of hv.2;have ho:=rOrder_ok (canon_of hv.1) (canon_of hv.2) (by omega) (by omega)
 have v1:=rValid_ok a;have v2:=rValid_ok b;rw[hv.1]at v1;rw[hv.2]at v2;refine eW Tryz.call287 Tryz.func287 ?_;repeat' first|simp only[go_sem,seval]|refine cP v1 ?_|refine cP v2 ?_|refine cP ho ?_|(refine CR_pure (rMinus_ok a b (by omega) (by omega) (by rw[cmpN_lt]at hc;omega)) rfl ?_)|refine sB ?_|(first|apply pX|apply bX)<;>intro hc|refine⟨oD,?_⟩|exact oD|fail
 ·rw[cmpN_lt]at hc;simp[subB,hv.1,hv.2,show¬num b≤num a by omega]
 ·rw[cmpN_lt]at hc;simp[subB,hv.1,hv.2,show num b≤num a by omega]
theorem rMul_ok (a b:Bytes):EvP Tryz.prog 151 [.s a, .s b] (.tup [.s (mulB a b).1,E (mulB a b).2]):=by
 by_cases hv:validN a=true∧validN b=true
 case neg=>
  refine eW Tryz.call151 Tryz.func151 ?_;repeat' first|simp only[go_sem,seval]|refine cP (rValid_ok _) ?_|refine sB ?_|(first|apply pX|apply bX)<;>intro hc|refine⟨oD,?_⟩|exact oD|fail
  all_goals simp_all[mulB]
 have la:=len_of hv.1;have lb:=len_of hv.2;have hp:=rTimes_ok a b (by omega) (by omega)
 refine eW Tryz.call151 Tryz.func151 ?_;repeat' first|simp only[go_sem,seval]|refine cP (rValid_ok _) ?_|refine cP hp ?_|refine cP (rFit_ok _) ?_|refine sB ?_|(first|apply pX|apply bX)<;>intro hc|refine⟨oD,?_⟩|exact oD|fail
 all_goals simp only[lim_len,mulB,hv.1,hv.2,Bool.and_self,if_true]
 all_goals (split<;>simp_all)
theorem rDivMod_ok (a b:Bytes):EvP Tryz.prog 387 [.s a, .s b] (.tup [.s (divB a b).1, .s (divB a b).2.1,E (divB a b).2.2]):=by
 by_cases hv:validN a=true∧validN b=true
 case neg=>
  refine eW Tryz.call387 Tryz.func387 ?_;repeat' first|simp only[go_sem,seval]|refine cP (rValid_ok _) ?_|refine sB ?_|(first|apply pX|apply bX)<;>intro hc|refine⟨oD,?_⟩|exact oD|fail
  all_goals simp_all[divB]
 have la:=len_of hv.1;have lb:=len_of hv.2
 by_cases h0:b=[]
 ·subst h0;refine eW Tryz.call387 Tryz.func387 ?_;repeat' first|simp only[go_sem,seval,nn]|refine cP (rValid_ok _) ?_|refine sB ?_|(first|apply pX|apply bX)<;>intro hc|refine⟨oD,?_⟩|exact oD|fail
  all_goals simp_all[divB]
 have hp:=num_pos (canon_of hv.2) h0;have ho:=rOver_ok (canon_of hv.1) (canon_of hv.2) hp (by omega) (by omega)
 refine eW Tryz.call387 Tryz.func387 ?_;repeat' first|simp only[go_sem,seval]|refine cP (rValid_ok _) ?_|refine cP ho ?_|refine sB ?_|(first|apply pX|apply bX)<;>intro hc|refine⟨oD,?_⟩|exact oD|fail
 all_goals simp_all[divB]
theorem rSmall_ok (a:Bytes):EvP Tryz.prog 456 [.s a] (.tup [.i .u64 (if validN a&&decide (a.length≤8)then num a else 0), .b (validN a&&decide (a.length≤8))]):=by
 by_cases h:validN a=true∧a.length≤8
 ·have hu:=rU64_ok a h.2;refine eW Tryz.call456 Tryz.func456 ?_;repeat' first|simp only[go_sem,seval]|refine cP (rValid_ok _) ?_|refine cP hu ?_|refine sB ?_|(first|apply pX|apply bX)<;>intro hc|refine⟨oD,?_⟩|exact oD|fail
  all_goals simp_all
 ·refine eW Tryz.call456 Tryz.func456 ?_;repeat' first|simp only[go_sem,seval]|refine cP (rValid_ok _) ?_|refine sB ?_|(first|apply pX|apply bX)<;>intro hc|refine⟨oD,?_⟩|exact oD|fail
  all_goals simp_all
  all_goals omega
theorem rBits'_ok {a:Bytes} (h:validN a=true):EvP Tryz.prog 377 [.s a] (E (blen (num a))):=by
 have la:=len_of h;have hb:=rBits_ok (canon_of h) (by omega)
 refine eW Tryz.call377 Tryz.func377 ?_;repeat' first|simp only[go_sem,seval]|refine cP (rValid_ok _) ?_|refine cP hb ?_|refine sB ?_|(first|apply pX|apply bX)<;>intro hc|refine⟨oD,?_⟩|exact oD|fail
 all_goals simp_all
theorem rBit_ok {a:Bytes} (h:validN a=true) (i:Nat) (hi:i<1099511627776):EvP Tryz.prog 147 [.s a,E i] (.b ((num a).testBit i)):=by
 have la:=len_of h;have hb:=rBits_ok (canon_of h) (by omega)
 have ho:=rOne_ok a i (by omega) hi
 have hv:=rValid_ok a;rw[h]at hv;have hlt: ¬i<blen (num a)→(num a).testBit i=false:=by
  intro g;rw[Nat.testBit_eq_decide_div_mod_eq,Nat.div_eq_of_lt (Nat.lt_of_lt_of_le (blen_lt _) (Nat.pow_le_pow_right (by decide) (by omega)))];rfl
 generalize (num a).testBit i=tb at*;refine eW Tryz.call147 Tryz.func147 ?_;repeat' first|simp only[go_sem,seval]|refine cP hv ?_|refine cP hb ?_|refine cP ho ?_|refine sB ?_|(first|apply pX|apply bX)<;>intro hc|refine⟨oD,?_⟩|exact oD|fail
 all_goals simp_all
 all_goals (first|omega|skip)
theorem rCommonN {a b:Nat} (ha:a<LIM) (hb:b<LIM):EvP Tryz.prog 278 [N a,N b] (N (Nat.gcd a b)):=by
 have hlim: ∀{x:Nat},x<LIM→(bts x).length<1048576:=fun h=>by have:=lim_len.2 h;omega
 refine eW Tryz.call278 Tryz.func278 ?_;simp only[go_sem,seval];refine loop_run (α:=Nat×Nat) (fun x=>x.2) (fun x=>⟨[(0, .v (N x.1)),(1, .v (N x.2))],[],_⟩) (fun x=>x.1<LIM∧x.2<LIM∧Nat.gcd x.1 x.2=Nat.gcd a b) (a,b) (fun _=>Nat.le_refl _) ⟨ha,hb,rfl⟩ ?_ ?_
 ·exact lE
 ·rintro⟨x,y⟩ ⟨hx,hy,hg⟩ R hR;simp only at hx hy hg
  by_cases h0:y=0
  ·subst h0;repeat' first|simp only[go_sem,seval,nilT]|refine sB ?_|(first|apply pX|apply bX)<;>intro hc|refine⟨oD,?_⟩|exact oD|fail
   rw[←hg,Nat.gcd_zero_right]
  ·have e:=nilF h0;have hd:=rOver_ok (bts_canon x) (bts_canon y) (by rw[num_bts];omega) (hlim hx) (hlim hy)
   rw[num_bts,num_bts]at hd;repeat' first|simp only[go_sem,seval,e]|refine cP hd ?_|refine sB ?_|(first|apply pX|apply bX)<;>intro hc|refine⟨oD,?_⟩|exact oD|fail
   have hm:x%y<y:=Nat.mod_lt _ (by omega)
   refine hR (y,x%y) ⟨hy,by show x%y< _;omega,?_⟩ hm _ ?_
   ·show Nat.gcd y (x%y)= _;rw[←hg,Nat.gcd_comm x y,Nat.gcd_rec y x,Nat.gcd_comm]
   ·exact lE
theorem rGcd_ok {a b:Bytes} (ha:validN a=true) (hb:validN b=true):EvP Tryz.prog 369 [.s a, .s b] (.tup [N (Nat.gcd (num a) (num b)),E 0]):=by
 have hc1:=rCommonN (num_of ha) (num_of hb);have e1:N (num a)= .s a:=congrArg PV.s (bts_of ha);have e2:N (num b)= .s b:=congrArg PV.s (bts_of hb);rw[e1,e2]at hc1;refine eW Tryz.call369 Tryz.func369 ?_;repeat' first|simp only[go_sem,seval]|refine cP (rValid_ok _) ?_|refine cP hc1 ?_|refine sB ?_|(first|apply pX|apply bX)<;>intro hc|refine⟨oD,?_⟩|exact oD|fail
 all_goals simp_all
theorem rAddN {a b:Nat} (h:a+b<LIM):EvP Tryz.prog 288 [N a,N b] (.tup [N (a+b),E 0]):=by
 have:=rAdd_ok (bts a) (bts b);simp only[addB,vB (show a<LIM by omega),vB (show b<LIM by omega),Bool.and_self,if_true,num_bts,h]at this
 exact this
theorem rSubN {a b:Nat} (h:b≤a) (ha:a<LIM):EvP Tryz.prog 287 [N a,N b] (.tup [N (a-b),E 0]):=by
 have:=rSub_ok (bts a) (bts b);simp only[subB,vB ha,vB (show b<LIM by omega),Bool.and_self,if_true,num_bts,h]at this
 exact this
theorem rMulN {a b:Nat} (h:a*b<LIM) (ha:a<LIM) (hb:b<LIM):EvP Tryz.prog 151 [N a,N b] (.tup [N (a*b),E 0]):=by
 have:=rMul_ok (bts a) (bts b);simp only[mulB,vB ha,vB hb,Bool.and_self,if_true,num_bts,h]at this;exact this
theorem rDivModN {a b:Nat} (ha:a<LIM) (hb:b<LIM) (h0:0<b):EvP Tryz.prog 387 [N a,N b] (.tup [N (a/b),N (a%b),E 0]):=by
 have:=rDivMod_ok (bts a) (bts b);have e:bts b≠[]:=fun h=>by rw[bts_nil]at h;omega
 simpa only[divB,vB ha,vB hb,Bool.and_self,if_true,e,if_false,num_bts]using this
theorem rCmpN {a b:Nat} (ha:a<LIM) (hb:b<LIM):EvP Tryz.prog 158 [N a,N b] (E (cmpN a b)):=by
 have:=rCmp_ok (bts a) (bts b);simpa only[vB ha,vB hb,Bool.and_self,if_true,num_bts]using this
theorem rIValid_ok (n:Bool) (a:Bytes):EvP Tryz.prog 160 [.agg [.b n, .s a]] (.b (validN a&& !(n&&a==[]))):=by
 have hv:=rValid_ok a;refine eW Tryz.call160 Tryz.func160 ?_;repeat' first|simp only[go_sem,seval]|refine cP hv ?_|refine sB ?_|(first|apply pX|apply bX)<;>intro hc|refine⟨oD,?_⟩|exact oD|fail
 all_goals simp_all
theorem rMake_ok (n:Bool) (a:Bytes):EvP Tryz.prog 373 [.b n, .s a] (.agg [.b (n&& !(a==[])), .s a]):=by
 refine eW Tryz.call373 Tryz.func373 ?_;repeat' first|simp only[go_sem,seval]|refine sB ?_|(first|apply pX|apply bX)<;>intro hc|refine⟨oD,?_⟩|exact oD|fail
 all_goals simp_all
theorem rMakeZ (b:Bool) (n:Nat) {z:Int} (h:(if b then-(n:Int)else n)=z):EvP Tryz.prog 373 [.b b,N n] (Z z):=by
 have:=rMake_ok b (bts n);rw[zmk,h]at this;exact this
theorem rIValidZ {x:Int} (h:x.natAbs<LIM):EvP Tryz.prog 160 [Z x] (.b true):=by
 have:=rIValid_ok (zs x) (zb x)
 rwa[zval h]at this
theorem rFromZ {n:Nat} (h:n<LIM):EvP Tryz.prog 290 [N n] (Z n):=by
 have hv:=rValid_ok (bts n);rw[vB h]at hv;have hm:=rMakeZ false n rfl;refine eW Tryz.call290 Tryz.func290 ?_;repeat' first|simp only[go_sem,seval,Z]|refine cP hv ?_|refine cP hm ?_|refine sB ?_|(first|apply pX|apply bX)<;>intro hc|refine⟨oD,?_⟩|exact oD|fail
theorem rOf1:EvP Tryz.prog 474 [E 1] (Z 1):=by
 have h1:=rOf_ok 1 (by decide)
 have hm:=rMakeZ false 1 rfl;refine eW Tryz.call474 Tryz.func474 ?_;repeat' first|simp only[go_sem,seval,Z]|refine cP h1 ?_|refine cP hm ?_|refine sB ?_|(first|apply pX|apply bX)<;>intro hc|refine⟨oD,?_⟩|exact oD|fail
theorem rOf0:EvP Tryz.prog 474 [E 0] (Z 0):=by
 have h1:=rOf_ok 0 (by decide)
 have hm:=rMakeZ false 0 rfl;refine eW Tryz.call474 Tryz.func474 ?_;repeat' first|simp only[go_sem,seval,Z]|refine cP h1 ?_|refine cP hm ?_|refine sB ?_|(first|apply pX|apply bX)<;>intro hc|refine⟨oD,?_⟩|exact oD|fail
theorem rNegZ {y:Int} (h:y.natAbs<LIM):EvP Tryz.prog 379 [Z y] (Z (-y)):=by
 have hv:=rIValidZ h;have hm:=rMakeZ (!zs y) y.natAbs (zneg y);refine eW Tryz.call379 Tryz.func379 ?_;repeat' first|simp only[go_sem,seval,Z]|refine cP hv ?_|refine cP hm ?_|refine sB ?_|(first|apply pX|apply bX)<;>intro hc|refine⟨oD,?_⟩|exact oD|fail
theorem rIMulZ {x y:Int} (hx:x.natAbs<W128) (hy:y.natAbs<W128):EvP Tryz.prog 284 [Z x,Z y] (.tup [Z (x*y),E 0]):=by
 have hw:=w128;have v1:=rIValidZ (x:=x) (by omega)
 have v2:=rIValidZ (x:=y) (by omega)
 have hm:=rMulN (a:=x.natAbs) (b:=y.natAbs) (Nat.lt_of_lt_of_le (Nat.mul_lt_mul'' hx hy) w256) (by omega) (by omega)
 have hk:=rMakeZ (zs x !=zs y) (x.natAbs*y.natAbs) (zmul x y);refine eW Tryz.call284 Tryz.func284 ?_;repeat' first|simp only[go_sem,seval,Z]|refine cP v1 ?_|refine cP v2 ?_|refine cP hm ?_|refine cP hk ?_|refine sB ?_|(first|apply pX|apply bX)<;>intro hc|refine⟨oD,?_⟩|exact oD|fail
theorem rIAddL {x y:Int} (hlim:x.natAbs+y.natAbs<LIM):EvP Tryz.prog 378 [Z x,Z y] (.tup [Z (x+y),E 0]):=by
 have v1:=rIValidZ (x:=x) (by omega)
 have v2:=rIValidZ (x:=y) (by omega)
 by_cases hs:zs x=zs y
 ·have ha:=rAddN hlim;have hk:=rMakeZ (zs x) (x.natAbs+y.natAbs) (zadd1 hs);have hb: ∀ _:True,(zs x==zs y)=true:=fun _=>by rw[hs];simp
  clear hs hlim;refine eW Tryz.call378 Tryz.func378 ?_;repeat' first|simp only[go_sem,seval,Z,hb trivial]|refine cP v1 ?_|refine cP v2 ?_|refine cP ha ?_|refine cP hk ?_|refine sB ?_|(first|apply pX|apply bX)<;>intro hc|refine⟨oD,?_⟩|exact oD|fail
 have hb: ∀ _:True,(zs x==zs y)=false:=fun _=>by simpa using hs
 have hcm:=rCmpN (a:=x.natAbs) (b:=y.natAbs) (by omega) (by omega)
 by_cases hl:y.natAbs≤x.natAbs
 ·have hd:=rSubN hl (by omega)
  have hk:=rMakeZ (zs x) (x.natAbs-y.natAbs) (zadd2 hs hl);have hg: ∀ _:True,decide (cmpN x.natAbs y.natAbs≥0)=true:=fun _=>decide_eq_true (cmpN_ge.2 hl)
  generalize cmpN x.natAbs y.natAbs=cm at*;clear hs hlim;refine eW Tryz.call378 Tryz.func378 ?_;repeat' first|simp only[go_sem,seval,Z,hb trivial,hg trivial]|refine cP v1 ?_|refine cP v2 ?_|refine cP hcm ?_|refine cP hd ?_|refine cP hk ?_|refine sB ?_|(first|apply pX|apply bX)<;>intro hc|refine⟨oD,?_⟩|exact oD|fail
 ·have hd:=rSubN (a:=y.natAbs) (b:=x.natAbs) (by omega) (by omega)
  have hk:=rMakeZ (zs y) (y.natAbs-x.natAbs) (zadd3 hs (by omega))
  have hg: ∀ _:True,decide (cmpN x.natAbs y.natAbs≥0)=false:=fun _=>decide_eq_false (fun h=>hl (cmpN_ge.1 h))
  generalize cmpN x.natAbs y.natAbs=cm at*;clear hs hlim;refine eW Tryz.call378 Tryz.func378 ?_;repeat' first|simp only[go_sem,seval,Z,hb trivial,hg trivial]|refine cP v1 ?_|refine cP v2 ?_|refine cP hcm ?_|refine cP hd ?_|refine cP hk ?_|refine sB ?_|(first|apply pX|apply bX)<;>intro hc|refine⟨oD,?_⟩|exact oD|fail
theorem rIAddZ {x y:Int} (hx:x.natAbs<W128) (hy:y.natAbs<W128):EvP Tryz.prog 378 [Z x,Z y] (.tup [Z (x+y),E 0]):=
 rIAddL (Nat.lt_of_lt_of_le (show _<W128*W128 by unfold W128 at*;omega) w256)
theorem rISubL {x y:Int} (hlim:x.natAbs+y.natAbs<LIM):EvP Tryz.prog 289 [Z x,Z y] (.tup [Z (x-y),E 0]):=by
 have v1:=rIValidZ (x:=x) (by omega)
 have v2:=rIValidZ (x:=y) (by omega)
 have hn:=rNegZ (y:=y) (by omega)
 have ha:=rIAddL (x:=x) (y:= -y) (by omega)
 rw[←Int.sub_eq_add_neg]at ha;refine eW Tryz.call289 Tryz.func289 ?_;repeat' first|simp only[go_sem,seval,Z]|refine cP v1 ?_|refine cP v2 ?_|refine cP hn ?_|refine cP ha ?_|refine sB ?_|(first|apply pX|apply bX)<;>intro hc|refine⟨oD,?_⟩|exact oD|fail
theorem rISubZ {x y:Int} (hx:x.natAbs<W128) (hy:y.natAbs<W128):EvP Tryz.prog 289 [Z x,Z y] (.tup [Z (x-y),E 0]):=
 rISubL (Nat.lt_of_lt_of_le (show _<W128*W128 by unfold W128 at*;omega) w256)
end Go.Proofs.YtmledjfbgjnknaaGreatDoor
