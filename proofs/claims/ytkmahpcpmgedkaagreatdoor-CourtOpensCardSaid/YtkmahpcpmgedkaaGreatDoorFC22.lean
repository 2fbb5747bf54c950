/- Part of the proof. -/
import Derived.Test.YtkmahpcpmgedkaaGreatDoorFC20
set_option linter.all false
set_option maxHeartbeats 8000000
set_option maxRecDepth 100000
namespace Go.Proofs.Tryz
open Go Go.Dom
variable {a b n:Nat} {x y:Int}
theorem HX {k:Nat} (h1:2^k<=n) (h2:n<2^(k+1)):c9 n=k+1:=by
 have hp:0<2^k:=ik oC;unfold c9;rw[ae oO,(Nat.log2_eq_iff oO).2 ⟨h1,h2⟩]
theorem sS (n:Nat):n<2^c9 n:=by
 unfold c9;split
 ·rename_i h;rw[h];decide
 ·exact ui
theorem sR (h:n≠0):2^(c9 n-1)<=n/\0<c9 n:=by
 unfold c9;rw[ae h];exact⟨Nat.log2_self_le h,oO⟩
theorem JA (h:n≠0):c9 n=c9 (n/2)+1:=by
 obtain⟨h1,h2⟩:=sR h;have h3:=sS n;obtain⟨k,hk⟩: ∃k,c9 n=k+1:=⟨c9 n-1,oO⟩;rw[hk]at h1 h3⊢;simp only[iO]at h1
 cases k with
 |zero=>
  have:n/2=0:=by simp at h3;omega
  rw[this];rfl
 |succ k=>
  rw[Nat.pow_succ]at h1 h3;rw[HX (n:=n/2) (k:=k) oO oO]
theorem Jz {c:UInt8} (r:Bytes) (h:c≠0):c9 (num (c::r))=8*r.length+c9 c.toNat:=by
 have hc:c.toNat≠0:=fun e=>h (kz.1 e)
 obtain⟨h1,h2⟩:=sR hc;have h3:=sS c.toNat;have e256:256^r.length=2^(8*r.length):=by rw[show 256=2^8 from rfl,<-ky]
 have hn:num (c::r)=c.toNat*256^r.length+num r:=rfl;have hr:=cC r;have a1:2^(8*r.length+c9 c.toNat-1)=2^(c9 c.toNat-1)*256^r.length:=by rw[e256,<-cY];congr 1;omega
 have a2:2^(8*r.length+c9 c.toNat-1+1)=2^c9 c.toNat*256^r.length:=by rw[e256,<-cY];congr 1;omega
 have b1:=dw (256^r.length) h1;have b2:=dw (256^r.length) (show c.toNat+1<=2^c9 c.toNat from h3)
 rw[dk]at b2;rw[HX (k:=8*r.length+c9 c.toNat-1) oO oO];omega
theorem Tp (x:Nat):(x:Int).tdiv 2=((x/2:Nat):Int):=rfl
theorem zV {a:Bytes} (h:Canon a) (la:a.length<1048576):aE 348 [.s a] (E (c9 (num a))):=by
 cases a with
 |nil=>
  refine eW call348 func348 ?_;repeat' first|simp only[go_sem,seval,nn]|refine oE ?_|apply xX<;>intro hc
  rfl
 |cons c r=>
  have hc0:c≠0:=by rcases h with e|e;cases e;exact e
  have hb:=Jz r hc0;obtain⟨B,hB⟩: ∃B,B=c9 (num (c::r)):=⟨_,rfl⟩;rw[<-hB]at hb⊢;have hcl:=c.toNat_lt;have hl:r.length<1048576:=by simp at la;omega
  have hb8:c9 c.toNat<=8:=by
   obtain⟨g1,g2⟩:=sR (n:=c.toNat) (fun e=>hc0 (kz.1 e))
   have:=(rh (by decide:1<2)).1 (show 2^(c9 c.toNat-1)<2^8 by omega)
   omega
  refine eW call348 func348 ?_;refine dH @cn ?_;refine af (α:=Nat) (fun x=>x) (fun x=>⟨[(3,E' (B-c9 x)),(4,E' x)],[],_⟩) (fun x=>x<256/\c9 x<=B) c.toNat (fun _=>aA _) ⟨hcl,oO⟩ ?_ ?_
  ·(refine AS.Le.of (by first|decide|omega) ?_ ?_<;>simp[dC,dA,aP,ay,AV.bd,AV.bd.bdL,u8,ar,au,az])
   all_goals omega
  ·rintro x ⟨hx,hxb⟩ R hR
   by_cases h0:x=0
   ·subst h0;repeat' first|simp only[go_sem,seval]|refine oE ?_|apply xX<;>intro hc
    rfl
   ·have hh:=JA h0;have hw: ∀ _:True,IntKind.i64.wrap (((B-c9 x:Nat):Int)+1)=((B-c9 (x/2):Nat):Int):=fun _=>by rw[IntWalk.i64_in _ oO];omega
    refine dI (aN @Tp (hw oT)) ?_;refine hR (x/2) ⟨oO,oO⟩ oO _ ?_;exact lE
theorem IW (a:Bytes) (i:Nat) (la:a.length<1048576) (hi:i<1099511627776):aE 349 [.s a,E i] (.b ((num a).testBit i)):=by
 have hd:=ss a (i/8) oO;have e0:(i:Int).tdiv 8=((i/8:Nat):Int):=rfl;have e1:(i:Int).tmod 8=((i%8:Nat):Int):=rfl;have key:(num a).testBit i=decide (num a/256^(i/8)%256/2^(i%8)%2=1):=by
  rw[lB];congr 1;have e2:256^(i/8)=2^(8*(i/8)):=by rw[show 256=2^8 from rfl,<-ky]
  have e3:2^i=256^(i/8)*2^(i%8):=by rw[e2,<-cY];congr 1;omega
  rw[e3,<-eS];generalize num a/256^(i/8)=z;have h8:i%8<8:=aL _ oC;generalize i%8=j at h8;have:2^j*2^(8-j)=256:=by rw[<-cY,show j+(8-j)=8 by omega]
  have e5:z%256/2^j=z/2^j%2^(8-j):=by rw[<-this,rf]
  rw[e5];have e6:2^(8-j)=2*2^(7-j):=by rw[<-x6];congr 1;omega
  rw[e6,Nat.mod_mul_right_mod]
 rw[key];clear key;obtain⟨d,hdd⟩: ∃d,d=num a/256^(i/8)%256:=⟨_,rfl⟩;rw[<-hdd]at hd⊢;have hdl:d<256:=by rw[hdd];exact aL _ oC
 obtain⟨e,he⟩: ∃e,e=i%8:=⟨_,rfl⟩;rw[<-he]at e1⊢;clear hdd;refine eW call349 func349 ?_;refine oZ (aN @e0 @e1) @hd ?_;refine af (α:=Nat) (fun j=>e-j) (fun j=>⟨[(1,E' i),(5,E' (d/2^j)),(6,E' j)],[],_⟩) (fun j=>j<=e) 0 (fun _=>aA _) (aI _) ?_ ?_
 ·(refine AS.Le.of (by first|decide|omega) ?_ ?_<;>simp[dC,dA,aP,ay,AV.bd,AV.bd.bdL,u8,ar,au,az])
  all_goals simp
 ·intro j hj R hR;have hle:d/2^j<=d:=eV _ _
  by_cases hlt:j<e
  ·have hw: ∀ _:True,IntKind.i64.wrap ((d/2^j/2:Nat):Int)=((d/2^(j+1):Nat):Int):=fun _=>by
    rw[Nat.pow_succ,<-eS];generalize d/2^j=z at hle⊢;rw[IntWalk.i64_in _ oO]
   refine dI (aN @e1 (aN @Tp (hw oT))) ?_;refine hR (j+1) oO oO _ ?_;exact lE
  ·obtain rfl:j=e:=oO;have e3:((d/2^j:Nat):Int).tmod 2=((d/2^j%2:Nat):Int):=rfl;repeat' first|simp only[go_sem,seval,e1,e3]|refine oE ?_|apply xX<;>intro hc
   congr 1;rw[ew];simp only[gR,cK];omega
theorem Ok {x y:Nat} (hx:(aY x).length<1099511627776) (hy:(aY y).length<1099511627776):aE 318 [N x,N y] (N (x+y)):=by
 have:=Fq (aY x) (aY y) hx hy
 rwa[aQ,aQ]at this
theorem IV {x y:Nat} (hx:(aY x).length<1099511627776) (hy:(aY y).length<1099511627776) (h:y<=x):aE 226 [N x,N y] (N (x-y)):=by
 have:=oP (aY x) (aY y) hx hy (by rw[aQ,aQ];exact h)
 rwa[aQ,aQ]at this
theorem IZ {x y:Nat} (hx:(aY x).length<1048576) (hy:(aY y).length<1048576):aE 295 [N x,N y] (N (x*y)):=by
 have:=qS (aY x) (aY y) hx hy
 rwa[aQ,aQ]at this
theorem IX {x y:Nat} (hx:(aY x).length<1099511627776) (hy:(aY y).length<1099511627776):aE 82 [N x,N y] (E (bc x y)):=by
 have:=gJ (gZ x) (gZ y) oO oO
 rwa[aQ,aQ]at this
theorem II:(.s [1]:PV)=N 1:=rfl
theorem Qr (n:Nat):be n 0=List.replicate n 0:=by
 induction n with
 |zero=>rfl
 |succ n ih=>rw[be,ih,Nat.zero_div,List.replicate_succ];rfl
theorem tJ {a b:Bytes} (ha:Canon a) (hb:Canon b) (h0:0<num b) (la:a.length<1048576) (lb:b.length<1048576):aE 225 [.s a, .s b] (.tup [N (num a/num b),N (num a%num b)]):=by
 by_cases h8:a.length<=8/\b.length<=8
 ·have hu1:=tK a h8.1;have hu2:=tK b h8.2;have na:=eR h8.1;have nb:=eR h8.2;have hq:num a/num b<(2^64):=eX (eV _ _) na;have hr:num a%num b<(2^64):=eX (Nat.mod_le _ _) na;refine eW call225 func225 ?_;repeat' first|simp only[go_sem,seval,uw,b9 hq]|refine cP hu1 ?_|refine cP hu2 ?_|refine cP (ie _ hq) ?_|refine cP (ie _ hr) ?_|refine oE ?_|apply xX<;>intro hc
 have hbits:=zV ha la;obtain⟨n,hn⟩: ∃n,n=a.length:=⟨_,rfl⟩;have hone:=fun i hi=>IW a i la hi
 have hAn:num a<256^n:=by rw[hn];exact cC a
 obtain⟨A,hA⟩: ∃A,A=num a:=⟨_,rfl⟩;obtain⟨B,hB⟩: ∃B,B=num b:=⟨_,rfl⟩;have hbB:aY B=b:=by rw[hB];exact HZ hb
 have hBl:(aY B).length<1048576:=by rw[hbB];exact lb
 have hlen: ∀{x:Nat},x<2*B->(aY x).length<1099511627776:=by
  intro x hx;have h1:B<256^b.length:=by rw[hB];exact cC b
  have h2:x<256^(b.length+1):=by rw[Nat.pow_succ];omega
  have:=o6.2 h2;omega
 have hbl:c9 A<8388608:=by
  by_cases hz:A=0
  ·rw[hz];decide
  ·obtain⟨g1,g2⟩:=sR hz;have g3:2^(c9 A-1)<2^(8*n):=eX g1 (by rw[ky];rw[hA];exact hAn)
   have:=(rh (by decide:1<2)).1 g3
   omega
 rw[<-hA]at hbits hone hAn⊢;rw[<-hB]at h0⊢;have eb:PV.s b=N B:=by show PV.s b=PV.s (aY B);rw[hbB]
 have hb2:A/2^c9 A=0:=iB (sS A);rcases(show 8<a.length\/(a.length<=8/\8<b.length) by omega)with g|g
 all_goals
  refine eW call225 func225 ?_;simp only[go_sem,seval,<-hn];repeat' first|simp only[go_sem,seval,<-hn,n8]|refine cP hbits ?_|refine oE ?_|apply xX<;>intro hc
  refine af (α:=Nat) (fun k=>k) (fun k=>⟨[(0, .v (.s a)),(1, .v (.s b)),(8, .rs 1012 0 0 n 1),(9, .v (N (A/2^k%B))),(10, .v (.i .i64 ((k:Int)-1)))],[(1012,⟨0,aH (be n (A/2^k/B*2^k)),false,none⟩)],_⟩) (fun k=>k<=c9 A) (c9 A) (fun _=>aA _) (aA _) ?_ ?_
  ·(refine AS.Le.of (by first|decide|omega) ?_ ?_<;>simp[dC,dA,aP,ay,AV.bd,AV.bd.bdL,u8,ar,au,az])
   all_goals simp[hb2,Qr]
   all_goals rfl
  ·intro k hk R hR;have hbe: ∀q,(be n q).length=n:=fun q=>cH _ _
   cases k with
   |zero=>
    have:=qt (be n (A/1/B)) (by rw[cH];omega)
    repeat' first|simp only[go_sem,seval,hbe]|(refine ir this rfl rfl (hbe _).symm ?_)|refine oE ?_|apply xX<;>intro hc
    rw[iW,j9 (eX (eV _ _) hAn)]
   |succ i=>
    have hz:=EK A i;have ht:A/2^i%2<2:=aL _ oC;obtain⟨s1,s2⟩:=Mw (z:=A/2^(i+1)) (t:=A/2^i%2) (B:=B) h0 ht;rw[<-hz]at s1 s2;have hr1:A/2^(i+1)%B<B:=aL _ h0;have hbit:=hone i oO;rw[lB]at hbit;have hQn:A/2^i/B*2^i<=A:=fZ (dw _ (eV _ _)) (rk _ _);obtain⟨Q,hQ⟩: ∃Q,Q=A/2^(i+1)/B:=⟨_,rfl⟩;obtain⟨r,hr⟩: ∃r,r=A/2^(i+1)%B:=⟨_,rfl⟩;obtain⟨t,htt⟩: ∃t,t=A/2^i%2:=⟨_,rfl⟩;rw[<-hQ,<-hr,<-htt]at s1;rw[<-hr,<-htt]at s2;rw[<-hr]at hr1;rw[<-htt]at ht hbit;rw[<-hQ,<-hr];have hQ2:Q*2^(i+1)=2*Q*2^i:=by rw[Nat.pow_succ,bO (2^i),<-cM,bO Q]
    have p1:=Ok (x:=r) (y:=r) (hlen oO) (hlen oO);have p2:=Ok (x:=r+r) (y:=1) (hlen oO) oC;have hw0: ∀ _:True,((i+1:Nat):Int)-1=(i:Int):=fun _=>oO
    have hge0: ∀ _:True,decide ((i:Int)>=0)=true:=fun _=>by simp
    have hrt:r+r+t=2*r+t:=oO
    by_cases hge:B<=r+r+t
    ·rw[ah oO]at s1 s2;have m1:=IV (x:=r+r+t) (y:=B) (hlen oO) oO hge;have o1:=IX (x:=r+r+t) (y:=B) (hlen oO) oO;obtain⟨cm,hcm⟩: ∃cm,cm=bc (r+r+t) B:=⟨_,rfl⟩;have hcg: ∀ _:True,decide (cm>=0)=true:=fun _=>by rw[hcm];unfold bc;rw[ae oO];split<;>rfl
     rw[<-hcm]at o1;rw[<-eb]at m1 o1;have s2':A/2^i%B=r+r+t-B:=by rw[s2];omega
     have s1':A/2^i/B*2^i=Q*2^(i+1)+2^(i%8)*256^(i/8):=by rw[s1,dk,L4,hQ2,jL]
     have hbf:=L5 (Q:=Q) (i:=i);have hj:i/8<n:=by
      have h1:256^(i/8)<=A:=by
       rw[s1']at hQn;have:=DR (256^(i/8)) (ik (n:=i%8) (show 0<2 by decide))
       omega
      exact(rh (by decide:1<256)).1 (eX h1 hAn)
     have hadd:=Uv hj hbf;rw[<-s1']at hadd;have hq1:(i:Int).tdiv 8=((i/8:Nat):Int):=rfl;have hq2:(i:Int).tmod 8=((i%8:Nat):Int):=rfl;have hix: ∀ _:True,((n:Int)-1-((i/8:Nat):Int)).toNat=n-1-i/8:=fun _=>oO
     have hdig:=vu (be n (Q*2^(i+1))) (i:=i/8) (by rw[cH];exact hj)
     rw[cH,zD]at hdig;have hdig2:Q*2^(i+1)%256^n/256^(i/8)%256=Q*2^(i+1)/256^(i/8)%256:=by
      have this:Q*2^(i+1)<=A/2^i/B*2^i:=by rw[s1'];exact Nat.le_add_right _ _
      rw[b9 (eX (fZ this hQn) hAn)]
     rw[hdig2]at hdig;obtain⟨L,hL⟩: ∃L,L=be n (Q*2^(i+1)):=⟨_,rfl⟩;have hLl:L.length=n:=by rw[hL];exact cH _ _
     obtain⟨y,hy⟩: ∃y,y=Q*2^(i+1)/256^(i/8)%256:=⟨_,rfl⟩;rw[<-hL,<-hy]at hadd hdig;rw[<-hy]at hbf;rw[<-hL];have hrd: ∀ _:True,(aH L).getD (n-1-i/8) .u= .v (.i .u8 (y:Int)):=fun _=>by
      have:n-1-i/8<L.length:=oO;rw[<-hdig];simp[aH,br,this,u8]
     have he7:i%8<8:=aL _ oC;clear hQ hr htt hz hQ2 hdig2 hL hy;rcases(show t=0\/t=1 by omega)with h0|h1
     ·subst h0;have hbit':aE 349 [.s a,E i] (.b false):=hbit;refine uE (aN (hw0 oT) (aN (hge0 oT) (hcg oT))) @p1 @hbit' @o1 @m1 ?_;refine af (α:=Nat) (fun j=>i%8-j) (fun j=>⟨[(0, .v (.s a)),(1, .v (.s b)),(8, .rs 1012 0 0 n 1),(9, .v (N (r+r-B))),(10, .v (.i .i64 (i:Int))),(11, .v (.i .u8 ((2^j:Nat):Int))),(12, .v (.i .i64 (j:Int)))],[(1012,⟨0,aH L,false,none⟩)],_⟩) (fun j=>j<=i%8) 0 (fun _=>aA _) (aI _) ?_ ?_
      ·exact lE
      ·intro j hj R2 hR2
       by_cases hlt:j<i%8
       ·have hp7:2^(j+1)<=2^7:=dc oC oO;have hwj: ∀ _:True,IntKind.u8.wrap (((2^j:Nat):Int)*2)=((2^(j+1):Nat):Int):=fun _=>by
         rw[Wj,Nat.pow_succ,Int.natCast_mul];rw[Nat.pow_succ]at hp7;omega
        refine dI (aN @hq2 (hwj oT)) ?_;refine hR2 (j+1) oO oO _ ?_;exact lE
       ·obtain rfl:j=i%8:=oO;repeat' first|simp only[go_sem,seval,<-hn,hq1,hq2,hLl,hix oT,hrd oT]|refine oE ?_|apply xX<;>intro hc
        refine hR i oO oO _ ?_;rw[s2',sT (c:=UInt8.ofNat (y+2^(i%8))) oO (by rw[<-Int.natCast_add,ly]),hadd]
        exact lE
     ·subst h1;have hbit':aE 349 [.s a,E i] (.b true):=hbit;refine HI (aN (hw0 oT) (aN (hge0 oT) (aN (hcg oT) @II))) @p1 @hbit' @p2 @o1 @m1 oT oT ?_;refine af (α:=Nat) (fun j=>i%8-j) (fun j=>⟨[(0, .v (.s a)),(1, .v (.s b)),(8, .rs 1012 0 0 n 1),(9, .v (N (r+r+1-B))),(10, .v (.i .i64 (i:Int))),(11, .v (.i .u8 ((2^j:Nat):Int))),(12, .v (.i .i64 (j:Int)))],[(1012,⟨0,aH L,false,none⟩)],_⟩) (fun j=>j<=i%8) 0 (fun _=>aA _) (aI _) ?_ ?_
      ·exact lE
      ·intro j hj R2 hR2
       by_cases hlt:j<i%8
       ·have hp7:2^(j+1)<=2^7:=dc oC oO;have hwj: ∀ _:True,IntKind.u8.wrap (((2^j:Nat):Int)*2)=((2^(j+1):Nat):Int):=fun _=>by
         rw[Wj,Nat.pow_succ,Int.natCast_mul];rw[Nat.pow_succ]at hp7;omega
        refine dI (aN @hq2 (hwj oT)) ?_;refine hR2 (j+1) oO oO _ ?_;exact lE
       ·obtain rfl:j=i%8:=oO;repeat' first|simp only[go_sem,seval,<-hn,hq1,hq2,hLl,hix oT,hrd oT]|refine oE ?_|apply xX<;>intro hc
        refine hR i oO oO _ ?_;rw[s2',sT (c:=UInt8.ofNat (y+2^(i%8))) oO (by rw[<-Int.natCast_add,ly]),hadd]
        exact lE
    ·rw[ae oO]at s1 s2;have o1:=IX (x:=r+r+t) (y:=B) (hlen oO) oO;have hcm:bc (r+r+t) B= -1:=by unfold bc;rw[ah oO]
     rw[hcm,<-eb]at o1;have s2':A/2^i%B=r+r+t:=by rw[s2];omega
     have s1':A/2^i/B*2^i=Q*2^(i+1):=by rw[s1,hQ2];rfl
     clear hQ hr htt hz hQ2;have hR':=hR i oO oO;rw[s1',s2']at hR';rcases(show t=0\/t=1 by omega)with h0|h1
     ·subst h0;have hbit':aE 349 [.s a,E i] (.b false):=hbit;refine vZ (aN (hw0 oT) (hge0 oT)) @p1 @hbit' @o1 oT ?_;refine hR' _ ?_;exact lE
     ·subst h1;have hbit':aE 349 [.s a,E i] (.b true):=hbit;refine vZ (aN (hw0 oT) (aN (hge0 oT) @II)) @p1 @hbit' @p2 @o1 ?_;refine hR' _ ?_;exact lE
theorem IU (a:Bytes):aE 404 [.s a] (.tup [.s (if a.length<=128 then a else[]),E (if a.length<=128 then 0 else 5)]):=by
 refine eW call404 func404 ?_;repeat' first|simp only[go_sem,seval]|refine oE ?_|apply xX<;>intro hc
 ·have h: ¬a.length<=128:=oO;simp[h]
 ·have h:a.length<=128:=oO;simp[h]
theorem RQ (a b:Bytes):aE 302 [.s a, .s b] (.tup [.s (AD a b).1,E (AD a b).2]):=by
 by_cases hv:aa a=true/\aa b=true
 case neg=>
  refine eW call302 func302 ?_;repeat' first|simp only[go_sem,seval]|refine cP (aK _) ?_|refine oE ?_|apply xX<;>intro hc
  all_goals simp_all[AD]
 have la:=cW hv.1;have lb:=cW hv.2;have hp:=Fq a b oO oO;refine eW call302 func302 ?_;repeat' first|simp only[go_sem,seval]|refine cP (aK _) ?_|refine cP hp ?_|refine cP (IU _) ?_|refine oE ?_|apply xX<;>intro hc
 all_goals simp only[nG,AD,hv.1,hv.2,dt,ax]
 all_goals (split<;>simp_all)
theorem RX (a b:Bytes):aE 301 [.s a, .s b] (.tup [.s (vT a b).1,E (vT a b).2]):=by
 by_cases hv:aa a=true/\aa b=true
 case neg=>
  refine eW call301 func301 ?_;repeat' first|simp only[go_sem,seval]|refine cP (aK _) ?_|refine oE ?_|apply xX<;>intro hc
  all_goals simp_all[vT]
 have la:=cW hv.1;have lb:=cW hv.2;have ho:=gJ (bJ hv.1) (bJ hv.2) oO oO;have v1:=aK a;have v2:=aK b;rw[hv.1]at v1;rw[hv.2]at v2;refine eW call301 func301 ?_;repeat' first|simp only[go_sem,seval]|refine cP v1 ?_|refine cP v2 ?_|refine cP ho ?_|(refine jn (oP a b oO oO (by rw[fM]at hc;omega)) rfl ?_)|refine oE ?_|apply xX<;>intro hc
 ·rw[fM]at hc;simp[vT,hv.1,hv.2,show¬num b<=num a by omega]
 ·rw[fM]at hc;simp[vT,hv.1,hv.2,show num b<=num a by omega]
theorem RU (a b:Bytes):aE 354 [.s a, .s b] (.tup [.s (wM a b).1,E (wM a b).2]):=by
 by_cases hv:aa a=true/\aa b=true
 case neg=>
  refine eW call354 func354 ?_;repeat' first|simp only[go_sem,seval]|refine cP (aK _) ?_|refine oE ?_|apply xX<;>intro hc
  all_goals simp_all[wM]
 have la:=cW hv.1;have lb:=cW hv.2;have hp:=qS a b oO oO;refine eW call354 func354 ?_;repeat' first|simp only[go_sem,seval]|refine cP (aK _) ?_|refine cP hp ?_|refine cP (IU _) ?_|refine oE ?_|apply xX<;>intro hc
 all_goals simp only[nG,wM,hv.1,hv.2,dt,ax]
 all_goals (split<;>simp_all)
theorem G7 (a b:Bytes):aE 410 [.s a, .s b] (.tup [.s (tc a b).1, .s (tc a b).2.1,E (tc a b).2.2]):=by
 by_cases hv:aa a=true/\aa b=true
 case neg=>
  refine eW call410 func410 ?_;repeat' first|simp only[go_sem,seval]|refine cP (aK _) ?_|refine oE ?_|apply xX<;>intro hc
  all_goals simp_all[tc]
 have la:=cW hv.1;have lb:=cW hv.2
 by_cases h0:b=[]
 ·subst h0;refine eW call410 func410 ?_;repeat' first|simp only[go_sem,seval,nn]|refine cP (aK _) ?_|refine oE ?_|apply xX<;>intro hc
  all_goals simp_all[tc]
 have hp:=qO (bJ hv.2) h0;have ho:=tJ (bJ hv.1) (bJ hv.2) hp oO oO;refine eW call410 func410 ?_;repeat' first|simp only[go_sem,seval]|refine cP (aK _) ?_|refine cP ho ?_|refine oE ?_|apply xX<;>intro hc
 all_goals simp_all[tc]
theorem vJ (a:Bytes):aE 353 [.s a] (.tup [.i .u64 (if aa a&&decide (a.length<=8)then num a else 0), .b (aa a&&decide (a.length<=8))]):=by
 by_cases h:aa a=true/\a.length<=8
 ·have hu:=tK a h.2;refine eW call353 func353 ?_;repeat' first|simp only[go_sem,seval]|refine cP (aK _) ?_|refine cP hu ?_|refine oE ?_|apply xX<;>intro hc
  all_goals simp_all
 ·refine eW call353 func353 ?_;repeat' first|simp only[go_sem,seval]|refine cP (aK _) ?_|refine oE ?_|apply xX<;>intro hc
  all_goals simp_all
  all_goals omega
theorem KK {a:Bytes} (h:aa a=true):aE 403 [.s a] (E (c9 (num a))):=by
 have la:=cW h;have hb:=zV (bJ h) oO;refine eW call403 func403 ?_;repeat' first|simp only[go_sem,seval]|refine cP (aK _) ?_|refine cP hb ?_|refine oE ?_|apply xX<;>intro hc
 all_goals simp_all
theorem RR {a:Bytes} (h:aa a=true) (i:Nat) (hi:i<1099511627776):aE 430 [.s a,E i] (.b ((num a).testBit i)):=by
 have la:=cW h;have hb:=zV (bJ h) oO;have ho:=IW a i oO hi;have hv:=aK a;rw[h]at hv;have hlt: ¬i<c9 (num a)->(num a).testBit i=false:=by
  intro g;rw[lB,iB (bE (sS _) (dc oC oO))];rfl
 generalize (num a).testBit i=tb at*;refine eW call430 func430 ?_;repeat' first|simp only[go_sem,seval]|refine cP hv ?_|refine cP hb ?_|refine cP ho ?_|refine oE ?_|apply xX<;>intro hc
 all_goals simp_all
 all_goals (first|omega|skip)
theorem Of (ha:a<dZ) (hb:b<dZ):aE 228 [N a,N b] (N (Nat.gcd a b)):=by
 have hlim: ∀{x:Nat},x<dZ->(aY x).length<1048576:=fun h=>by have:=nG.2 h;omega
 refine eW call228 func228 ?_;simp only[go_sem,seval];refine af (α:=Nat×Nat) (fun x=>x.2) (fun x=>⟨[(0, .v (N x.1)),(1, .v (N x.2))],[],_⟩) (fun x=>x.1<dZ/\x.2<dZ/\Nat.gcd x.1 x.2=Nat.gcd a b) (a,b) (fun _=>aA _) ⟨ha,hb,rfl⟩ ?_ ?_
 ·exact lE
 ·rintro⟨x,y⟩ ⟨hx,hy,hg⟩ R hR;simp only at hx hy hg
  by_cases h0:y=0
  ·subst h0;refine dI @GQ ?_;rw[<-hg,DX]
  ·have e:=si h0;have hd:=tJ (gZ x) (gZ y) (by rw[aQ];omega) (hlim hx) (hlim hy)
   rw[aQ,aQ]at hd;refine jm @e @hd ?_;have hm:x%y<y:=aL _ oO;refine hR (y,x%y) ⟨hy,by show x%y< _;omega,?_⟩ hm _ ?_
   ·show Nat.gcd y (x%y)= _;rw[<-hg,kZ x y,mA y x,kZ]
   ·exact lE
theorem IS (h:a+b<dZ):aE 302 [N a,N b] (.tup [N (a+b),E 0]):=by
 have:=RQ (aY a) (aY b);simp only[AD,vB (show a<dZ by omega),vB (show b<dZ by omega),dt,ax,aQ,h]at this
 exact this
theorem IY (h:b<=a) (ha:a<dZ):aE 301 [N a,N b] (.tup [N (a-b),E 0]):=by
 have:=RX (aY a) (aY b);simp only[vT,vB ha,vB (show b<dZ by omega),dt,ax,aQ,h]at this
 exact this
theorem Tg (h:a*b<dZ) (ha:a<dZ) (hb:b<dZ):aE 354 [N a,N b] (.tup [N (a*b),E 0]):=by
 have:=RU (aY a) (aY b);simp only[wM,vB ha,vB hb,dt,ax,aQ,h]at this;exact this
theorem qp (ha:a<dZ) (hb:b<dZ) (h0:0<b):aE 410 [N a,N b] (.tup [N (a/b),N (a%b),E 0]):=by
 have:=G7 (aY a) (aY b);have e:aY b≠[]:=fun h=>by rw[iJ]at h;omega
 simpa only[tc,vB ha,vB hb,dt,ax,e,aq,aQ]using this
theorem X4 (ha:a<dZ) (hb:b<dZ):aE 39 [N a,N b] (E (bc a b)):=by
 have:=po (aY a) (aY b);simpa only[vB ha,vB hb,dt,ax,aQ]using this
theorem jE (n:Bool) (a:Bytes):aE 111 [.agg [.b n, .s a]] (.b (aa a&& !(n&&a==[]))):=by
 have hv:=aK a;refine eW call111 func111 ?_;exact Zh @hv
theorem zZ (n:Bool) (a:Bytes):aE 96 [.b n, .s a] (.agg [.b (n&& !(a==[])), .s a]):=by
 refine eW call96 func96 ?_;exact Y6
theorem mV (b:Bool) (n:Nat) {z:Int} (h:(if b then-(n:Int)else n)=z):aE 96 [.b b,N n] (Z z):=by
 have:=zZ b (aY n);rw[zmk,h]at this;exact this
theorem ji (h:x.natAbs<dZ):aE 111 [Z x] (.b true):=by
 have:=jE (zs x) (zb x)
 rwa[Ws h]at this
theorem zW (h:n<dZ):aE 45 [N n] (Z n):=by
 have hv:=aK (aY n);rw[vB h]at hv;have hm:=mV false n rfl;refine eW call45 func45 ?_;repeat' first|simp only[go_sem,seval,Z]|refine cP hv ?_|refine cP hm ?_|refine oE ?_|apply xX<;>intro hc
theorem X7:aE 54 [E 1] (Z 1):=by
 have h1:=ie 1 oC;have hm:=mV false 1 rfl;refine eW call54 func54 ?_;repeat' first|simp only[go_sem,seval,Z]|refine cP h1 ?_|refine cP hm ?_|refine oE ?_|apply xX<;>intro hc
theorem aas:aE 54 [E 0] (Z 0):=by
 have h1:=ie 0 oC;have hm:=mV false 0 rfl;refine eW call54 func54 ?_;repeat' first|simp only[go_sem,seval,Z]|refine cP h1 ?_|refine cP hm ?_|refine oE ?_|apply xX<;>intro hc
theorem X6 (h:y.natAbs<dZ):aE 406 [Z y] (Z (-y)):=by
 have hv:=ji h;have hm:=mV (!zs y) y.natAbs (Y5 y);refine eW call406 func406 ?_;repeat' first|simp only[go_sem,seval,Z]|refine cP hv ?_|refine cP hm ?_|refine oE ?_|apply xX<;>intro hc
theorem VW (hx:x.natAbs<dZ) (hy:y.natAbs<dZ) (h:x.natAbs*y.natAbs<dZ):aE 299 [Z x,Z y] (.tup [Z (x*y),E 0]):=by
 have v1:=ji hx;have v2:=ji hy;have hm:=Tg (a:=x.natAbs) (b:=y.natAbs) h hx hy;have hk:=mV (zs x !=zs y) (x.natAbs*y.natAbs) (Y4 x y);refine eW call299 func299 ?_;repeat' first|simp only[go_sem,seval,Z]|refine cP v1 ?_|refine cP v2 ?_|refine cP hm ?_|refine cP hk ?_|refine oE ?_|apply xX<;>intro hc
theorem Oi (hx:x.natAbs<dT) (hy:y.natAbs<dT):aE 299 [Z x,Z y] (.tup [Z (x*y),E 0]):=
 have hw:=AY
 VW oO oO (bE (ga hx hy) F6)
theorem Oh (hlim:x.natAbs+y.natAbs<dZ):aE 405 [Z x,Z y] (.tup [Z (x+y),E 0]):=by
 have v1:=ji (x:=x) oO;have v2:=ji (x:=y) oO
 by_cases hs:zs x=zs y
 ·have ha:=IS hlim;have hk:=mV (zs x) (x.natAbs+y.natAbs) (Tv hs);have hb: ∀ _:True,(zs x==zs y)=true:=fun _=>by rw[hs];simp
  clear hs hlim;refine eW call405 func405 ?_;repeat' first|simp only[go_sem,seval,Z,hb oT]|refine cP v1 ?_|refine cP v2 ?_|refine cP ha ?_|refine cP hk ?_|refine oE ?_|apply xX<;>intro hc
 have hb: ∀ _:True,(zs x==zs y)=false:=fun _=>by simpa using hs
 have hcm:=X4 (a:=x.natAbs) (b:=y.natAbs) oO oO
 by_cases hl:y.natAbs<=x.natAbs
 ·have hd:=IY hl oO;have hk:=mV (zs x) (x.natAbs-y.natAbs) (Pg hs hl);have hg: ∀ _:True,decide (bc x.natAbs y.natAbs>=0)=true:=fun _=>aJ (fL.2 hl)
  generalize bc x.natAbs y.natAbs=cm at*;clear hs hlim;refine eW call405 func405 ?_;repeat' first|simp only[go_sem,seval,Z,hb oT,hg oT]|refine cP v1 ?_|refine cP v2 ?_|refine cP hcm ?_|refine cP hd ?_|refine cP hk ?_|refine oE ?_|apply xX<;>intro hc
 ·have hd:=IY (a:=y.natAbs) (b:=x.natAbs) oO oO;have hk:=mV (zs y) (y.natAbs-x.natAbs) (Tw hs oO);have hg: ∀ _:True,decide (bc x.natAbs y.natAbs>=0)=false:=fun _=>aG (fun h=>hl (fL.1 h))
  generalize bc x.natAbs y.natAbs=cm at*;clear hs hlim;refine eW call405 func405 ?_;repeat' first|simp only[go_sem,seval,Z,hb oT,hg oT]|refine cP v1 ?_|refine cP v2 ?_|refine cP hcm ?_|refine cP hd ?_|refine cP hk ?_|refine oE ?_|apply xX<;>intro hc
theorem VU (hx:x.natAbs<dT) (hy:y.natAbs<dT):aE 405 [Z x,Z y] (.tup [Z (x+y),E 0]):=
 Oh (bE (show _<dT*dT by unfold dT at*;omega) F6)
theorem VX (hlim:x.natAbs+y.natAbs<dZ):aE 303 [Z x,Z y] (.tup [Z (x-y),E 0]):=by
 have v1:=ji (x:=x) oO;have v2:=ji (x:=y) oO;have hn:=X6 (y:=y) oO;have ha:=Oh (x:=x) (y:= -y) oO;rw[<-Int.sub_eq_add_neg]at ha;refine eW call303 func303 ?_;repeat' first|simp only[go_sem,seval,Z]|refine cP v1 ?_|refine cP v2 ?_|refine cP hn ?_|refine cP ha ?_|refine oE ?_|apply xX<;>intro hc
theorem VY (hx:x.natAbs<dT) (hy:y.natAbs<dT):aE 303 [Z x,Z y] (.tup [Z (x-y),E 0]):=
 VX (bE (show _<dT*dT by unfold dT at*;omega) F6)
