/-
  Part of the proof, part Y23. Own work.
-/
import Derived.Lib.TrailingZeros
import Derived.Test.YtmledjfbgjnknaaGreatDoorY21
import Derived.Test.YtmledjfbgjnknaaGreatDoorY22
set_option linter.all false
namespace Go.Proofs.YtmledjfbgjnknaaGreatDoor
open Go Go.Dom
set_option maxRecDepth 100000
set_option maxHeartbeats 4000000
abbrev U (n:Nat):AV:= .v (.i .u64 n)
structure D64 (hi lo y s Y V u:Nat):Prop where
 hy:0<y
 s64:s<64
 yl:9223372036854775808≤Y
 yh:Y<18446744073709551616
 hY:Y=y*2^s
 hV:V=lo*2^s%18446744073709551616
 hVl:V<18446744073709551616
 hil:u<Y
 eqn:(hi*18446744073709551616+lo)*2^s=u*18446744073709551616+V
 hyy:Y=Y/4294967296*4294967296+Y%4294967296
theorem D64.sub {hi lo y s Y V u:Nat} (D:D64 hi lo y s Y V u) {z:Nat} (hz:z<18446744073709551616):(z+(18446744073709551616-z/(Y/4294967296)*(Y/4294967296)%18446744073709551616))%18446744073709551616=z%(Y/4294967296):=by
 have g1:=Nat.div_add_mod z (Y/4294967296);have g2:=Nat.div_mul_le_self z (Y/4294967296);rw[Nat.mul_comm]at g1;generalize z/(Y/4294967296)*(Y/4294967296)=k at g1 g2⊢;generalize z%(Y/4294967296)=l at g1⊢;omega
theorem D64.quo {hi lo y s Y V u:Nat} (D:D64 hi lo y s Y V u) {z:Nat} (hz:z<18446744073709551616):z/(Y/4294967296)%18446744073709551616=z/(Y/4294967296):=Nat.mod_eq_of_lt (Nat.lt_of_le_of_lt (Nat.div_le_self _ _) hz)
structure DigS (Y u t:Nat) (x:Nat×Nat):Prop where
 d:Dig 4294967296 Y (Y/4294967296) (Y%4294967296) u t x.1 x.2
 r:x.2<4294967296
 q:x.1<18446744073709551616
theorem DigS.start {hi lo y s Y V u:Nat} (D:D64 hi lo y s Y V u) {z t:Nat} (hz:z<Y) (ht:t<4294967296):DigS Y z t (z/(Y/4294967296),z%(Y/4294967296)):=by
 have:=D.yl;have:=D.yh;refine⟨Dig.start D.hyy (by omega) hz ht,?_,?_⟩
 ·have:=Nat.mod_lt z (y:=Y/4294967296) (by omega)
  show z%(Y/4294967296)< _;omega
 ·show z/(Y/4294967296)< _;exact Nat.lt_of_le_of_lt (Nat.div_le_self _ _) (by omega)
theorem DigS.fin {hi lo y s Y V u:Nat} (D:D64 hi lo y s Y V u) {z t q r:Nat} (hz:z<Y) (ht:t<4294967296) (h:DigS Y z t (q,r)) (hq:q*(Y%4294967296)≤4294967296*r+t):q=(z*4294967296+t)/Y:=h.d.done D.hyy (by have:=D.yl;omega) hq
theorem DigS.go {hi lo y s Y V u:Nat} (D:D64 hi lo y s Y V u) {z t q r:Nat} (hz:z<Y) (ht:t<4294967296) (h:DigS Y z t (q,r)) (hq:4294967296≤q∨4294967296*r+t<q*(Y%4294967296)):
  (q+18446744073709551615)%18446744073709551616=q-1∧(r+Y/4294967296)%18446744073709551616=r+Y/4294967296∧q-1<q∧(4294967296≤r+Y/4294967296→q-1=(z*4294967296+t)/Y)∧(r+Y/4294967296<4294967296→DigS Y z t (q-1,r+Y/4294967296)):=by
 have h1:=D.yl;have h2:=D.yh;have h3:=h.r;have h4:=h.q;simp only at h3 h4;obtain⟨p1,p2⟩:=h.d.step D.hyy (by omega) hz ht hq
 simp only at p1 p2;exact⟨by omega,by omega,by omega,fun g=>p2.big D.hyy (by omega) (by omega) hz g,fun g=>⟨p2,g,by show q-1< _;omega⟩⟩
theorem D64.out {hi lo y s Y V u q1 z q0:Nat} (D:D64 hi lo y s Y V u) (hlo:lo<18446744073709551616) (h:hi<y) (h1:q1=(u*4294967296+V/4294967296)/Y) (hz:z=(u*4294967296+V/4294967296)%Y) (h0:q0=(z*4294967296+V%4294967296)/Y):
  (q1*4294967296%18446744073709551616+q0)%18446744073709551616=(hi*18446744073709551616+lo)/y∧((z*4294967296%18446744073709551616+V%4294967296)%18446744073709551616+(18446744073709551616-q0*Y%18446744073709551616))%18446744073709551616/2^s=(hi*18446744073709551616+lo)%y:=by
 have hy:=D.hy;have yl:=D.yl;have yh:=D.yh;obtain⟨a,b⟩:=whole (N:=hi*18446744073709551616+lo) hy D.hY D.eqn h1 hz h0;have hzl:z<Y:=by rw[hz];exact Nat.mod_lt _ (by omega)
 have hq0:q0<4294967296:=Dig.lt (B:=4294967296) (y1:=Y/4294967296) (y0:=Y%4294967296) (by omega) hzl (Nat.mod_lt _ (by decide)) h0
 have hq1:q1<4294967296:=Dig.lt (B:=4294967296) (y1:=Y/4294967296) (y0:=Y%4294967296) (by omega) D.hil (by have:=D.hVl;omega) h1
 have hw:=wrap_rest (dig_le h0) (by rw[rest_word h0];exact Nat.lt_of_lt_of_le (Nat.mod_lt _ (by omega)) (by omega))
 rw[rest_word h0,Nat.mod_mod]at hw;rw[hw,b,←a];exact⟨by omega,rfl⟩
theorem Div64_ok (hi lo y:Nat) (h:hi<y) (hlo:lo<18446744073709551616) (hy:y<18446744073709551616):EvP Tryz.prog 404 [.i .u64 hi, .i .u64 lo, .i .u64 y] (.tup [.i .u64 ((hi*18446744073709551616+lo)/y:Nat), .i .u64 ((hi*18446744073709551616+lo)%y:Nat)]):=by
 by_cases h0:hi=0
 ·subst h0;have hq:=Nat.mod_eq_of_lt (Nat.lt_of_le_of_lt (Nat.div_le_self lo y) hlo);refine eW Tryz.call404 Tryz.func404 ?_;repeat' first|simp only[go_sem,seval,uw,hq,Nat.zero_mul]|refine sB ?_|(first|apply pX|apply bX)<;>intro hc|refine⟨oD,?_⟩|exact oD|fail
 have sc:=scaled h hlo hy;obtain⟨s,hs⟩: ∃s,s=64-Lib.bitLen y:=⟨_,rfl⟩;rw[←hs]at sc;have hlz:=LeadingZeros64_ok y hy;rw[←hs]at hlz;obtain⟨s64,yl,yh,hil,eqn,hs1,ol⟩:=sc;obtain⟨Y,hY⟩: ∃Y,Y=y*2^s:=⟨_,rfl⟩;obtain⟨V,hV⟩: ∃V,V=lo*2^s%18446744073709551616:=⟨_,rfl⟩;obtain⟨u,hu⟩: ∃u,u=hi*2^s+lo/2^(64-s):=⟨_,rfl⟩;rw[←hY]at yl yh hil;rw[←hu]at hil eqn;rw[←hV]at eqn;have hVl:V<18446744073709551616:=by rw[hV];exact Nat.mod_lt _ (by decide)
 have D:D64 hi lo y s Y V u:=⟨by omega,s64,yl,yh,hY,hV,hVl,hil,eqn,by omega⟩
 have e1: ∀ _:True,s%18446744073709551616=s:=fun _=>by omega
 have e2: ∀ _:True,Y%18446744073709551616=Y:=fun _=>by omega
 have e3: ∀ _:True,hi*2^s%18446744073709551616=hi*2^s:=fun _=>Nat.mod_eq_of_lt hs1
 have e4: ∀ _:True,(64+(18446744073709551616-s))%18446744073709551616=64-s:=fun _=>by omega
 have e5: ∀ _:True,iOr .u64 ((hi*2^s:Nat):Int) ((lo/2^(64-s):Nat):Int)=(u:Int):=fun _=>by
  rw[iOrN .u64 rfl hs1 (Nat.lt_of_le_of_lt (Nat.div_le_self _ _) hlo),orAdd ol,hu]
 have hm1: ∀ _:True,(if s≤64 then s else 64)=s:=fun _=>by split<;>omega
 have hm2: ∀ _:True,(if 64-s≤64 then 64-s else 64)=64-s:=fun _=>by split<;>omega
 have hY': ∀ _:True,y*2^s=Y:=fun _=>hY.symm
 have hV': ∀ _:True,lo*2^s%18446744073709551616=V:=fun _=>hV.symm
 have hr0: ∀ _:True,(u+(18446744073709551616-u/(Y/4294967296)*(Y/4294967296)%18446744073709551616))%18446744073709551616=u%(Y/4294967296):=fun _=>D.sub (by omega)
 have hq0: ∀ _:True,u/(Y/4294967296)%18446744073709551616=u/(Y/4294967296):=fun _=>D.quo (by omega)
 have hy1:Y/4294967296≠0:=by omega
 have h':=h;clear hs hY hV hu eqn hs1 ol hil yl yh hVl s64;refine eW Tryz.call404 Tryz.func404 ?_;simp only[go_sem,seval,uw,mulU,mulUL,mulLU,shlU,addU,addUL,subU,subUL,subLU,andM32];repeat' first|simp only[go_sem,seval,uw,mulU,mulUL,mulLU,shlU,addU,addUL,subU,subUL,subLU,andM32,e1 trivial,hm1 trivial,hm2 trivial,hY' trivial,e2 trivial,e3 trivial,e4 trivial,e5 trivial,hV' trivial,hq0 trivial,Nat.mod_mod,hr0 trivial]|refine cP hlz ?_|refine sB ?_|(first|apply pX|apply bX)<;>intro hc|refine⟨oD,?_⟩|exact oD|fail
 clear e1 e2 e3 e4 e5 hm2 hr0 hq0 hlz hY' hV' h0;refine loop_run (α:=Nat×Nat) (fun x=>x.1) (fun x=>⟨[(2,U Y),(8,U s),(9,U (Y/4294967296)),(10,U (Y%4294967296)),(11,U u),(13,U (V/4294967296)),(14,U (V%4294967296)),(15,U x.1),(16,U x.2)],[],_⟩) (DigS Y u (V/4294967296)) (u/(Y/4294967296),u%(Y/4294967296)) (fun _=>Nat.le_refl _) (.start D D.hil (by have:=D.hVl;omega)) ?_ ?_
 ·exact lE
 ·rintro⟨q,r⟩ hd R hR;have f0:=hd.r;simp only at f0;have f1: ∀ _:True,4294967296*r%18446744073709551616=4294967296*r:=fun _=>by omega
  have f2: ∀ _:True,(4294967296*r+V/4294967296)%18446744073709551616=4294967296*r+V/4294967296:=fun _=>by have:=D.hVl;omega
  have f3:q*(Y%4294967296)<4294967296*4294967296∨4294967296≤q:=by
   by_cases g:4294967296≤q
   ·exact .inr g
   ·exact .inl (Nat.mul_lt_mul'' (by omega) (Nat.mod_lt _ (by decide)))
  repeat' first|simp only[go_sem,seval,uw,mulU,mulUL,mulLU,shlU,addU,addUL,subU,subUL,subLU,andM32,f1 trivial,f2 trivial]|refine sB ?_|(first|apply pX|apply bX)<;>intro hc|refine⟨oD,?_⟩|exact oD|fail
  ·obtain⟨g1,g2,g3,g4,g5⟩:=hd.go D D.hil (by have:=D.hVl;omega) (by omega)
   have hq1:(q-1)=(u*4294967296+V/4294967296)/Y:=g4 (by omega)
   obtain⟨q1,e1⟩: ∃q1,q1=(q-1):=⟨_,rfl⟩;rw[←e1]at hq1;obtain⟨z,hz⟩: ∃z,z=(u*4294967296+V/4294967296)%Y:=⟨_,rfl⟩;have hyl:=D.yl;have hyh:=D.yh;have hzl:z<Y:=by rw[hz];exact Nat.mod_lt _ (by omega)
   have hw1:=wrap_rest (dig_le hq1) (by rw[rest_word hq1,←hz];omega)
   rw[rest_word hq1,←hz,Nat.mod_mod]at hw1;have hq0:=D.quo (z:=z) (by omega)
   have hr0:=D.sub (z:=z) (by omega)
   simp only[g1,←e1,Nat.mod_mod,hw1,hq0,hr0];clear hw1 hq0 hr0 hyl hyh e1 f0 f3;refine loop_run (α:=Nat×Nat) (fun x=>x.1) (fun x=>⟨[(2,U Y),(8,U s),(9,U (Y/4294967296)),(10,U (Y%4294967296)),(14,U (V%4294967296)),(15,U q1),(17,U z),(18,U x.1),(16,U x.2)],[],_⟩) (DigS Y z (V%4294967296)) (z/(Y/4294967296),z%(Y/4294967296)) (fun _=>Nat.le_refl _) (.start D hzl (Nat.mod_lt _ (by decide))) ?_ ?_
   ·exact lE
   ·rintro⟨q,r⟩ hd R hR;have f0:=hd.r;simp only at f0;have f1: ∀ _:True,4294967296*r%18446744073709551616=4294967296*r:=fun _=>by omega
    have f2: ∀ _:True,(4294967296*r+V%4294967296)%18446744073709551616=4294967296*r+V%4294967296:=fun _=>by have:=D.hVl;omega
    have f3:q*(Y%4294967296)<4294967296*4294967296∨4294967296≤q:=by
     by_cases g:4294967296≤q
     ·exact .inr g
     ·exact .inl (Nat.mul_lt_mul'' (by omega) (Nat.mod_lt _ (by decide)))
    repeat' first|simp only[go_sem,seval,uw,mulU,mulUL,mulLU,shlU,addU,addUL,subU,subUL,subLU,andM32,f1 trivial,f2 trivial]|refine sB ?_|(first|apply pX|apply bX)<;>intro hc|refine⟨oD,?_⟩|exact oD|fail
    ·obtain⟨g1,g2,g3,g4,g5⟩:=hd.go D hzl (Nat.mod_lt _ (by decide)) (by omega)
     have:=D.out hlo h' hq1 hz (g4 (by omega))
     simp only[g1,hm1 trivial,Nat.mod_mod,this.1,this.2]
    ·obtain⟨g1,g2,g3,g4,g5⟩:=hd.go D hzl (Nat.mod_lt _ (by decide)) (by omega)
     refine hR (q-1,r+Y/4294967296) (g5 (by omega)) g3 _ ?_
     rw[g1,g2];exact lE
    ·obtain⟨g1,g2,g3,g4,g5⟩:=hd.go D hzl (Nat.mod_lt _ (by decide)) (by omega)
     have:=D.out hlo h' hq1 hz (g4 (by omega))
     simp only[g1,hm1 trivial,Nat.mod_mod,this.1,this.2]
    ·obtain⟨g1,g2,g3,g4,g5⟩:=hd.go D hzl (Nat.mod_lt _ (by decide)) (by omega)
     refine hR (q-1,r+Y/4294967296) (g5 (by omega)) g3 _ ?_
     rw[g1,g2];exact lE
    ·have:=D.out hlo h' hq1 hz (hd.fin D hzl (Nat.mod_lt _ (by decide)) (by omega))
     simp only[hm1 trivial,Nat.mod_mod,this.1,this.2]
  ·obtain⟨g1,g2,g3,g4,g5⟩:=hd.go D D.hil (by have:=D.hVl;omega) (by omega)
   refine hR (q-1,r+Y/4294967296) (g5 (by omega)) g3 _ ?_
   rw[g1,g2];exact lE
  ·obtain⟨g1,g2,g3,g4,g5⟩:=hd.go D D.hil (by have:=D.hVl;omega) (by omega)
   have hq1:(q-1)=(u*4294967296+V/4294967296)/Y:=g4 (by omega)
   obtain⟨q1,e1⟩: ∃q1,q1=(q-1):=⟨_,rfl⟩;rw[←e1]at hq1;obtain⟨z,hz⟩: ∃z,z=(u*4294967296+V/4294967296)%Y:=⟨_,rfl⟩;have hyl:=D.yl;have hyh:=D.yh;have hzl:z<Y:=by rw[hz];exact Nat.mod_lt _ (by omega)
   have hw1:=wrap_rest (dig_le hq1) (by rw[rest_word hq1,←hz];omega)
   rw[rest_word hq1,←hz,Nat.mod_mod]at hw1;have hq0:=D.quo (z:=z) (by omega)
   have hr0:=D.sub (z:=z) (by omega)
   simp only[g1,←e1,Nat.mod_mod,hw1,hq0,hr0];clear hw1 hq0 hr0 hyl hyh e1 f0 f3;refine loop_run (α:=Nat×Nat) (fun x=>x.1) (fun x=>⟨[(2,U Y),(8,U s),(9,U (Y/4294967296)),(10,U (Y%4294967296)),(14,U (V%4294967296)),(15,U q1),(17,U z),(18,U x.1),(16,U x.2)],[],_⟩) (DigS Y z (V%4294967296)) (z/(Y/4294967296),z%(Y/4294967296)) (fun _=>Nat.le_refl _) (.start D hzl (Nat.mod_lt _ (by decide))) ?_ ?_
   ·exact lE
   ·rintro⟨q,r⟩ hd R hR;have f0:=hd.r;simp only at f0;have f1: ∀ _:True,4294967296*r%18446744073709551616=4294967296*r:=fun _=>by omega
    have f2: ∀ _:True,(4294967296*r+V%4294967296)%18446744073709551616=4294967296*r+V%4294967296:=fun _=>by have:=D.hVl;omega
    have f3:q*(Y%4294967296)<4294967296*4294967296∨4294967296≤q:=by
     by_cases g:4294967296≤q
     ·exact .inr g
     ·exact .inl (Nat.mul_lt_mul'' (by omega) (Nat.mod_lt _ (by decide)))
    repeat' first|simp only[go_sem,seval,uw,mulU,mulUL,mulLU,shlU,addU,addUL,subU,subUL,subLU,andM32,f1 trivial,f2 trivial]|refine sB ?_|(first|apply pX|apply bX)<;>intro hc|refine⟨oD,?_⟩|exact oD|fail
    ·obtain⟨g1,g2,g3,g4,g5⟩:=hd.go D hzl (Nat.mod_lt _ (by decide)) (by omega)
     have:=D.out hlo h' hq1 hz (g4 (by omega))
     simp only[g1,hm1 trivial,Nat.mod_mod,this.1,this.2]
    ·obtain⟨g1,g2,g3,g4,g5⟩:=hd.go D hzl (Nat.mod_lt _ (by decide)) (by omega)
     refine hR (q-1,r+Y/4294967296) (g5 (by omega)) g3 _ ?_
     rw[g1,g2];exact lE
    ·obtain⟨g1,g2,g3,g4,g5⟩:=hd.go D hzl (Nat.mod_lt _ (by decide)) (by omega)
     have:=D.out hlo h' hq1 hz (g4 (by omega))
     simp only[g1,hm1 trivial,Nat.mod_mod,this.1,this.2]
    ·obtain⟨g1,g2,g3,g4,g5⟩:=hd.go D hzl (Nat.mod_lt _ (by decide)) (by omega)
     refine hR (q-1,r+Y/4294967296) (g5 (by omega)) g3 _ ?_
     rw[g1,g2];exact lE
    ·have:=D.out hlo h' hq1 hz (hd.fin D hzl (Nat.mod_lt _ (by decide)) (by omega))
     simp only[hm1 trivial,Nat.mod_mod,this.1,this.2]
  ·obtain⟨g1,g2,g3,g4,g5⟩:=hd.go D D.hil (by have:=D.hVl;omega) (by omega)
   refine hR (q-1,r+Y/4294967296) (g5 (by omega)) g3 _ ?_
   rw[g1,g2];exact lE
  ·have hq1:q=(u*4294967296+V/4294967296)/Y:=hd.fin D D.hil (by have:=D.hVl;omega) (by omega)
   obtain⟨q1,e1⟩: ∃q1,q1=q:=⟨_,rfl⟩;rw[←e1]at hq1;obtain⟨z,hz⟩: ∃z,z=(u*4294967296+V/4294967296)%Y:=⟨_,rfl⟩;have hyl:=D.yl;have hyh:=D.yh;have hzl:z<Y:=by rw[hz];exact Nat.mod_lt _ (by omega)
   have hw1:=wrap_rest (dig_le hq1) (by rw[rest_word hq1,←hz];omega)
   rw[rest_word hq1,←hz,Nat.mod_mod]at hw1;have hq0:=D.quo (z:=z) (by omega)
   have hr0:=D.sub (z:=z) (by omega)
   simp only[true_and,←e1,Nat.mod_mod,hw1,hq0,hr0];clear hw1 hq0 hr0 hyl hyh e1 f0 f3;refine loop_run (α:=Nat×Nat) (fun x=>x.1) (fun x=>⟨[(2,U Y),(8,U s),(9,U (Y/4294967296)),(10,U (Y%4294967296)),(14,U (V%4294967296)),(15,U q1),(17,U z),(18,U x.1),(16,U x.2)],[],_⟩) (DigS Y z (V%4294967296)) (z/(Y/4294967296),z%(Y/4294967296)) (fun _=>Nat.le_refl _) (.start D hzl (Nat.mod_lt _ (by decide))) ?_ ?_
   ·exact lE
   ·rintro⟨q,r⟩ hd R hR;have f0:=hd.r;simp only at f0;have f1: ∀ _:True,4294967296*r%18446744073709551616=4294967296*r:=fun _=>by omega
    have f2: ∀ _:True,(4294967296*r+V%4294967296)%18446744073709551616=4294967296*r+V%4294967296:=fun _=>by have:=D.hVl;omega
    have f3:q*(Y%4294967296)<4294967296*4294967296∨4294967296≤q:=by
     by_cases g:4294967296≤q
     ·exact .inr g
     ·exact .inl (Nat.mul_lt_mul'' (by omega) (Nat.mod_lt _ (by decide)))
    repeat' first|simp only[go_sem,seval,uw,mulU,mulUL,mulLU,shlU,addU,addUL,subU,subUL,subLU,andM32,f1 trivial,f2 trivial]|refine sB ?_|(first|apply pX|apply bX)<;>intro hc|refine⟨oD,?_⟩|exact oD|fail
    ·obtain⟨g1,g2,g3,g4,g5⟩:=hd.go D hzl (Nat.mod_lt _ (by decide)) (by omega)
     have:=D.out hlo h' hq1 hz (g4 (by omega))
     simp only[g1,hm1 trivial,Nat.mod_mod,this.1,this.2]
    ·obtain⟨g1,g2,g3,g4,g5⟩:=hd.go D hzl (Nat.mod_lt _ (by decide)) (by omega)
     refine hR (q-1,r+Y/4294967296) (g5 (by omega)) g3 _ ?_
     rw[g1,g2];exact lE
    ·obtain⟨g1,g2,g3,g4,g5⟩:=hd.go D hzl (Nat.mod_lt _ (by decide)) (by omega)
     have:=D.out hlo h' hq1 hz (g4 (by omega))
     simp only[g1,hm1 trivial,Nat.mod_mod,this.1,this.2]
    ·obtain⟨g1,g2,g3,g4,g5⟩:=hd.go D hzl (Nat.mod_lt _ (by decide)) (by omega)
     refine hR (q-1,r+Y/4294967296) (g5 (by omega)) g3 _ ?_
     rw[g1,g2];exact lE
    ·have:=D.out hlo h' hq1 hz (hd.fin D hzl (Nat.mod_lt _ (by decide)) (by omega))
     simp only[hm1 trivial,Nat.mod_mod,this.1,this.2]
theorem Rem64_ok (hi lo y:Nat) (h0:0<y) (hhi:hi<18446744073709551616) (hlo:lo<18446744073709551616) (hy:y<18446744073709551616):EvP Tryz.prog 326 [.i .u64 hi, .i .u64 lo, .i .u64 y] (.i .u64 ((hi*18446744073709551616+lo)%y:Nat)):=by
 have h1:hi%y<y:=Nat.mod_lt _ h0;have h2:(hi%y*18446744073709551616+lo)%y=(hi*18446744073709551616+lo)%y:=by
  rw[Nat.add_mod,Nat.mul_mod,Nat.mod_mod,←Nat.mul_mod,←Nat.add_mod]
 refine eW Tryz.call326 Tryz.func326 ?_;repeat' first|simp only[go_sem,seval,h2]|refine cP (Div64_ok _ _ _ h1 hlo hy) ?_|refine sB ?_|(first|apply pX|apply bX)<;>intro hc|refine⟨oD,?_⟩|exact oD|fail
end Go.Proofs.YtmledjfbgjnknaaGreatDoor
