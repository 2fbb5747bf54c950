/-
  Part of the proof, part FA41. Own work.
-/
import Derived.Test.YtfdjchnefpefbaaGreatDoorFA40
set_option linter.all false
namespace Go.Proofs.YtfdjchnefpefbaaGreatDoor
open Go Go.Dom Go.Num
set_option maxRecDepth 100000
set_option maxHeartbeats 16000000
def pW (q sec:Nat) (l:List Bytes) (k:Nat):List Nat:=(List.range k).map fun j=>(pT q (nI (sec::l.map num)) ((j+1:Nat):Int)).toNat
noncomputable def uf (q sec:Nat) (need count:Int) (vs:List Bytes) (sd:Bytes) (i:Nat):Except Int (List Nat×Nat):=
 if !du q then .error 12 else if need<1\/need>count\/count>255\/(q:Int)<=count then .error 6
 else match gX vs sd (aO q) (need-1).toNat i []with
  | .error e=> .error e
  | .ok l=> .ok (pW q sec l count.toNat,i+(need-1).toNat)
def FP (vs:List Bytes) (sd:Bytes):Except Int (List Nat×Nat)->PV
 | .ok (l,j)=> .tup [.sl (l.map cY),T vs sd (j:Nat),E 0]
 | .error e=> .tup [.sl [],T [] [] 0,E e]
theorem yA (q sec:Nat) (l:List Bytes) (k:Nat):(pW q sec l k).length=k:=by simp[pW]
theorem An (q sec:Nat) (l:List Bytes) (k:Nat):pW q sec l (k+1)=pW q sec l k++[(pT q (nI (sec::l.map num)) ((k+1:Nat):Int)).toNat]:=by
 rw[pW,nR,dD];rfl
theorem gv (l:List Nat) (x:Nat):aC (l++[x])=aC l++[.v (N x)]:=by simp[aC]
theorem E9 {l:List Bytes} (h: ∀x∈l,aa x=true):l.map PV.s=(l.map num).map cY:=by
 rw[iQ];exact ir fun x hx=>(eV (h x hx)).symm
theorem tq (x y:Nat):decide (aU x y>=0)=decide (y<=x):=by
 rw[Po]
 by_cases h:x<y
 ·rw[decide_eq_true h,decide_eq_false oO];rfl
 ·rw[decide_eq_false h,decide_eq_true oO];rfl
theorem FT {q:Nat} (hq:q<18446744073709551616) (q0:0<q) {sec:Nat} (hs:sec<q) {need count:Int} (hc:count<=8\/count>255) {vs:List Bytes} {sd:Bytes} {i:Nat} (hv:vs.all aa=true) (hi:i<=2147483647) (hl:vs.length<1000000) (hsd:sd.length<1000000) {e:Int} (h:uf q sec need count vs sd i= .error e):
  aA Tryz.prog 33 [N q,N sec,E need,E count,T vs sd i] (.tup [.sl [],T [] [] 0,E e]):=by
 have hW:=jV;have c1:=Gf sd (a:=(i:Int)) hl;rw[oG hv hi,if_pos rfl]at c1;have c2:=BF (aO q) [[aO sec]] (by simp) (by simp)
 have e2:AH (aO q) [[aO sec]]=if du q then 0 else 12:=by
  unfold AH;rw[rP hq,aG];simp[vN (show sec<18446744073709551616 by omega)]
 rw[e2]at c2;simp only[aS,bH,LN]at c2;have c3:=rX (q:=aO q) (vN hq) (l:=[aO sec]) (by simpa using vN (show sec<18446744073709551616 by omega)) (by simp)
 rw[show([aO sec].all fun y=>decide (num y<num (aO q)))=true by simp[aG,hs]]at c3
 simp only[aS,bH]at c3;unfold uf at h
 by_cases hp:du q=true
 case neg=>
  have hp:du q=false:=by simpa using hp
  rw[hp]at c2 h;injection h with h
  subst h;simp only[aX,if_false]at c2;refine eW Tryz.call33 Tryz.func33 ?_;exact z3 @qT @c1 @c2
 rw[hp]at c2 h;simp only[if_true,bR,aX,if_false]at c2 h
 by_cases hb:need<1\/need>count\/count>255\/(q:Int)<=count
 ·rw[if_pos hb]at h;injection h with h
  subst h
  by_cases hin:need<1\/need>count\/count>255
  ·by_cases b1:need<1
   ·refine eW Tryz.call33 Tryz.func33 ?_;exact z4 @qT @c1 @c2 @c3
   ·by_cases b2:need>count
    ·refine eW Tryz.call33 Tryz.func33 ?_;exact z4 @qT @c1 @c2 @c3
    ·have b3:count>255:=by omega
     refine eW Tryz.call33 Tryz.func33 ?_;exact z4 @qT @c1 @c2 @c3
  ·obtain⟨c,rfl⟩: ∃c:Nat,count=c:=⟨count.toNat,by omega⟩
   have hw: ∀ _:True,IntKind.u64.wrap (c:Int)=c:=fun _=>IntWalk.u64_in _ oO
   have o1:=kf c oO;have o2:=rh (a:=c) (b:=q) oO oO;have o3: ∀ _:True,decide (aU c q>=0)=true:=fun _=>by rw[tq];exact decide_eq_true oO
   generalize aU c q=cm at*;refine eW Tryz.call33 Tryz.func33 ?_;exact Zd (aN (hw trivial) (o3 trivial)) @qT @c1 @c2 @c3 @o1 @o2
 rw[if_neg hb]at h;obtain⟨c,rfl⟩: ∃c:Nat,count=c:=⟨count.toNat,by omega⟩
 obtain⟨d,rfl⟩: ∃d:Nat,need=(d+1:Nat):=⟨(need-1).toNat,by omega⟩
 have hd1:(((d+1:Nat):Int)-1).toNat=d:=by omega
 have hd2: ∀ _:True,IntKind.i64.wrap (((d+1:Nat):Int)-1)=(d:Int):=fun _=>by rw[IntWalk.i64_in _ oO];omega
 rw[hd1]at h;have hm:=Dp (sd:=sd) (k:=d) hv (vN hq) (fun g=>by have:=aG q;rw[g]at this;simp[num]at this;omega) hi oO hl hsd
 have hw: ∀ _:True,IntKind.u64.wrap (c:Int)=c:=fun _=>IntWalk.u64_in _ oO
 have o1:=kf c oO;have o2:=rh (a:=c) (b:=q) oO oO;have o3: ∀ _:True,decide (aU c q>=0)=false:=fun _=>by rw[tq];exact decide_eq_false oO
 generalize aU c q=cm at*
 cases hM:gX vs sd (aO q) d i []with
 |ok l=>rw[hM]at h;cases h
 |error e'=>
  rw[hM]at h hm;have he:=tJ hM;injection h with h
  subst h;simp only[xM]at hm;clear hM;refine eW Tryz.call33 Tryz.func33 ?_;exact XE (aN (hw trivial) (aN (o3 trivial) (hd2 trivial))) @qT @c1 @c2 @c3 @o1 @o2 @hm
theorem kG (hf:Nat->Option au) (k:Nat) (l:List Nat):(aC l).flatMap (aL hf (k+1))=[]:=by
 unfold aC
 induction l with
 |nil=>rfl
 |cons x r ih=>simp_all[aL]
theorem PN (L:List Nat):List.map AV.v (List.flatMap PV.cells (L.map cY))=aC L:=by
 induction L with
 |nil=>rfl
 |cons x L ih=>simp only[aS,dQ,dD,ih];rfl
theorem Ec {q:Nat} (hq:q<18446744073709551616) (q0:0<q) {sec:Nat} (hs:sec<q) {need count:Int} (hc:count<=8\/count>255) {vs:List Bytes} {sd:Bytes} {i:Nat} (hv:vs.all aa=true) (hi:i<=2147483647) (hl:vs.length<1000000) (hsd:sd.length<1000000) {ls:List Nat} {j:Nat} (h:uf q sec need count vs sd i= .ok (ls,j)):
  aA Tryz.prog 33 [N q,N sec,E need,E count,T vs sd i] (.tup [.sl (ls.map cY),T vs sd (j:Nat),E 0]):=by
 have hW:=jV;have c1:=Gf sd (a:=(i:Int)) hl;rw[oG hv hi,if_pos rfl]at c1;have c2:=BF (aO q) [[aO sec]] (by simp) (by simp)
 have e2:AH (aO q) [[aO sec]]=if du q then 0 else 12:=by
  unfold AH;rw[rP hq,aG];simp[vN (show sec<18446744073709551616 by omega)]
 rw[e2]at c2;simp only[aS,bH,LN]at c2;have c3:=rX (q:=aO q) (vN hq) (l:=[aO sec]) (by simpa using vN (show sec<18446744073709551616 by omega)) (by simp)
 rw[show([aO sec].all fun y=>decide (num y<num (aO q)))=true by simp[aG,hs]]at c3
 simp only[aS,bH]at c3;unfold uf at h
 cases hp:du q with
 |false=>rw[hp]at h;cases h
 |true=>
 rw[hp]at c2 h;simp only[if_true,bR,aX,if_false]at c2 h
 by_cases hb:need<1\/need>count\/count>255\/(q:Int)<=count
 ·rw[if_pos hb]at h;cases h
 rw[if_neg hb]at h;obtain⟨c,rfl⟩: ∃c:Nat,count=c:=⟨count.toNat,by omega⟩
 obtain⟨d,rfl⟩: ∃d:Nat,need=(d+1:Nat):=⟨(need-1).toNat,by omega⟩
 have hd1:(((d+1:Nat):Int)-1).toNat=d:=by omega
 have hd2: ∀ _:True,IntKind.i64.wrap (((d+1:Nat):Int)-1)=(d:Int):=fun _=>by rw[IntWalk.i64_in _ oO];omega
 rw[hd1,Int.toNat_natCast]at h;have bq:aa (aO q)=true:=vN hq;have hm:=Dp (sd:=sd) (k:=d) hv bq (fun g=>by have:=aG q;rw[g]at this;simp[num]at this;omega) hi oO hl hsd
 have hw: ∀ _:True,IntKind.u64.wrap (c:Int)=c:=fun _=>IntWalk.u64_in _ oO
 have o1:=kf c oO;have o2:=rh (a:=c) (b:=q) oO oO;have o3: ∀ _:True,decide (aU c q>=0)=false:=fun _=>by rw[tq];exact decide_eq_false oO
 generalize aU c q=cm at*
 cases hM:gX vs sd (aO q) d i []with
 |error e'=>rw[hM]at h;cases h
 |ok l=>
  rw[hM]at h hm;simp only[sA,cO]at h;obtain⟨rfl,rfl⟩:=h;obtain⟨m1,m2,m3⟩:=Dq hv bq hl hi (acc:=[]) (fun _ h=>by cases h) hM
  simp only[List.length_nil,dI]at m1;simp only[xM]at hm;rw[E9 fun x hx=>(m2 x hx).1]at hm
  have hsh: ∀k,pW q sec l (k+1)=pW q sec l k++[(pT q (nI (sec::l.map num)) ((k+1:Nat):Int)).toNat]:=An q sec l;have hs0:pW q sec l 0=[]:=rfl;have hsl:=yA q sec l;obtain⟨L,hL⟩: ∃L,L=l.map num:=⟨_,rfl⟩;have lL:L.length=d:=by rw[hL,aE,m1]
  have hLq: ∀x∈sec::L,x<18446744073709551616:=fun x hx=>by
   rcases bL.1 hx with rfl|hx
   ·omega
   ·rw[hL]at hx;obtain⟨y,hy,rfl⟩:=bw.1 hx;have:=(m2 y hy).2;rw[aG]at this;omega
  rw[<-hL]at hm hsh;have hval:=fun k (hk:k<300)=>Ar hq q0 (cs:=sec::L) hLq (x:=k) oO (by simp;omega)
  have hof:=fun k (hk:k<300)=>kf k oO
  generalize hS:pW q sec l=S at*;have k1:=cv (hsl c);have k2:=eR (S c);have k3:=dy (hsl c);have k4:(aC (S c)).length=c:=by rw[bE,hsl]
  have cpos:0<c:=by omega
  clear hM m2 hL hS hp;have n1:AV.v (.s (aO sec))::aC L=aC (sec::L):=rfl;have n2:(aC (sec::L)).length=1+d:=by rw[bE];simp;omega
  have n3:=cv (l:=sec::L) (n:=1+d) (by simp;omega)
  have n4:=eR (sec::L);have n5:chunk 1 (1+d) (cY sec::L.map cY)=cY sec::L.map cY:=dy (l:=sec::L) (n:=1+d) (by simp;omega)
  refine eW Tryz.call33 Tryz.func33 ?_;repeat' first|simp only[go_sem,seval,hw trivial,o3 trivial,hd2 trivial,lL,PN,n1]|refine cP qT ?_|refine cP c1 ?_|refine cP c2 ?_|refine cP c3 ?_|refine cP o1 ?_|refine cP o2 ?_|refine cP hm ?_|refine sB ?_|apply xX<;>intro hc|refine⟨oD,?_⟩|exact oD|fail
  have n6:(∀x,x∈List.map cY L->x.cells.length=1)=True:=by
   simp only[eq_iff_iff,iff_true];intro x hx;obtain⟨y,-,rfl⟩:=bw.1 hx;rfl
  have n7:(∀y,y∈aC L->y.one=true)=True:=by
   simp only[eq_iff_iff,iff_true];intro x hx;obtain⟨y,-,rfl⟩:=bw.1 hx;rfl
  by_cases hd0:d=0
  ·have hL0:L=[]:=gJ.1 oO;rw[if_pos hd0];refine eF @n6 ?_;refine af (α:=Nat) (fun j=>c-j) (fun j=>match j with|0=>⟨[(17, .v (.sl ((sec::L).map cY))),(0, .v (N q)),(9, .p 1000 0 0),(11, .p 1002 0 0),(19, .sn),(86,E' c),(87, .v (.i .i64 0))],[(1000,⟨0,[.v (.sl (vs.map .s)), .v (.s sd), .v (.i .i64 ((i+d:Nat):Int))],false,none⟩),(1002,⟨0,[.sn, .v (.s []), .v (.i .i64 0)],false,some 29⟩)],1073⟩|j+1=>⟨[(17, .v (.sl ((sec::L).map cY))),(0, .v (N q)),(9, .p 1000 0 0),(11, .p 1002 0 0),(19, .rs 1085 j 0 (j+1) 1),(86,E' c),(87,E' (j+1))],[(1000,⟨0,[.v (.sl (vs.map .s)), .v (.s sd), .v (.i .i64 ((i+d:Nat):Int))],false,none⟩),(1002,⟨0,[.sn, .v (.s []), .v (.i .i64 0)],false,some 29⟩),(1085,⟨j,aC (S (j+1)),true,some 22⟩)],1089⟩) (fun j=>j<=c) 0 (fun j=>by cases j<;>exact cC rfl) (aH _) ?_ ?_
   ·refine(AS.Le.TN [(17, .sl ((sec::L).map cY))] [] (fun _ h=>by cases h) (by intro p hp;rw[dr.1 hp];simp[aK,view,aL,hL0,cY]) (by first|decide|omega) ?_ ?_)<;>simp[dM,dL,aK,aj,AV.bd,AV.bd.bdL]
   ·intro j hj R hR
    cases j with
    |zero=>
     have hgo:=hR 1 oO oO;simp only[hsh,hs0,List.nil_append,show∀y,aC [y]=[AV.v (N y)]from fun _=>rfl]at hgo
     have o4:=hof 1 oO;have v1:=hval 1 oO;rw[show((0+1:Nat):Int)=((1:Nat):Int)from rfl]at hgo
     generalize (pT q (nI (sec::L)) ((1:Nat):Int)).toNat=y at*;clear hR hval hof hsh;exact XC @hgo @o4 @v1
    |succ j=>
     have g1:=cv (hsl (j+1));have g2:(aC (S (j+1))).length=j+1:=by rw[bE,hsl]
     by_cases hlt:j+1<c
     ·have hgo:=hR (j+2) oO oO;simp only[hsh (j+1),gv]at hgo;have o4:=hof (j+2) oO;have v1:=hval (j+2) oO;have hw2: ∀ _:True,IntKind.u64.wrap (((j+1:Nat):Int)+1)=((j+2:Nat):Int):=fun _=>by rw[IntWalk.u64_in _ oO];omega
      rw[show((j+1+1:Nat):Int)=((j+2:Nat):Int)from rfl]at hgo
      generalize (pT q (nI (sec::L)) ((j+2:Nat):Int)).toNat=y at*;clear hR hval hof hsh;refine sT (aN (hw2 trivial) (aN @g1 @g2)) @o4 @v1 ?_;refine hgo _ ?_;refine lG ?_;all_goals exact fun c hc=>hc.elim (fun h=>eN h) (fun h=>by rw[h];rfl)
     ·obtain rfl:j+1=c:=by omega
      clear hR hval hof hsh;repeat' first|simp only[go_sem,seval,k1,k2,k3,k4,cQ]|refine sB ?_|apply xX<;>intro hc|refine⟨oD,?_⟩|exact oD|fail
      all_goals rfl
  ·rw[if_neg hd0];refine eF (aN @n6 @n7) ?_;refine af (α:=Nat) (fun j=>c-j) (fun j=>match j with|0=>⟨[(17, .v (.sl ((sec::L).map cY))),(0, .v (N q)),(9, .p 1000 0 0),(11, .p 1002 0 0),(19, .sn),(86,E' c),(87, .v (.i .i64 0))],[(1000,⟨0,[.v (.sl (vs.map .s)), .v (.s sd), .v (.i .i64 ((i+d:Nat):Int))],false,none⟩),(1002,⟨0,[.sn, .v (.s []), .v (.i .i64 0)],false,some 29⟩)],1073⟩|j+1=>⟨[(17, .v (.sl ((sec::L).map cY))),(0, .v (N q)),(9, .p 1000 0 0),(11, .p 1002 0 0),(19, .rs 1085 j 0 (j+1) 1),(86,E' c),(87,E' (j+1))],[(1000,⟨0,[.v (.sl (vs.map .s)), .v (.s sd), .v (.i .i64 ((i+d:Nat):Int))],false,none⟩),(1002,⟨0,[.sn, .v (.s []), .v (.i .i64 0)],false,some 29⟩),(1085,⟨j,aC (S (j+1)),true,some 22⟩)],1089⟩) (fun j=>j<=c) 0 (fun j=>by cases j<;>exact cC rfl) (aH _) ?_ ?_
   ·refine(AS.Le.TN [(17, .sl ((sec::L).map cY))] [1068] (fun m hm=>by rw[dr.1 hm];exact⟨by decide,rfl⟩) (by intro p hp;rw[dr.1 hp];simp[aK,aj,view,aL,n2,n3,n4,n5,cQ,kG]) (by first|decide|omega) ?_ ?_)<;>simp[dM,dL,aK,aj,AV.bd,AV.bd.bdL]
   ·intro j hj R hR
    cases j with
    |zero=>
     have hgo:=hR 1 oO oO;simp only[hsh,hs0,List.nil_append,show∀y,aC [y]=[AV.v (N y)]from fun _=>rfl]at hgo
     have o4:=hof 1 oO;have v1:=hval 1 oO;rw[show((0+1:Nat):Int)=((1:Nat):Int)from rfl]at hgo
     generalize (pT q (nI (sec::L)) ((1:Nat):Int)).toNat=y at*;clear hR hval hof hsh;exact XC @hgo @o4 @v1
    |succ j=>
     have g1:=cv (hsl (j+1));have g2:(aC (S (j+1))).length=j+1:=by rw[bE,hsl]
     by_cases hlt:j+1<c
     ·have hgo:=hR (j+2) oO oO;simp only[hsh (j+1),gv]at hgo;have o4:=hof (j+2) oO;have v1:=hval (j+2) oO;have hw2: ∀ _:True,IntKind.u64.wrap (((j+1:Nat):Int)+1)=((j+2:Nat):Int):=fun _=>by rw[IntWalk.u64_in _ oO];omega
      rw[show((j+1+1:Nat):Int)=((j+2:Nat):Int)from rfl]at hgo
      generalize (pT q (nI (sec::L)) ((j+2:Nat):Int)).toNat=y at*;clear hR hval hof hsh;refine sT (aN (hw2 trivial) (aN @g1 @g2)) @o4 @v1 ?_;refine hgo _ ?_;refine lG ?_;all_goals exact fun c hc=>hc.elim (fun h=>eN h) (fun h=>by rw[h];rfl)
     ·obtain rfl:j+1=c:=by omega
      clear hR hval hof hsh;exact lQ (aN @k1 (aN @k2 (aN @k3 (aN @k4 @cQ))))
theorem CT (n:Bytes) (hn:n.length<=60):aA Tryz.prog 31 [.s n] (.b (ku n)):=by
 refine eW Tryz.call31 Tryz.func31 ?_;refine uZ ?_;refine af (α:=Nat) (fun i=>n.length-i) (fun i=>⟨[(0, .v (.s n)),(7, .v (.i .i64 n.length)),(8, .v (.i .i64 (i:Nat)))],[],_⟩) (fun i=>i<=n.length/\ ∀j,j<i->th j (Ib n j)=false) 0 (fun _=>an _) ⟨aH _,fun j hj=>by omega⟩ ?_ ?_
 ·exact lE
 ·rintro i ⟨hi,ha⟩ R hR
  by_cases hlt:i<n.length
  ·have hlt':(i:Int)<n.length:=by omega
   have hbad:th i (Ib n i)=true->ku n=false:=by
    intro h;unfold ku;have:(List.range n.length).all (fun i=> !th i (Ib n i))=false:=by
     rw[eZ];intro g;have:=bz.1 g i (cM.2 hlt);rw[h]at this;cases this
    rw[this];rfl
   have hgo:th i (Ib n i)=false-> ∀s',(AS.mk [(0, .v (.s n)),(7, .v (.i .i64 n.length)),(8, .v (.i .i64 ((i+1:Nat):Int)))] [] 1004).Le s'->R s':=by
    intro h s' hs;refine hR (i+1) ⟨by omega,fun j hj=> ?_⟩ oO s' hs
    by_cases e:j=i
    ·subst e;exact h
    ·exact ha j oO
   clear hR ha;obtain⟨c,hcc⟩: ∃c,Ib n i=c:=⟨_,rfl⟩;have hcd:((n.getD i 0).toNat:Int)=c:=hcc;have h0:0<=c/\c<256:=by rw[<-hcd];have:=(n.getD i 0).toNat_lt;omega
   rw[hcc]at hbad hgo;unfold th at hbad hgo;obtain⟨b1,h1⟩: ∃b,decide (c>=97)=b:=⟨_,rfl⟩;obtain⟨b2,h2⟩: ∃b,decide (c<=122)=b:=⟨_,rfl⟩;obtain⟨b3,h3⟩: ∃b,decide (c>=65)=b:=⟨_,rfl⟩;obtain⟨b4,h4⟩: ∃b,decide (c<=90)=b:=⟨_,rfl⟩;obtain⟨b5,h5⟩: ∃b,((i:Int)==0)=b:=⟨_,rfl⟩;obtain⟨b6,h6⟩: ∃b,(c !=95)=b:=⟨_,rfl⟩;obtain⟨b7,h7⟩: ∃b,decide (c<48)=b:=⟨_,rfl⟩;obtain⟨b8,h8⟩: ∃b,decide (c>57)=b:=⟨_,rfl⟩;rw[h1,h2,h3,h4,h5,h6,h7,h8]at hbad hgo;have e1:decide ((i:Int)<(n.length:Int))=true:=decide_eq_true hlt';repeat' first|simp only[go_sem,seval,hcd,h1,h2,h3,h4,h5,h6,h7,h8,e1]|refine sB ?_|apply xX<;>intro hc|refine⟨oD,?_⟩|exact oD|fail
   all_goals clear h1 h2 h3 h4 h5 h6 h7 h8 hcd hcc h0
   all_goals try simp only[fE,Bool.not_eq_false']at*
   all_goals subst_vars
   all_goals first
     |(refine hgo rfl _ ?_;(refine AS.Le.of (by first|decide|omega) ?_ ?_<;>simp[dM,dL,aK,aj,AV.bd,AV.bd.bdL,u8,ai,ak,ar]);done)
     |(rw[hbad rfl];done)
     |(cases b6<;>first|(simp at hc;done)|(refine hgo rfl _ ?_;(refine AS.Le.of (by first|decide|omega) ?_ ?_<;>simp[dM,dL,aK,aj,AV.bd,AV.bd.bdL,u8,ai,ak,ar]);done)|(rw[hbad rfl];done)|fail)
     |fail
  ·obtain rfl:i=n.length:=by omega
   have e:ku n=(!(n==[])&&decide (n.length<=32)):=by
    unfold ku;have:(List.range n.length).all (fun i=> !th i (Ib n i))=true:=by
     rw[bz];intro j hj;rw[ha j (cM.1 hj)];rfl
    rw[this,cf]
   rw[e];have e2:decide ((n.length:Int)<=32)=decide (n.length<=32):=by rw[decide_eq_decide];omega
   clear ha hR e;exact XF
structure CK where
 name:Bytes
 m:Bytes
 o:Bytes
 g:Bytes
 y:Bytes
 need:Int
 sh:List Bytes
def CK.pv (c:CK):PV:= .agg [.s c.name, .s c.m, .s c.o, .s c.g, .s c.y,E c.need, .sl (c.sh.map .s)]
abbrev Zk:PV:= .agg [.s [], .s [], .s [], .s [], .s [],E 0, .sl []]
theorem re (e:Int):aA Tryz.prog 28 [E e] (.tup [Zk, .sl [],T [] [] 0,E e]):=by
 refine eW Tryz.call28 Tryz.func28 ?_;exact z0
theorem CY (c:CK):aA Tryz.prog 46 [c.pv] (.agg [.s c.o, .s [2]]):=by
 unfold CK.pv;refine eW Tryz.call46 Tryz.func46 ?_;exact z1 @Vv
def pR (c:CK) (i:Nat):Bytes:=[99,111,117,114,116,32]++c.name++[46]++Lib.decDigits i
theorem Gr (c:CK) (hn:c.name.length<=1000) {i:Nat} (hi:i<100):aA Tryz.prog 47 [c.pv,E i] (.s (pR c i)):=by
 have h:=Gd i oO;have hl:(Lib.decDigits i).length<=2:=by
  have: ∀i,i<100->(Lib.decDigits i).length<=2:=by decide+kernel
  exact this i hi
 unfold CK.pv pR;generalize Lib.decDigits i=d at*;refine eW Tryz.call47 Tryz.func47 ?_;repeat' first|simp only[go_sem,seval,bm]|refine cP h ?_|refine sB ?_|apply xX<;>intro hc|refine⟨oD,?_⟩|exact oD|fail
 all_goals rfl
theorem Gs (t b:Bytes):aA Tryz.prog 105 [.s t, .s b] (eH.pv ⟨0,t,[zm b 0]⟩):=by
 unfold eH.pv;refine eW Tryz.call105 Tryz.func105 ?_;exact z1 @Sl
def ek (c:CK) (i:Nat) (a d:Bytes):dJ:=⟨[(c.m,c.o)],[[]],[⟨0,c.sh.getD (i-1) [],[zm c.g 0]⟩,⟨0,d,[zm a 0]⟩]⟩
theorem Gy (c:CK) {i:Nat} (h1:1<=i) (hi:i<=c.sh.length) (hl:c.sh.length<1000000) (a d:Bytes):aA Tryz.prog 48 [c.pv,E i, .s a, .s d] (ek c i a d).pv:=by
 obtain⟨j,rfl⟩: ∃j,i=j+1:=⟨i-1,by omega⟩
 have e1:=eX (l:=c.sh) (x:=j) oO;have hw: ∀ _:True,IntKind.i64.wrap (((j+1:Nat):Int)-1)=(j:Int):=fun _=>by rw[IntWalk.i64_in _ oO];omega
 have l1:(c.sh.map PV.s).length=c.sh.length:=aE ..;unfold ek CK.pv dJ.pv;rw[j8];have c1:=Gs (c.sh.getD j []) c.g;have c2:=Gs d a;generalize c.sh.getD j []=t at*;simp only[eH.pv,aS,bH,fV.pv,zm]at c1 c2⊢;refine eW Tryz.call48 Tryz.func48 ?_;exact RU (aN (hw trivial) (aN @l1 @e1)) @c1 @c2
def IC (c:CK) (i:Int) (xs:List Bytes):Int:=if i<1\/i>c.sh.length then 2 else if !(xs.all (lj c.m c.o))then 13 else 0
theorem Gt (c:CK) (lm:c.m.length<=8) (lo:c.o.length<=8) (hl:c.sh.length<1000000) (i:Int) {xs:List Bytes} (hx:xs.length<1000000):aA Tryz.prog 43 [c.pv,E i, .sl (xs.map .s)] (E (IC c i xs)):=by
 have l1:(c.sh.map PV.s).length=c.sh.length:=aE ..;have l2:(xs.map PV.s).length=xs.length:=aE ..;obtain⟨name,m,o,g,y,need,sh⟩:=c;unfold IC CK.pv;simp only at*
 by_cases h:i<1\/i>(sh.length:Int)
 ·rw[if_pos h]
  by_cases h1:i<1
  ·refine eW Tryz.call43 Tryz.func43 ?_;exact lQ @l1
  ·have h2:i>(sh.length:Int):=by omega
   refine eW Tryz.call43 Tryz.func43 ?_;exact lQ @l1
 rw[if_neg h];have h1: ¬i<1:=fun g=>h (.inl g)
 have h2: ¬i>(sh.length:Int):=fun g=>h (.inr g)
 refine eW Tryz.call43 Tryz.func43 ?_;refine eF @l1 ?_;refine af (α:=Nat) (fun i=>xs.length-i) (fun i=>⟨[(3, .p 1000 0 0),(18, .v (.sl (xs.map .s))),(19,E' xs.length),(20,E' i)],[(1000,⟨0,[.v (.s name), .v (.s m), .v (.s o), .v (.s g), .v (.s y), .v (E need), .v (.sl (sh.map .s))],false,none⟩)],_⟩) (fun i=>i<=xs.length/\(xs.drop i).all (lj m o)=xs.all (lj m o)) 0 (fun _=>an _) ⟨aH _,rfl⟩ ?_ ?_
 ·exact lE
 ·rintro k ⟨hi,hf⟩ R hR;rw[<-hf]
  by_cases hlt:k<xs.length
  ·have e1:=eX hlt;have hgo:=hR (k+1);rw[<-hf]at hgo;rw[aT [] hlt,List.all_cons]at hgo⊢;generalize xs.getD k []=x at*;have hv:=xr lm lo x;clear hR hf;generalize lj m o x=b at*;cases b
   ·repeat' first|simp only[go_sem,seval,l2,e1]|refine cP hv ?_|refine sB ?_|apply xX<;>intro hc|refine⟨oD,?_⟩|exact oD|fail
    all_goals simp
   ·have hgo:=hgo ⟨by omega,by simp⟩ oO
    exact kR (aN @l2 @e1) @hgo @hv
  ·obtain rfl:k=xs.length:=by omega
   rw[cX];exact lQ @l2
theorem AI {n:Nat} (h:n<18446744073709551616):aA Tryz.prog 126 [E n] (N n):=by
 have h1:=kf n h;have hw: ∀ _:True,IntKind.u64.wrap (n:Int)=n:=fun _=>IntWalk.u64_in _ oO
 refine eW Tryz.call126 Tryz.func126 ?_;exact o7 (hw trivial) @h1
def NS (n:Nat):PV:=E n
abbrev EP (m o g y:Bytes) (pts:List Nat):List PV:=[.pt (.agg [.sl (pts.map cY)]) 0, .pt (.agg [.fn (.func 126)]) 0, .pt (.agg [.s m, .s o, .s g, .s y]) 0]
theorem KB (m o g y:Bytes) {pts:List Nat} (h0:pts≠[]) (hl:pts.length<1000000) (hb: ∀a∈pts,a<18446744073709551616):aA Tryz.prog 60 [.agg [.s m, .s o, .s g, .s y], .sl (pts.map NS)] (.fc 127 [] (EP m o g y pts)):=by
 have hpos:0<pts.length:=kJ.2 h0;have hc:=fun i (hi:i<pts.length)=>AI (hb _ (az 0 hi))
 have hE:=fun i (hi:i<pts.length)=>getD_map NS pts 0 hi
 obtain⟨n,hn⟩: ∃n,n=pts.length:=⟨_,rfl⟩;have lP:pts.length=n:=hn.symm;refine eW Tryz.call60 Tryz.func60 ?_;refine eF @lP ?_;refine ah ?_;have e1:=hE 0 hpos;have c1:=hc 0 hpos;have t1:pts.take 1=[pts.getD 0 0]:=by rw[fa 0 hpos];simp
 simp only[NS]at e1;generalize pts.getD 0 0=x at*;refine zr (aN @lP @e1) @c1 ?_;refine af (α:=Nat) (fun j=>n-(j+1)) (fun j=>⟨[(2, .p 1000 0 0),(5, .p 1002 0 0),(6, .p 1004 0 0),(9, .v (.sl (pts.map NS))),(10,E' n),(11,E' (j+1))],[(1000,⟨0,[.v (.s m), .v (.s o), .v (.s g), .v (.s y)],false,none⟩),(1002,⟨0,[.v (.fn (.func 126))],false,some 207⟩),(1004,⟨0,[.rs 1017 j 0 (j+1) 1],false,some 27⟩),(1017,⟨j,aC (pts.take (j+1)),true,some 22⟩)],1021⟩) (fun j=>j+1<=n) 0 (fun _=>cC rfl) oO ?_ ?_
 ·simp only[dI,t1,show aC [x]=[AV.v (N x)]from rfl]
  exact lE
 ·intro j hj R hR;have hlm:(pts.take (j+1)).length=j+1:=by rw[bU];omega
  have g1:=cv hlm;have g2:(aC (pts.take (j+1))).length=j+1:=by rw[bE,hlm]
  by_cases hlt:j+1<n
  ·have hgo:=hR (j+1) oO oO;have e2:=hE (j+1) oO;have c2:=hc (j+1) oO;rw[fa 0 (show j+1<pts.length by omega),gv]at hgo
   simp only[NS]at e2;generalize pts.getD (j+1) 0=z at*;clear hR hE hc e1 c1;refine o8 (aN @lP (aN @e2 (aN @g1 @g2))) @c2 ?_;refine hgo _ ?_;refine lG ?_;all_goals exact fun c hc=>hc.elim (fun h=>eN h) (fun h=>by rw[h];rfl)
  ·obtain rfl:j+1=n:=by omega
   have hT:pts.take (j+1)=pts:=cd oO;rw[hT]at g1 g2⊢;have g3:=eR pts;have g4:=dy (l:=pts) lP;clear hR hE hc e1 c1;repeat' first|simp only[go_sem,seval,lP,g1,g2,g3,g4,cQ]|refine sB ?_|apply xX<;>intro hc|refine⟨oD,?_⟩|exact oD|fail
   all_goals rfl
def uv (n i:Nat):List Nat:=(List.replicate n 0).set i 1
noncomputable def mZ (q:Nat) (pts:List Nat) (x i:Nat):Nat:=IE q pts (uv pts.length i) x
noncomputable def uP (q:Nat) (pts:List Nat) (x k:Nat):List (Bool×Bytes):=(List.range k).map fun i=>(false,aO (mZ q pts x i))
noncomputable def JN (m q:Nat) (pts pS:List Nat) (x:Nat):Nat:=Ey m (pS.zip (uP q pts x pts.length))
theorem Py {q:Nat} (h0:0<q) (pts:List Nat) (x i:Nat):mZ q pts x i<q:=by
 unfold mZ IE;have:=tD (q:=(q:Int)) oO x (nI (uX q pts (uv pts.length i)));omega
theorem Gp {m o:Bytes} (lm:m.length<=8) (lo:o.length<=8) (hE:gE m o=0) (ho:o≠[]) (hp:du (num o)=true) (g y:Bytes) {pts pS:List Nat} (h0:pts≠[]) (hl:pS.length=pts.length) (hd:pts.Nodup) (hb: ∀a∈pts,a<=8/\a<num o) (h256:pts.length<=256) (he: ∀x∈pS,GP m o x) {x:Nat} (hx:x<num o):
  aA Tryz.prog 127 (.sl (pS.map cY)::E x::EP m o g y pts) (N (JN (num m) (num o) pts pS x)):=by
 obtain⟨vm,vo,m1,-,hoq⟩:=kp hE;have hq:=dY lo;have h2:=Bh hp;have hg:=fun i (hi:i<pts.length)=>HC hp hd hb hi
 obtain⟨q,hqq⟩: ∃q,q=num o:=⟨_,rfl⟩;have eo:(PV.s o)=N q:=by rw[hqq,eV vo]
 rw[<-hqq]at hp hb hx hq h2 hg⊢;have hpos:0<pts.length:=kJ.2 h0;have huv: ∀i,∀a∈uv pts.length i,a<q:=fun i a ha=>by
  unfold uv at ha;rcases List.mem_or_eq_of_mem_set ha with h|h
  ·have:=(List.mem_replicate.1 h).2;omega
  ·omega
 have hI:=fun i=>FN hq hp (xs:=pts) (ys:=uv pts.length i) (x:=x) (by simp[uv]) h256 (fun a h=>(hb a h).2) (huv i) hx hd hg
 have hlt:=fun i=>Py (q:=q) oO pts x i
 have hF:=fun i=>pc (a:=aO (mZ q pts x i)) (vN (by have:=hlt i;omega))
 have hP:=Ba lm lo hE (xs:=pS) (es:=uP q pts x pts.length) he (fun e h=>by
  obtain⟨i,-,rfl⟩:=bw.1 h;unfold c9;simp[vN (show mZ q pts x i<18446744073709551616 by have:=hlt i;omega)]) (by simp[uP,hl]) oO
 have hc1:=AI (n:=1) oC;have hcx:=AI (n:=x) oO;have hsn: ∀k,uP q pts x (k+1)=uP q pts x k++[(false,aO (mZ q pts x k))]:=fun k=>by
  unfold uP;rw[nR,dD];rfl
 have hel: ∀k,(uP q pts x k).length=k:=fun k=>by simp[uP]
 have he0:uP q pts x 0=[]:=rfl;unfold JN;obtain⟨n,hn⟩: ∃n,n=pts.length:=⟨_,rfl⟩;have lP:pts.length=n:=hn.symm;simp only[lP]at hI hP⊢;have hI: ∀i,aA Tryz.prog 128 [N q, .sl (pts.map cY), .sl ((uv n i).map cY),N x] (.tup [N (mZ q pts x i),E 0]):=fun i=>by unfold mZ;rw[lP];exact hI i
 simp only[G,EP]at hP⊢;rw[eo]at hP⊢;generalize uP q pts x=L at*;generalize mZ q pts x=la at*;clear hg hlt huv he hd hb hE;have u0:(aC (List.replicate n 0)).length=n:=by rw[bE];simp
 have u1: ∀i,i<n->List.take i (aC (List.replicate n 0))++[AV.v (N 1)]++List.drop (i+1) (aC (List.replicate n 0))=aC (uv n i):=fun i hi=>fH (x:=1) (by simpa using hi)
 have u2:AV.v (N 1)::List.drop 1 (aC (List.replicate n 0))=aC (uv n 0):=u1 0 oO;have ul: ∀i,(uv n i).length=n:=fun i=>by simp[uv]
 have x1:=fun i=>cv (ul i)
 have x2:=fun i=>eR (uv n i)
 have x3:=fun i=>dy (ul i)
 have x4: ∀i,(aC (uv n i)).length=n:=fun i=>by rw[bE,ul]
 have r1: ∀k,bO eC (L (k+1))=bO eC (L k)++[.v (.b false), .v (N (la k))]:=fun k=>by rw[hsn,dh];rfl
 refine eW Tryz.call127 Tryz.func127 ?_;refine eF @lP ?_;refine af (α:=Nat) (fun j=>n-j) (fun j=>match j with|0=>⟨[(0, .v (.sl (pS.map cY))),(1, .v (E x)),(2, .v (.pt (.agg [.sl (pts.map cY)]) 0)),(3, .v (.pt (.agg [.fn (.func 126)]) 0)),(4, .v (.pt (.agg [.s m,N q, .s g, .s y]) 0)),(15, .v (.sl (pts.map cY))),(16,E' n),(8, .sn),(17, .v (.i .i64 0))],[],1005⟩|j+1=>⟨[(0, .v (.sl (pS.map cY))),(1, .v (E x)),(2, .v (.pt (.agg [.sl (pts.map cY)]) 0)),(3, .v (.pt (.agg [.fn (.func 126)]) 0)),(4, .v (.pt (.agg [.s m,N q, .s g, .s y]) 0)),(15, .v (.sl (pts.map cY))),(16,E' n),(8, .rs 1036 j 0 (j+1) 2),(17,E' (j+1))],[(1036,⟨j,bO eC (L (j+1)),true,some 89⟩)],1040⟩) (fun j=>j<=n) 0 (fun j=>by cases j<;>exact cC rfl) (aH _) ?_ ?_
 ·show AS.Le _ _;exact lE
 ·intro j hj R hR
  cases j with
  |zero=>
   have hgo:=hR 1 oO oO;simp only[r1,he0,show bO eC []=[]from rfl,List.nil_append]at hgo
   have f0:=hF 0;have i0:=hI 0;generalize la 0=l0 at*;clear hR hF hI;repeat' first|simp only[go_sem,seval,lP,jD,u0,u2]|refine cP hc1 ?_|refine cP hcx ?_|(refine ny [1010] i0 rfl (by simp[aL,aj,x1,x2,x3,x4,kG]) (by simp[aQ,view,aj,x1,x2,x3,x4,cQ]) ?_)|refine cP f0 ?_|refine sB ?_|apply xX<;>intro hc|refine⟨oD,?_⟩|exact oD|fail
   refine hgo _ ?_;exact lE
  |succ j=>
   have q1:=de mI (L (j+1));have q2:=dK mI (L (j+1));rw[hel]at q1 q2
   by_cases hlt:j+1<n
   ·have hgo:=hR (j+2) oO oO;simp only[r1 (j+1)]at hgo;have f0:=hF (j+1);have i0:=hI (j+1);have u3:=u1 (j+1) hlt;have ht: ∀ _:True,((j:Int)+1).toNat=j+1:=fun _=>by omega
    generalize la (j+1)=l0 at*;clear hR hF hI;repeat' first|simp only[go_sem,seval,lP,jD,u0,u3,q1,q2,ht trivial]|refine cP hc1 ?_|refine cP hcx ?_|(refine ny [1045] i0 rfl (by simp[aL,aj,x1,x2,x3,x4,kG]) (by simp[aQ,view,aj,x1,x2,x3,x4,cQ]) ?_)|refine cP f0 ?_|refine sB ?_|apply xX<;>intro hc|refine⟨oD,?_⟩|exact oD|fail
    refine hgo _ ?_;refine lG ?_;all_goals exact fun c hc=>by rcases hc with hc|rfl|rfl<;>first|exact eu hc|rfl
   ·obtain rfl:j+1=n:=by omega
    have q3:=fk mI (L (j+1));have q4:=dA mI (L (j+1));rw[hel]at q4;clear hR hF hI;repeat' first|simp only[go_sem,seval,lP,q1,q2]|(refine ny [1036] hP rfl (by simp[aL,aj,q1,q2,q3,q4,qF]) (by simp[aQ,view,aj,q1,q2,q3,q4,e9]) ?_)|refine sB ?_|apply xX<;>intro hc|refine⟨oD,?_⟩|exact oD|fail
    all_goals rfl
end Go.Proofs.YtfdjchnefpefbaaGreatDoor
