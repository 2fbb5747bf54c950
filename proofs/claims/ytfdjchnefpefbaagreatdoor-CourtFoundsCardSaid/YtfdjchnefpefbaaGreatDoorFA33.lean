/-
  Part of the proof, part FA33. Own work.
-/
import Derived.Test.YtfdjchnefpefbaaGreatDoorFA30
set_option linter.all false
namespace Go.Proofs.YtfdjchnefpefbaaGreatDoor
open Go Go.Dom
set_option maxRecDepth 100000
set_option maxHeartbeats 16000000
def jt (k:Bytes) (c:UInt8) (i:Nat):Bytes:=(List.range 64).map fun j=>if j<i then k.getD j 0^^^c else k.getD j 0
def oo (k:Bytes) (c:UInt8):Bytes:=jt k c 64
def oK (k:Bytes):Bytes:=if k.length>64 then lD k else k
def Bn (k s:Bytes):Bytes:=lD (oo (oK k) 92++lD (oo (oK k) 54++s))
theorem dC (k:Bytes) (c:UInt8) (i:Nat):(jt k c i).length=64:=by simp[jt]
theorem sf {k:Bytes} {c:UInt8} {i j:Nat} (h:j<64):(jt k c i).getD j 0=if j<i then k.getD j 0^^^c else k.getD j 0:=by
 simp[jt,aR,h]
theorem Eu {k:Bytes} {c:UInt8} {i:Nat} (h:i<64):(jt k c i).set i (k.getD i 0^^^c)=jt k c (i+1):=by
 apply pI
 ·simp[jt]
 ·intro n h1 h2;rw[Cq];simp only[jt,B4,Cf]
  by_cases hn:i=n
  ·subst hn;simp
  ·rw[if_neg hn];have:(n<i)=(n<i+1):=by simp;omega
   simp only[this]
theorem He {k:Bytes} (c:UInt8) (h:k.length<=64):List.take k.length (ay k)++List.drop k.length (List.replicate 64 (AV.v (.i .u8 0)))=ay (jt k c 0):=by
 rw[iV];unfold ay jt;apply pI
 ·simp;omega
 ·intro n h1 h2;simp only[aE,iN]at h2;simp only[B4,Cf,mD,if_false]
  by_cases hn:n<k.length
  ·rw[List.getElem_append_left (by simpa using hn)]
   simp[aR,hn]
  ·rw[List.getElem_append_right (by simpa using hn)]
   simp only[List.getElem_drop,List.getElem_replicate];simp[aR,hn,u8]
theorem iU {l:Bytes} {i:Nat} (h:i<l.length):(ay l).getD i .u= .v (u8 (l.getD i 0)):=by
 simp[ay,aR,h]
theorem Ku (l:Bytes) {o:Nat} (c:UInt8) (h:o<l.length):(ay l).take o++(.v (.i .u8 (c.toNat:Int))::(ay l).drop (o+1))=ay (l.set o c):=by
 unfold ay;rw[sr,vL];simp[h,u8]
theorem NK (a c:UInt8):Dm .u8 (a.toNat:Int) (c.toNat:Int)=((a^^^c).toNat:Int):=by
 have:=Rp .u8 rfl (a:=a.toNat) (b:=c.toNat) (by have:=a.toNat_lt;exact this) (by have:=c.toNat_lt;exact this)
 rw[this];simp
theorem Si {k s:Bytes} (h0:k.length<1000000) (hs:s.length<1000000):aA Tryz.prog 442 [.s k, .s s] (.s (Bn k s)):=by
 have hq:=s9 (s:=k) oO;have hq2:(lD k).length<=64:=by rw[eT];decide
 have hs1:=s9 (s:=oo (oK k) 54++s) (by rw[bm,oo,dC];omega)
 have hs2:=s9 (s:=oo (oK k) 92++lD (oo (oK k) 54++s)) (by rw[bm,oo,dC,eT];omega)
 unfold Bn
 by_cases hk:k.length<=64
 ·have e:oK k=k:=by unfold oK;rw[if_neg oO]
  rw[e]at hs1 hs2⊢;clear hq hq2 h0;refine eW Tryz.call442 Tryz.func442 ?_;refine uZ ?_;refine af (α:=Nat) (fun i=>64-i) (fun i=>⟨[(1, .v (.s s)),(5, .p 1004 0 0),(6, .p 1005 0 0),(19,E' i)],[(1005,⟨0,ay (jt k 92 i),false,some 409⟩),(1004,⟨0,ay (jt k 54 i),false,some 409⟩)],_⟩) (fun i=>i<=64) 0 (fun _=>an _) (aH _) ?_ ?_
  ·refine AS.Le.of oD ?_ ?_<;>simp[dM,dL,aK,aj,AV.bd,ak,hk];exact⟨He 92 hk,He 54 hk⟩
  ·intro i hi R hR
   by_cases hlt:i<64
   ·have hgo:=hR (i+1) oO oO;have g1:(ay (jt k 54 i)).getD i .u= .v (.i .u8 ((k.getD i 0).toNat:Int)):=by rw[iU (by rw[dC];exact hlt),sf hlt,if_neg (kN i)];rfl
    have g2:(ay (jt k 92 i)).getD i .u= .v (.i .u8 ((k.getD i 0).toNat:Int)):=by rw[iU (by rw[dC];exact hlt),sf hlt,if_neg (kN i)];rfl
    have g3:=NK (k.getD i 0) 54;have g4:=NK (k.getD i 0) 92;have g5:((54:UInt8).toNat:Int)=54:=rfl;have g6:((92:UInt8).toNat:Int)=92:=rfl;rw[g5]at g3;rw[g6]at g4;refine fx (aN @g1 (aN @g2 (aN @g3 (aN @g4 @dC)))) ?_;refine hgo _ ?_;have g7:=Ku (jt k 92 i) (o:=i) (k.getD i 0^^^92) (by rw[dC];exact hlt)
    have g8:=Ku (jt k 54 i) (o:=i) (k.getD i 0^^^54) (by rw[dC];exact hlt)
    rw[Eu hlt]at g7 g8;refine AS.Le.of oD ?_ ?_<;>simp[dM,dL,aK,aj,AV.bd,ak];exact⟨by simpa using g7,by simpa using g8⟩
   ·obtain rfl:i=64:=by omega
    have t1: ∀c,List.take 64 (ay (jt k c 64))=ay (jt k c 64):=fun c=>cd (by rw[iC,dC];exact an _)
    have t2: ∀l,(∀y,y∈ay l->y.isByte)=True:=fun l=>by
     simp only[eq_iff_iff,iff_true];intro y hy;obtain⟨c,-,rfl⟩:=bw.1 hy;simp[AV.isByte,u8,xC]
    unfold oo at hs1 hs2⊢;repeat' first|simp only[go_sem,seval,dC,t1,t2,iT,eT]|refine cP hs1 ?_|refine cP hs2 ?_|refine sB ?_|apply xX<;>intro hc|refine⟨oD,?_⟩|exact oD|fail
 ·have e:oK k=lD k:=by unfold oK;rw[if_pos oO]
  rw[e]at hs1 hs2⊢;generalize lD k=q at*;refine eW Tryz.call442 Tryz.func442 ?_;refine XH @hq ?_;clear hq h0 hk;have hk:=hq2;refine af (α:=Nat) (fun i=>64-i) (fun i=>⟨[(1, .v (.s s)),(5, .p 1007 0 0),(6, .p 1008 0 0),(19,E' i)],[(1008,⟨0,ay (jt q 92 i),false,some 409⟩),(1007,⟨0,ay (jt q 54 i),false,some 409⟩)],_⟩) (fun i=>i<=64) 0 (fun _=>an _) (aH _) ?_ ?_
  ·refine AS.Le.of oD ?_ ?_<;>simp[dM,dL,aK,aj,AV.bd,ak,hk];exact⟨He 92 hk,He 54 hk⟩
  ·intro i hi R hR
   by_cases hlt:i<64
   ·have hgo:=hR (i+1) oO oO;have g1:(ay (jt q 54 i)).getD i .u= .v (.i .u8 ((q.getD i 0).toNat:Int)):=by rw[iU (by rw[dC];exact hlt),sf hlt,if_neg (kN i)];rfl
    have g2:(ay (jt q 92 i)).getD i .u= .v (.i .u8 ((q.getD i 0).toNat:Int)):=by rw[iU (by rw[dC];exact hlt),sf hlt,if_neg (kN i)];rfl
    have g3:=NK (q.getD i 0) 54;have g4:=NK (q.getD i 0) 92;have g5:((54:UInt8).toNat:Int)=54:=rfl;have g6:((92:UInt8).toNat:Int)=92:=rfl;rw[g5]at g3;rw[g6]at g4;refine fx (aN @g1 (aN @g2 (aN @g3 (aN @g4 @dC)))) ?_;refine hgo _ ?_;have g7:=Ku (jt q 92 i) (o:=i) (q.getD i 0^^^92) (by rw[dC];exact hlt)
    have g8:=Ku (jt q 54 i) (o:=i) (q.getD i 0^^^54) (by rw[dC];exact hlt)
    rw[Eu hlt]at g7 g8;refine AS.Le.of oD ?_ ?_<;>simp[dM,dL,aK,aj,AV.bd,ak];exact⟨by simpa using g7,by simpa using g8⟩
   ·obtain rfl:i=64:=by omega
    have t1: ∀c,List.take 64 (ay (jt q c 64))=ay (jt q c 64):=fun c=>cd (by rw[iC,dC];exact an _)
    have t2: ∀l,(∀y,y∈ay l->y.isByte)=True:=fun l=>by
     simp only[eq_iff_iff,iff_true];intro y hy;obtain⟨c,-,rfl⟩:=bw.1 hy;simp[AV.isByte,u8,xC]
    unfold oo at hs1 hs2⊢;repeat' first|simp only[go_sem,seval,dC,t1,t2,iT,eT]|refine cP hs1 ?_|refine cP hs2 ?_|refine sB ?_|apply xX<;>intro hc|refine⟨oD,?_⟩|exact oD|fail
def mH (n:Nat):Bytes:=if n<10 then[UInt8.ofNat (48+n)]else[UInt8.ofNat (48+n/10),UInt8.ofNat (48+n%10)]
theorem C4 (n:Nat):(mH n).length<=2:=by unfold mH;split<;>simp
theorem Yg: ∀n:Fin 10,List.drop n.val (List.take (n.val+1) ([48,49,50,51,52,53,54,55,56,57]:Bytes))=mH n.val:=by decide+kernel
theorem Yh: ∀n:Fin 10,List.drop n.val (List.take (n.val+1) ([48,49,50,51,52,53,54,55,56,57,97,98,99,100,101,102,103,104,105,106,107,108,109,110,111,112,113,114,115,116,117,118,119,120,121,122]:Bytes))=mH n.val:=by decide+kernel
def Y8:Bytes:=(List.range 100).flatMap fun n=>[UInt8.ofNat (48+n/10),UInt8.ofNat (48+n%10)]
theorem Yi: ∀n:Fin 100,10<=n.val->List.drop (n.val*2) (List.take (n.val*2+2) Y8)=mH n.val:=by decide+kernel
theorem Np (n:Nat) (hn:n<100):aA Tryz.prog 407 [.i .i64 (n:Int)] (.s (mH n)):=by
 by_cases h:n<10
 ·have hb:=Yh ⟨n,h⟩;have t1: ∀ _:True,((n:Int)+1).toNat=n+1:=fun _=>by omega
  have d1: ∀ _:True,((n:Int)<10)=True:=fun _=>by simp;omega
  refine eW Tryz.call407 Tryz.func407 ?_;repeat' first|simp only[go_sem,seval,t1 trivial]|refine sB ?_|apply xX<;>intro hc|refine⟨oD,?_⟩|exact oD|fail
  all_goals first|omega|exact congrArg PV.s hb|skip
 ·have hb:=Yi ⟨n,hn⟩ (by simpa using h)
  have t1: ∀ _:True,((n:Int)*2+2).toNat=n*2+2:=fun _=>by omega
  have t2: ∀ _:True,((n:Int)*2).toNat=n*2:=fun _=>by omega
  refine eW Tryz.call407 Tryz.func407 ?_;repeat' first|simp only[go_sem,seval,t1 trivial,t2 trivial]|refine sB ?_|apply xX<;>intro hc|refine⟨oD,?_⟩|exact oD|fail
  all_goals first|omega|exact congrArg PV.s hb|skip
theorem Ax (n:Nat) (hn:n<100):aA Tryz.prog 104 [.i .i64 (n:Int)] (.s (mH n)):=by
 have h:=Np n hn;have hF:aA Tryz.prog 315 [.i .i64 (n:Int), .i .i64 10] (.s (mH n)):=by
  refine eW Tryz.call315 Tryz.func315 ?_;exact z1 @h
 have hI:aA Tryz.prog 198 [.i .i64 (n:Int)] (.s (mH n)):=by
  refine eW Tryz.call198 Tryz.func198 ?_;exact z1 @hF
 refine eW Tryz.call104 Tryz.func104 ?_;exact z1 @hI
theorem Tq (L:Nat) (h:L<=64):aA Tryz.prog 460 [E L] (E (Lib.l10 L)):=by
 unfold Lib.l10;refine eW Tryz.call460 Tryz.func460 ?_;repeat' first|simp only[go_sem,seval]|refine sB ?_|apply xX<;>intro hc|refine⟨oD,?_⟩|exact oD|fail
 all_goals (rw[HM _ oC];first|rfl|(congr 1;omega))
theorem Q2 (b:Bool):aA Tryz.prog 462 [.b b] (E (if b then 1 else 0)):=by
 cases b
 ·refine eW Tryz.call462 Tryz.func462 ?_;exact z0
 ·refine eW Tryz.call462 Tryz.func462 ?_;exact z0
theorem Uf: ∀q:Fin 20,([.i .u64 1, .i .u64 10, .i .u64 100, .i .u64 1000, .i .u64 10000, .i .u64 100000, .i .u64 1000000, .i .u64 10000000, .i .u64 100000000, .i .u64 1000000000, .i .u64 10000000000, .i .u64 100000000000, .i .u64 1000000000000, .i .u64 10000000000000, .i .u64 100000000000000, .i .u64 1000000000000000, .i .u64 10000000000000000, .i .u64 100000000000000000, .i .u64 1000000000000000000, .i .u64 10000000000000000000]:List PV).getD q.val .fn0= .i .u64 (10^q.val:Nat):=by
 intro q;rcases q with⟨q,hq⟩
 rcases(by omega:q=0\/q=1\/q=2\/q=3\/q=4\/q=5\/q=6\/q=7\/q=8\/q=9\/q=10\/q=11\/q=12\/q=13\/q=14\/q=15\/q=16\/q=17\/q=18\/q=19)with rfl|rfl|rfl|rfl|rfl|rfl|rfl|rfl|rfl|rfl|rfl|rfl|rfl|rfl|rfl|rfl|rfl|rfl|rfl|rfl<;>rfl
theorem mj (u:Nat) (h1:1<=u) (h2:u<18446744073709551616):aA Tryz.prog 408 [.i .u64 (u:Int)] (E (Lib.nDigits u)):=by
 obtain⟨e1,e2⟩:=Lib.numDigits_eq u h1 h2;have hb:=CG u h2;have hbl:Lib.bitLen u<=64:=by unfold Lib.bitLen;exact Lib.bitLen_le u 64 (an _) h2
 have hl:=Tq (Lib.bitLen u) hbl;have hp:=Uf ⟨Lib.l10 (Lib.bitLen u),by omega⟩
 simp only at hp;have hp: ∀ _:True,_:=fun _=>hp
 have hp2:=cI (n:=10) oC e2
 by_cases hq:10^Lib.l10 (Lib.bitLen u)<=u
 ·rw[if_pos hq]at e1;rw[<-e1];have hd: ∀ _:True,decide ((u:Int)>=((10^Lib.l10 (Lib.bitLen u):Nat):Int))=true:=fun _=>decide_eq_true (by exact_mod_cast hq)
  have hc2:=Q2 true;generalize Lib.l10 (Lib.bitLen u)=q at*;generalize 10^q=p at*;refine eW Tryz.call408 Tryz.func408 ?_;exact JJ (aN (hp trivial) (hd trivial)) @hb @hl @hc2
 ·rw[if_neg hq]at e1;rw[<-e1];have hd: ∀ _:True,decide ((u:Int)>=((10^Lib.l10 (Lib.bitLen u):Nat):Int))=false:=fun _=>decide_eq_false (by intro h;exact hq (by exact_mod_cast h))
  have hc2:=Q2 false;generalize Lib.l10 (Lib.bitLen u)=q at*;generalize 10^q=p at*;refine eW Tryz.call408 Tryz.func408 ?_;exact JJ (aN (hp trivial) (hd trivial)) @hb @hl @hc2
theorem kn (k n:Nat):(iD k n).length=k:=by
 induction k generalizing n with
 |zero=>rfl
 |succ k ih=>simp[iD,ih]
theorem O3: ∀(k n:Nat),Lib.nDigits n=k->iD k n=Lib.decDigits n:=by
 intro k
 induction k with
 |zero=>intro n h;have:=Lib.nDigits_pos n;omega
 |succ k ih=>
  intro n h
  by_cases hn:n<10
  ·rw[Lib.nDigits_small hn]at h;obtain rfl:k=0:=by omega
   rw[Lib.decDigits_one hn];simp[iD,aV hn]
  ·rw[Lib.nDigits_big hn]at h;rw[iD,ih (n/10) oO]
   conv=>rhs;rw[Lib.decDigits,dif_neg hn]
theorem R9 (n:Nat) (h1:100<=n) (h2:n<4294967296):aA Tryz.prog 315 [.i .i64 (n:Int), .i .i64 10] (.s (Lib.decDigits n)):=by
 obtain⟨k,hk⟩: ∃k,Lib.nDigits n=k:=⟨_,rfl⟩;have hlt:=Lib.lt_pow_nDigits n;rw[<-O3 k n hk]
 by_cases g3:n<1000
 ·obtain rfl:k=3:=by rw[<-hk];exact Lib.nDigits_unique 2 n oO oO
  have hn:=mj n oO oO;rw[hk]at hn;have hf:=fun nm=>Z9 1009 nm n oO
  have hd:=kn 3 n;refine eW Tryz.call315 Tryz.func315 ?_;repeat' first|simp only[go_sem,seval,<-pY,qe,iD,u8,dD,List.nil_append,List.cons_append]|refine cP hn ?_|(refine bC (hf _) (by simp[aj]) ?_)|refine sB ?_|apply xX<;>intro hc|refine⟨oD,?_⟩|exact oD|fail
 by_cases g4:n<10000
 ·obtain rfl:k=4:=by rw[<-hk];exact Lib.nDigits_unique 3 n oO oO
  have hn:=mj n oO oO;rw[hk]at hn;have hf:=fun nm=>fb4 1009 nm n oO
  have hd:=kn 4 n;refine eW Tryz.call315 Tryz.func315 ?_;repeat' first|simp only[go_sem,seval,<-pY,qe,iD,u8,dD,List.nil_append,List.cons_append]|refine cP hn ?_|(refine bC (hf _) (by simp[aj]) ?_)|refine sB ?_|apply xX<;>intro hc|refine⟨oD,?_⟩|exact oD|fail
 by_cases g5:n<100000
 ·obtain rfl:k=5:=by rw[<-hk];exact Lib.nDigits_unique 4 n oO oO
  have hn:=mj n oO oO;rw[hk]at hn;have hf:=fun nm=>fb5 1009 nm n oO
  have hd:=kn 5 n;refine eW Tryz.call315 Tryz.func315 ?_;repeat' first|simp only[go_sem,seval,<-pY,qe,iD,u8,dD,List.nil_append,List.cons_append]|refine cP hn ?_|(refine bC (hf _) (by simp[aj]) ?_)|refine sB ?_|apply xX<;>intro hc|refine⟨oD,?_⟩|exact oD|fail
 by_cases g6:n<1000000
 ·obtain rfl:k=6:=by rw[<-hk];exact Lib.nDigits_unique 5 n oO oO
  have hn:=mj n oO oO;rw[hk]at hn;have hf:=fun nm=>fb6 1009 nm n oO
  have hd:=kn 6 n;refine eW Tryz.call315 Tryz.func315 ?_;repeat' first|simp only[go_sem,seval,<-pY,qe,iD,u8,dD,List.nil_append,List.cons_append]|refine cP hn ?_|(refine bC (hf _) (by simp[aj]) ?_)|refine sB ?_|apply xX<;>intro hc|refine⟨oD,?_⟩|exact oD|fail
 by_cases g7:n<10000000
 ·obtain rfl:k=7:=by rw[<-hk];exact Lib.nDigits_unique 6 n oO oO
  have hn:=mj n oO oO;rw[hk]at hn;have hf:=fun nm=>fb7 1009 nm n oO
  have hd:=kn 7 n;refine eW Tryz.call315 Tryz.func315 ?_;repeat' first|simp only[go_sem,seval,<-pY,qe,iD,u8,dD,List.nil_append,List.cons_append]|refine cP hn ?_|(refine bC (hf _) (by simp[aj]) ?_)|refine sB ?_|apply xX<;>intro hc|refine⟨oD,?_⟩|exact oD|fail
 by_cases g8:n<100000000
 ·obtain rfl:k=8:=by rw[<-hk];exact Lib.nDigits_unique 7 n oO oO
  have hn:=mj n oO oO;rw[hk]at hn;have hf:=fun nm=>fb8 1009 nm n oO
  have hd:=kn 8 n;refine eW Tryz.call315 Tryz.func315 ?_;repeat' first|simp only[go_sem,seval,<-pY,qe,iD,u8,dD,List.nil_append,List.cons_append]|refine cP hn ?_|(refine bC (hf _) (by simp[aj]) ?_)|refine sB ?_|apply xX<;>intro hc|refine⟨oD,?_⟩|exact oD|fail
 by_cases g9:n<1000000000
 ·obtain rfl:k=9:=by rw[<-hk];exact Lib.nDigits_unique 8 n oO oO
  have hn:=mj n oO oO;rw[hk]at hn;have hf:=fun nm=>fb9 1009 nm n oO
  have hd:=kn 9 n;refine eW Tryz.call315 Tryz.func315 ?_;repeat' first|simp only[go_sem,seval,<-pY,qe,iD,u8,dD,List.nil_append,List.cons_append]|refine cP hn ?_|(refine bC (hf _) (by simp[aj]) ?_)|refine sB ?_|apply xX<;>intro hc|refine⟨oD,?_⟩|exact oD|fail
 obtain rfl:k=10:=by rw[<-hk];exact Lib.nDigits_unique 9 n oO oO
 have hn:=mj n oO oO;rw[hk]at hn;have hf:=fun nm=>Yj 1009 nm n oO
 have hd:=kn 10 n;refine eW Tryz.call315 Tryz.func315 ?_;repeat' first|simp only[go_sem,seval,<-pY,qe,iD,u8,dD,List.nil_append,List.cons_append]|refine cP hn ?_|(refine bC (hf _) (by simp[aj]) ?_)|refine sB ?_|apply xX<;>intro hc|refine⟨oD,?_⟩|exact oD|fail
theorem O4 (n:Nat) (h:n<100):mH n=Lib.decDigits n:=by
 unfold mH
 by_cases g:n<10
 ·rw[if_pos g,Lib.decDigits_one g]
 ·rw[if_neg g,Lib.decDigits_two g h]
theorem Gd (n:Nat) (h2:n<4294967296):aA Tryz.prog 104 [.i .i64 (n:Int)] (.s (Lib.decDigits n)):=by
 by_cases h:n<100
 ·rw[<-O4 n h];exact Ax n h
 have hF:=R9 n oO h2;have hI:aA Tryz.prog 198 [.i .i64 (n:Int)] (.s (Lib.decDigits n)):=by
  refine eW Tryz.call198 Tryz.func198 ?_;exact z1 @hF
 refine eW Tryz.call104 Tryz.func104 ?_;exact z1 @hI
end Go.Proofs.YtfdjchnefpefbaaGreatDoor
namespace Go.Proofs.YtfdjchnefpefbaaGreatDoor
open Go Go.Dom Go.RowKit Go.Shelf
set_option maxRecDepth 100000
set_option maxHeartbeats 16000000
theorem Fe: ∀(k u:Nat),u<10^(k+1)->Lib.nDigits u<=k+1:=by
 intro k
 induction k with
 |zero=>intro u h;rw[Lib.nDigits_small (by simpa using h)];exact an _
 |succ k ih=>
  intro u h
  by_cases hu:u<10
  ·rw[Lib.nDigits_small hu];omega
  ·rw[Lib.nDigits_big hu];have:=ih (u/10) (by rw[Nat.pow_succ]at h;omega)
   omega
theorem nC {n:Nat} (h:n<4294967296):(Lib.decDigits n).length<=10:=by
 rw[Lib.decDigits_length];exact Fe 9 n (by omega)
def AF (at' a b:Nat):Bytes:=Lib.decDigits at'++[46]++Lib.decDigits a++[46]++Lib.decDigits b
def qY (sd:Bytes) (at' a b:Nat):Bytes:=Bn sd (AF at' a b)
def H6 (sd:Bytes) (at' a:Nat) (b:Nat):Nat->List (List PV)
 |0=>[]
 |k+1=>[.s (qY sd at' a b)]::H6 sd at' a (b+1) k
theorem H7 {vs:PV} {sd:Bytes} {at' a k:Nat} (hsd:sd.length<1000000) (hk:k<1000000) (ha:at'<4294967296) (ha2:a<4294967296):Xv Tryz.prog 441 [.pt (.agg [vs, .s sd, .i .i64 at']) 0, .pt (.agg [.i .i64 a]) 0] false (H6 sd at' a 0 k):=by
 refine⟨Tryz.call441,?_⟩;intro w rd cvs l J Jx htr hcaps hrd hb hbx hY hfin h0;have hfin:=hfin rfl;obtain⟨p,us,rfl,hp,hcaps⟩:=hcaps.eY;obtain⟨q,us,rfl,hq,hnil⟩:=hcaps.eY;obtain rfl:=hnil.dk;obtain⟨bp,op,rfl,c1,c2⟩: ∃bp op,p= .pointer (some ⟨bp,op,none⟩)/\rd bp (op+1)=some (.string ⟨sd.toArray⟩)/\rd bp (op+2)=some (.int .i64 at'):=by
  cases hp with
  |pt x o vs' bk of h1 hl hr h=>
   have hv: ∀i,i<3-> ∃v,vs'[i]?=some v:=fun i hi=>⟨_,bJ (by have:vs'.length=3:=hl.symm;omega)⟩
   obtain⟨a1,b1⟩:=hv 1 (by decide)
   obtain⟨a2,b2⟩:=hv 2 (by decide)
   have q1:=h 1 _ _ rfl b1;have q2:=h 2 _ _ rfl b2
   cases q1;cases q2
   exact⟨bk,of,rfl,hr 1 _ b1,hr 2 _ b2⟩
 obtain⟨bq,oq,rfl,c3⟩: ∃bq oq,q= .pointer (some ⟨bq,oq,none⟩)/\rd bq oq=some (.int .i64 a):=by
  cases hq with
  |pt x o vs' bk of h1 hl hr h=>
   obtain⟨v,rfl⟩:=nV.1 (show vs'.length=1 from hl.symm)
   have:=h 0 _ v rfl rfl;cases this;exact⟨bk,of,rfl,hr 0 _ rfl⟩
 refine callsIn_of_wp Tryz.func441 rfl trivial ?_;simp only[Tryz.ntmps441,kO,List.length_cons,List.length_nil,Nat.reduceAdd,Nat.reduceSub,Array.replicate_succ,Array.replicate_zero,List.push_toArray,List.append_toArray,List.nil_append,List.cons_append]
 gi_wp2
 gi_loopw [4] (fun p wr=> ∃b:Nat,p= .int .i64 (b:Int)/\b<=k/\J (H6 sd at' a b (k-b)) wr) (fun p wr=>match p with| .int _ n=>k-n.toNat| _=>0)
 case atStart=>
  exact⟨0,rfl,aH _,h0⟩
 case round=>
  obtain⟨b,rfl,hbk,hJ⟩:=hrel;have hlt:b<k:=by
   rcases nS b k with h|h
   ·exact h
   ·have:k-b=0:=by omega
    rw[this]at hJ;exact(hfin trivial _ hJ).elim
  obtain⟨m,hm⟩: ∃m,k-b=m+1:=⟨k-b-1,by omega⟩
  rw[hm]at hJ;change J ([.s (Bn sd (AF at' a b))]::H6 sd at' a (b+1) m) wr at hJ;have h1:=Gd at' ha;have h2:=Gd a ha2;have h3:=Gd b (by omega)
  have l1:=nC ha;have l2:=nC ha2;have l3:=nC (n:=b) (by omega)
  have hlN:(AF at' a b).length<1000000:=by simp[AF];omega
  refine wpIn_seq (wpIn_block (wpIn_seq ?_));refine wpIn_mono (I5 mixed (rd:=rd) (pvs:=[(1, .pt (.agg [vs, .s sd, .i .i64 at']) 0),(2, .pt (.agg [.i .i64 a]) 0),(4, .i .i64 b)]) (out:=[(5, .s (AF at' a b))]) (je.1 26 _ _ (by cbv)) rfl htr (hrd _ _ hJ) ?hp (CW.start ?aw)) ?cont
  case hp=>
   intro p hm;simp only[bL,iy,or_false]at hm;rcases hm with rfl|rfl|rfl
   ·exact hp
   ·exact hq
   ·exact .i _ _
  case aw=>
   simp only[go_sem,seval];repeat' first|simp only[go_sem,seval,bm]|refine cP h1 ?_|refine cP h2 ?_|refine cP h3 ?_|refine sB ?_|apply xX<;>intro hc|refine⟨oD,?_⟩|exact oD|fail
   all_goals simp[AF]
  case cont=>
   rintro e ⟨t,df⟩ W2 ⟨rfl,⟨hdf,hsz,hbl,hout⟩,hkp⟩;have k0:=hkp.at 0 rfl;have k1:=hkp.at 1 rfl;have k2:=hkp.at 2 rfl;have k3:=hkp.at 3 rfl;have k4:=hkp.at 4 rfl;have k5:=hout _ (dr.2 rfl);have hl:=Ou hsz;simp only[kO,List.length_cons,List.length_nil,dI,Nat.reduceAdd]at hl;rw[show List.range 26=[0,1,2,3,4,5,6,7,8,9,10,11,12,13,14,15,16,17,18,19,20,21,22,23,24,25]from rfl]at hl
   simp only[aS,bH]at hl;change t.getD 0 undef=Value.func (Fn.yield l) #[] #[]at k0;change t.getD 1 undef=Value.pointer (some ⟨bp,op,none⟩)at k1;change t.getD 2 undef=Value.pointer (some ⟨bq,oq,none⟩)at k2;change t.getD 3 undef=undef at k3;change t.getD 4 undef=Value.int .i64 b at k4;change PR _ _ (t.getD 5 undef)at k5;rw[k0,k1,k2,k3,k4]at hl;generalize t.getD 5 undef=v5 at hl k5;cases k5;obtain rfl:df=[]:=hdf;rw[hl];clear hl k0 k1 k2 k3 k4 hsz hout hkp;simp only[Exit.then];have hJ2:=hb _ _ _ hJ hbl;have d4:=hrd _ _ hJ2 _ _ _ (c1)
   gi_wp2
   refine⟨trivial,rfl,(aA.calls (Si hsd hlN) Tryz.call442 W2 rd [_,_] htr (hrd _ _ hJ2) ?_).mono ?_⟩
   ·exact .cons (.s _) (.cons (.s _) .nil)
   rintro x W3 ⟨v,rfl,hbl3,hpr⟩;cases hpr;have hJ3:=hb _ _ _ hJ2 hbl3;obtain⟨fn,tmps,assign,body,hy,hR⟩:=hY _ _ _ W3 hJ3 (.cons (.s _) .nil)
   gi_wp2
   refine⟨rfl,hR.mono ?_⟩;rintro x W4 (⟨rfl,hJ5⟩|⟨rfl,hJx⟩)
   ·have hw3:IntKind.i64.wrap ((b:Int)+1)=(b:Int)+1:=IntWalk.i64_in _ (by omega)
    gi_wp2
    refine⟨⟨b+1,by push_cast;rfl,by omega,by rw[show k-(b+1)=m from by omega];exact hJ5⟩,?_⟩
    ·show k-((b:Int)+1).toNat<k-(b:Int).toNat;omega
   ·gi_wp2
    refine bodyPost_ret (results_none rfl _ _ _) rfl ?_;exact⟨⟨_,rfl⟩, .inr hJx⟩
end Go.Proofs.YtfdjchnefpefbaaGreatDoor
namespace Go.Proofs.YtfdjchnefpefbaaGreatDoor
open Go Go.Dom
set_option maxRecDepth 100000
set_option maxHeartbeats 16000000
theorem NF (l:List Nat) {i:Nat} (h:i<l.length):(wl l).getD i .fn0= .i .u32 (l.getD i 0:Nat):=by
 simp[wl,aR,h]
theorem ND (l:List Nat):List.map AV.v (List.flatMap PV.cells (wl l))=aq .u32 l:=by
 unfold wl aq
 induction l with
 |nil=>rfl
 |cons x l ih=>rw[aS,dQ,dD,ih,aS];rfl
theorem rQ {st:List Nat} (hs:st.length=8) {blk:Bytes} (hb:blk.length=64):aA Tryz.prog 467 [.sl (wl st), .s blk] (.sl (wl (pV st blk))):=by
 have hc:=zc;have hd:=Bz hb;have k0:(wl st).length=8:=by rw[o5,hs]
 have k1:(wl om).length=64:=rfl;have k2:(wl (sched blk)).length=64:=by rw[o5,kU]
 refine eW Tryz.call467 Tryz.func467 ?_;repeat' first|simp only[go_sem,seval,k0,k1,k2,ND]|refine cP hc ?_|refine cP hd ?_|refine sB ?_|apply xX<;>intro hc|refine⟨oD,?_⟩|exact oD|fail
 refine⟨⟨fun x hx=>by obtain⟨c,-,rfl⟩:=bw.1 hx;rfl,fun y hy=>by obtain⟨c,-,rfl⟩:=bw.1 hy;rfl⟩,?_⟩
 refine af (α:=Nat×Nat×Bool×List Nat×Nat) (fun p=>64-p.2.2.2.2) (fun p=>⟨[(0, .v (.sl (wl st))),(5, .v (.sl (wl (sched blk)))),(6, .v (.sl (wl om))),(7, .rs (p.1+1006) p.2.1 0 8 1),(8,E' p.2.2.2.2)],[(p.1+1006,⟨p.2.1,aq .u32 p.2.2.2.1,p.2.2.1,none⟩)],p.1+1011⟩) (fun p=>p.2.2.2.1.length=8/\p.2.2.2.2<=64/\ue (sched blk) (64-p.2.2.2.2) p.2.2.2.1=ue (sched blk) 64 st) (0,1,true,st,0) (fun _=>Nat.le_add_left _ _) ⟨hs,aH _,rfl⟩ ?_ ?_
 ·exact lE
 ·rintro⟨k,ver,gr,v,i⟩ ⟨hv,hi,he⟩ R hR;have hv:v.length=8:=hv;have hi:i<=64:=hi;have he:ue (sched blk) (64-i) v=ue (sched blk) 64 st:=he;obtain⟨a,b,c,d,e,f,g,h,rfl⟩:=Va hv
  by_cases hlt:i<64
  ·have hgo:=fun k'=>hR (k',0,false,Nh (om.getD i 0) ((sched blk).getD i 0) [a,b,c,d,e,f,g,h],i+1) ⟨rfl,hlt,by
    rw[show 64-i=(64-(i+1))+1 by omega,ue,show 63-(64-(i+1))=i by omega]at he;exact he⟩ (by simp;omega)
   have gk:(wl om).getD i .fn0= .i .u32 (om.getD i 0:Nat):=NF _ (by exact hlt)
   have gw:(wl (sched blk)).getD i .fn0= .i .u32 ((sched blk).getD i 0:Nat):=NF _ (by rw[kU];exact hlt)
   have r6:=ik e 6 oC oC;have r11:=ik e 11 oC oC;have r25:=ik e 25 oC oC;have r2:=ik a 2 oC oC;have r13:=ik a 13 oC oC;have r22:=ik a 22 oC oC;simp only[RG,RH,RI,Xz]at hgo⊢;generalize om.getD i 0=ki at hgo gk;generalize (sched blk).getD i 0=wi at hgo gw;clear hR he hv;repeat' first|simp only[go_sem,seval,k1,k2,gk,gw,ow,Ve,Xy]|refine cP r6 ?_|refine cP r11 ?_|refine cP r25 ?_|refine cP r2 ?_|refine cP r13 ?_|refine cP r22 ?_|(refine And.intro (show NW _ _=true from rfl) ?_)|refine sB ?_|apply xX<;>intro hc|refine⟨oD,?_⟩|exact oD|fail
   have hgo:=hgo (k+98);simp only[show k+98+1006=k+1011+2+24+32+21+14 by omega]at hgo
   refine hgo _ ?_
   (refine AS.Le.of (by first|decide|omega) ?_ ?_<;>simp[dM,dL,aK,aj,AV.bd,AV.bd.bdL,u8,ai,ak,ar])
   all_goals first|omega|(erw [TI e];simp only[Xy,Ve,ow,and_self])
  ·have hl:i=64:=by omega
   subst hl;have he:[a,b,c,d,e,f,g,h]=ue (sched blk) 64 st:=he;have hw:pV st blk=List.zipWith ad [a,b,c,d,e,f,g,h] st:=by rw[pV,<-he]
   rw[hw];clear hR he hv hw;obtain⟨s0,s1,s2,s3,s4,s5,s6,s7,rfl⟩:=Va hs;simp only[Xz];have w8:wl [s0,s1,s2,s3,s4,s5,s6,s7]=[.i .u32 (s0:Int), .i .u32 (s1:Int), .i .u32 (s2:Int), .i .u32 (s3:Int), .i .u32 (s4:Int), .i .u32 (s5:Int), .i .u32 (s6:Int), .i .u32 (s7:Int)]:=rfl;repeat' first|simp only[go_sem,seval,k1,k2,ow,w8]|(refine And.intro (show NW _ _=true from rfl) ?_)|(refine ah ?_)|refine sB ?_|apply xX<;>intro hc|refine⟨oD,?_⟩|exact oD|fail
   all_goals rfl
theorem BA {s:Bytes} (hs:s.length<1000000000):aA Tryz.prog 419 [.s s] (.s (lD s)):=by
 have hp:=FA hs;have hL:(pad s).length=(pad s).length/64*64:=Mk s;have hL0:64<=(pad s).length:=by rw[Bt]at hL⊢;omega
 have hL1:(pad s).length<2000000000:=by rw[Bt];omega
 have hsum:lD s=(mN ((pad s).length/64) (pad s) np).flatMap Ue:=rfl;rw[hsum];obtain⟨l,hl⟩: ∃l,l=pad s:=⟨_,rfl⟩;rw[<-hl]at hp hL hL0 hL1⊢;have hc:=rQ (st:=np) rfl (blk:=l.take 64) (by rw[bU];omega)
 have hlt: ∀ _:True,((0:Int)<(l.length:Int))=True:=fun _=>by simp;omega
 refine eW Tryz.call419 Tryz.func419 ?_;refine Vf @hp ?_;refine ah ?_;have h00: ∀ _:True,decide ((0:Int)<(l.length:Int))=true:=fun _=>by simp;omega
 have h01: ∀ _:True,(0:Int)<(l.length:Int):=fun _=>by omega
 repeat' first|simp only[go_sem,seval,h00 trivial,h01 trivial]|(refine ny [1001] hc rfl rfl rfl ?_)|refine sB ?_|apply xX<;>intro hc|refine⟨oD,?_⟩|exact oD|fail
 have e0:mN (l.length/64) l np=mN ((l.length-64)/64) (l.drop 64) (pV np (l.take 64)):=by
  rw[show l.length/64=(l.length-64)/64+1 by omega,mN]
 rw[e0];have hst0:(pV np (l.take 64)).length=8:=nk _ rfl;obtain⟨st0,hs0⟩: ∃x,x=pV np (l.take 64):=⟨_,rfl⟩;rw[<-hs0]at hst0⊢;refine af (α:=Nat×List Nat) (fun p=>l.length-p.1) (fun p=>⟨[(3, .v (.sl (wl p.2))),(4, .v (.s l)),(5,E' p.1)],[],_⟩) (fun p=>p.1<=l.length/\l.length-p.1=(l.length-p.1)/64*64/\p.2.length=8/\mN ((l.length-p.1)/64) (l.drop p.1) p.2=mN ((l.length-64)/64) (l.drop 64) st0) (64,st0) (fun _=>an _) ⟨hL0,by omega,hst0,rfl⟩ ?_ ?_
 ·exact lE
 ·rintro⟨o,st⟩ ⟨ho,hr,hst,he⟩ R hR;have ho:o<=l.length:=ho;have hr:l.length-o=(l.length-o)/64*64:=hr;have hst:st.length=8:=hst;have he:mN ((l.length-o)/64) (l.drop o) st=mN ((l.length-64)/64) (l.drop 64) st0:=he
  by_cases hlt:o<l.length
  ·have f1:o+64<=l.length:=by omega
   have f2:l.length-(o+64)=(l.length-(o+64))/64*64:=by omega
   have hgo:=hR (o+64,pV st ((l.drop o).take 64)) ⟨f1,f2,nk _ hst,by
    rw[show(l.length-o)/64=(l.length-(o+64))/64+1 by omega,mN,vX]at he
    exact he⟩ (by simp;omega)
   have hx:(l.take (o+64)).drop o=(l.drop o).take 64:=by rw[sF];congr 1;omega
   have hc:=rQ hst (blk:=(l.drop o).take 64) (by rw[bU,j7];omega)
   clear hR he hr h00 h01 e0;have t64: ∀ _:True,((o:Int)+64).toNat=o+64:=fun _=>by omega
   repeat' first|simp only[go_sem,seval,hx,t64 trivial]|refine cP hc ?_|refine sB ?_|apply xX<;>intro hc|refine⟨oD,?_⟩|exact oD|fail
   all_goals try refine⟨by omega,?_⟩
   refine hgo _ ?_
   (refine AS.Le.of (by first|decide|omega) ?_ ?_<;>simp[dM,dL,aK,aj,AV.bd,AV.bd.bdL,u8,ai,ak,ar])
   all_goals first|omega|skip
  ·have hl:o=l.length:=by omega
   have he:st=mN ((l.length-64)/64) (l.drop 64) st0:=by rw[<-he,hl,eE];rfl
   rw[<-he];clear hR he;obtain⟨a,b,c,d,e,f,g,i,rfl⟩:=Va hst;have w8:wl [a,b,c,d,e,f,g,i]=[.i .u32 (a:Int), .i .u32 (b:Int), .i .u32 (c:Int), .i .u32 (d:Int), .i .u32 (e:Int), .i .u32 (f:Int), .i .u32 (g:Int), .i .u32 (i:Int)]:=rfl;rw[w8];repeat' first|simp only[go_sem,seval,xD,oE,Ky,Q8]|(refine ah ?_)|refine sB ?_|apply xX<;>intro hc|refine⟨oD,?_⟩|exact oD|fail
   all_goals rfl


abbrev QC:Bytes:=[118,97,114,105,97,98,108,101]
abbrev MY:Bytes:=[98,97,115,101]
abbrev RE:Bytes:=[99,111,101,102,102,105,99,105,101,110,116]
abbrev MZ:Bytes:=[101,113,117,97,116,105,111,110]
abbrev QB:Bytes:=[116,97,114,103,101,116]
abbrev D4:Bytes:=[103,114,111,117,112,115]
abbrev Hz:Bytes:=[98,111,117,110,100,115]
def zD (st:Bytes) (t:fV):Bytes:=FX (jH (jv st QC (mH t.var.toNat)) MY [t.base]) RE [(t.neg,t.abs)]
def zC (st:Bytes) (q:eH):Bytes:=q.terms.foldl zD (jH (jv st MZ (mH q.me.toNat)) QB [q.tgt])
def qV (st:Bytes) (s:dJ):Bytes:=s.eqs.foldl zC (jH (jH st D4 (s.groups.flatMap fun g=>[g.1,g.2])) Hz s.vars)
structure BdS (s:dJ):Prop where
 g: ∃m o,s.groups=[(m,o)]/\m.length<=1000/\o.length<=1000
 v0:s.vars≠[]
 nv:s.vars.length<=64
 v: ∀b∈s.vars,b.length<=1000
 ne:s.eqs.length<=64
 q: ∀q∈s.eqs,0<=q.me/\q.me<100/\q.tgt.length<=1000/\ ∃t,q.terms=[t]/\0<=t.var/\t.var<100/\t.base.length<=1000/\t.abs.length<=1000
theorem xo {α β:Type} (f:β->α->β) (b:β) {l:List α} {i:Nat} (d:α) (h:i<l.length):(l.take (i+1)).foldl f b=f ((l.take i).foldl f b) (l.getD i d):=by
 rw[bu d h,List.foldl_append];rfl
theorem JO {P:Program} [bY P] {Q:AX->AS->Prop} {nx:Nat} {bf:Option (List Nat)} {nn:Nat} {d:Option Nat} {ops:List jd} {k:Nat} {s:AS} {tr:List (Nat×List Nat×List Nat)} {K:List Fr} {nm:Nat} {f:FuncId} {α:Type} {g:α->PV} {z n ver m:Nat} {l:List α} {gr:Bool} {el:Option TypeId} {x y r:PV}
  (he:aA P f [x,y, .sl (l.map g)] r) (hrow:dV g z) (hr:r.flat=true) (hg:aj s.h n=some ⟨ver,bO g l,gr,el⟩) (hm:m=l.length) (hK:RW P Q nx bf nn ops (k+1) (s.um d (.v r) []) (At bf k [n] [] tr) K):
  CR P Q nx bf nn nm (.v (.fn (.func f))) [.v x, .v y, .rs n ver 0 m z] d ops k s tr K:=by
 refine o9 he ?_ hr ?_
 ·simp[aQ,JE hrow hm hg];rfl
 ·have:[AV.v x,AV.v y,AV.rs n ver 0 m z].flatMap (aL (aj s.h) 9)=[n]:=by simp[F5 hrow hm hg];rfl
  rw[this];exact hK

abbrev F0:PV:= .agg [.sl []]
abbrev C0:PV:= .agg [.sl [], .sl []]
theorem G2:aA Tryz.prog 294 [F0] (.tup [E 0, .b true]):=by
 refine eW Tryz.call294 Tryz.func294 ?_;exact z0
theorem GI:aA Tryz.prog 271 [F0,E 0] (E 0):=by
 refine eW Tryz.call271 Tryz.func271 ?_;exact z1 @G2
theorem Ti:aA Tryz.prog 184 [F0] (.tup [.s [],E 0]):=by
 refine eW Tryz.call184 Tryz.func184 ?_;exact z1 @G2
theorem Gj:aA Tryz.prog 162 [C0] (E 0):=by
 refine eW Tryz.call162 Tryz.func162 ?_;exact Xt @GI
end Go.Proofs.YtfdjchnefpefbaaGreatDoor
