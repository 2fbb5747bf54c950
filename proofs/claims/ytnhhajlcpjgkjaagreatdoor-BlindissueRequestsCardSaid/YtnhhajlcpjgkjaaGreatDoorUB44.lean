/- Part of the proof. -/
import Derived.Test.YtnhhajlcpjgkjaaGreatDoorUB43
set_option linter.all false
set_option maxHeartbeats 16000000
set_option maxRecDepth 100000
namespace Go.Proofs.Tryz
open Go Go.Dom Go.Num
variable {a b:Nat}
theorem mQ (n:Nat) (h:n<(2^64)):aE 23 [.i .u64 n] (N n):=by
 have h1:=kB n h;refine eW call23 func23 ?_;exact z1 @h1
theorem px {n:Int} {b:Bytes} (h0:0<=n) (h:n<(2^64)) (hb:bQ n.toNat=b):aE 23 [.i .u64 n] (.s b):=by
 have:=mQ n.toNat oO;rw[pP h0]at this;rw[<-hb];exact this
theorem Sa (ha:a<(2^64)):aE 24 [.sl [.i .u64 a]] (.sl [N a]):=by
 have a:=mQ a ha;refine eW call24 func24 ?_;exact Xn @a
theorem Jk (ha:a<(2^64)) (hb:b<(2^64)):aE 24 [.sl [.i .u64 a, .i .u64 b]] (.sl [N a,N b]):=by
 have a:=mQ a ha;have b:=mQ b hb;refine eW call24 func24 ?_;exact Tm @a @b
theorem Jl {c:Nat} (ha:a<(2^64)) (hb:b<(2^64)) (hc:c<(2^64)):aE 24 [.sl [.i .u64 a, .i .u64 b, .i .u64 c]] (.sl [N a,N b,N c]):=by
 have a:=mQ a ha;have b:=mQ b hb;have c:=mQ c hc;refine eW call24 func24 ?_;exact zu3 @a @b @c
def Xw (ms:List Int):List Bytes:=[bQ ((if ms.getD 0 0<0 then 58 else 4)^(ms.getD 0 0).natAbs*((if ms.getD 1 0<0 then 71 else 64)^(ms.getD 1 0).natAbs*1)%77)]
theorem Yw (c:Bytes) (ms:List Int):oJ (e9 pZ o6 c) ms=Xw ms:=by
 have i4:gV 4 77=58:=gW oC oC;have i64:gV 64 77=71:=gW oC oC;have hb: ∀(x y:Nat) (z:Int),gV x 77=y->MI 77 x (fQ z)=if z<0 then y else x:=fun x y z h=>by
  unfold MI fQ zs;simp only[bw,h]
 have ht: ∀(b:Bytes) (i:Nat),tz ms (xC b i)=ms.getD i 0:=fun b i=>by
  unfold tz xC;have e:uY (false,([1]:Bytes))=1:=rfl;simp only[e,uO,Int.toNat_natCast]
 unfold oJ Xw I5 e9;simp only[bV,ca,ht,show((0:Int)).toNat=0 from rfl,gO]
 unfold wc pp;simp only[bV,ca,List.foldr_cons,List.foldr_nil,Nat.pow_zero,iI];have e1:num (xC o6.s 0).base=4:=rfl;have e2:num (xC (o6.r.getD 0 []) 1).base=64:=rfl;have e3:num o6.m=77:=rfl;have en: ∀z:Int,num (fQ z).2=z.natAbs:=fun z=>qE z
 rw[e1,e2,e3,hb 4 58 _ i4,hb 64 71 _ i64];simp only[en]
def Td (c sl ctx:Bytes) (s:cG) (w:List Int) (vs:List Bytes) (sd:Bytes):Nat->Nat->Except Int (Bytes×List Int×Nat)
 |0,_=> .error 15
 |k+1,i=>match iO (bj s.groups) c sl vs sd s.vars i []with
  | .error e=> .error e
  | .ok ms=>
   if vL (bj s.groups) c sl s.vars (dA (bj s.groups) s.vars ms w (gK (xp ctx s (Xw ms)) c))then .ok (bQ (gK (xp ctx s (Xw ms)) c),dA (bj s.groups) s.vars ms w (gK (xp ctx s (Xw ms)) c),i+s.vars.length)else Td c sl ctx s w vs sd k (i+s.vars.length)
theorem JN {c sl ctx:Bytes} {s:cG} (h: ∀ms,oJ s ms=Xw ms) {w:List Int} {vs:List Bytes} {sd:Bytes}: ∀n i,qg c sl ctx s w vs sd n i=Td c sl ctx s w vs sd n i
 |0,i=>rfl
 |n+1,i=>by
  rw[qg,Td];simp only[h,JN h n];generalize iO (bj s.groups) c sl vs sd s.vars i []=d
  cases d<;>rfl
def TO {α:Type}:Except Int α->Bool
 | .ok _=>true
 | .error _=>false
theorem VU {α:Type} {e:Except Int α} (h:TO e=true): ∃r,e= .ok r:=by
 cases e with
 |ok r=>exact⟨r,rfl⟩
 |error e=>cases h
abbrev Xs:cG:=e9 pZ o6 [25]
theorem Zn:TO (Td [2] [100] (jH o6 [110]) Xs [1,1] [[1]] [97] 64 1)=true:=by kernel_rfl
theorem TI:xr Xs [1,1]=true:=by
 unfold xr;rw[Yw]
 kernel_rfl
theorem Z0:wN Xs [1,1] [[1]] 1=0:=by
 unfold wN;rw[TI]
 kernel_rfl
theorem WO:oi pZ o6 [1] [110] [[1]] 0=0:=by
 unfold oi;rw[Is]
 kernel_rfl
theorem WN:qe o6 [1] [1]=25:=by kernel_rfl
theorem Zh:u7 [2] [100] Xs:=qt Bw Iu Tq oC oC (by decide+kernel)
theorem Zc: ∃ch rs j,rs.length=2/\wB pZ o6 [1] [110] [[1]] [97] 0= .ok ([25],[1],ch,rs,j)/\AL [2] [100] (jH o6 [110]) Xs ch (rs.map fQ) [] []=0:=by
 obtain⟨⟨ch,rs,j⟩,h⟩:=VU Zn;have hp:qd [2] [100] (jH o6 [110]) Xs [1,1] [[1]] [97] 1= .ok (ch,rs,j):=by
  unfold qd;rw[Z0,af oC,JN (Yw [25])];exact h
 refine⟨ch,rs,j,OK hp,?_,Vo Zh TI hp⟩;unfold wB;rw[WO,af oC,show ij [[1]] [97] (0:Int).toNat pZ.bl= .ok [1]from rfl,Ar,WN,show bQ 25=[25]from rfl]
 have e:qd pZ.c pZ.sl (jH o6 [110]) (e9 pZ o6 [25]) [(num [1]:Int),(num [1]:Int)] [[1]] [97] (((0:Int).toNat+1:Nat):Int)= .ok (ch,rs,j):=hp;rw[e,At]
theorem Yp:Bh pZ o6 [1] [1] [53] [7] [1] [[3],[5]]=0:=by
 unfold Bh DL;rw[Is]
 kernel_rfl
theorem Rz:aE 22 [] (gH pZ o6 [7] [11]):=by
 have n2:aE 23 [.i .u64 2] (.s [2]):=px oC oC rfl;have n100:aE 23 [.i .u64 100] (.s [100]):=px oC oC rfl;have n9:aE 23 [.i .u64 9] (.s [9]):=px oC oC rfl;have n6:aE 23 [.i .u64 6] (.s [6]):=px oC oC rfl;have n3:aE 23 [.i .u64 3] (.s [3]):=px oC oC rfl;have n10:aE 23 [.i .u64 10] (.s [10]):=px oC oC rfl;have n15:aE 23 [.i .u64 15] (.s [15]):=px oC oC rfl;have n107:aE 23 [.i .u64 107] (.s [107]):=px oC oC rfl;have n53:aE 23 [.i .u64 53] (.s [53]):=px oC oC rfl;have n4:aE 23 [.i .u64 4] (.s [4]):=px oC oC rfl;have n16:aE 23 [.i .u64 16] (.s [16]):=px oC oC rfl;have n77:aE 23 [.i .u64 77] (.s [77]):=px oC oC rfl;have n7:aE 23 [.i .u64 7] (.s [7]):=px oC oC rfl;have n11:aE 23 [.i .u64 11] (.s [11]):=px oC oC rfl;have m3:aE 24 [.sl [.i .u64 64, .i .u64 23, .i .u64 1]] (.sl [.s [64], .s [23], .s [1]]):=Jl (a:=64) (b:=23) (c:=1) oC oC oC;unfold gH pZ o6;simp only[bV,ca];refine eW call22 func22 ?_;repeat' first|simp only[go_sem,seval]|refine cP n2 ?_|refine cP n100 ?_|refine cP n9 ?_|refine cP n6 ?_|refine cP n3 ?_|refine cP n10 ?_|refine cP n15 ?_|refine cP n107 ?_|refine cP n53 ?_|refine cP n4 ?_|refine cP n16 ?_|refine cP n77 ?_|refine cP n7 ?_|refine cP n11 ?_|refine cP m3 ?_|refine oE ?_|apply xX<;>intro hc
 all_goals rfl
theorem mz {P:Program} [cM P] {I:TypeId->Option TypeInfo} {n:Nat} {a b:Code} {x y:SC} (ha:j7 P I n a=some x) (hb:j7 P I n b=some y):j7 P I n (.seq a b)=some (.seq x y):=by
 rw[j7,ha,hb]
theorem sy:aE 8 [] (.b true):=by
 obtain⟨ch,rs,j,hl,hO,hz⟩:=Zc;have rq:=Au (p:=pZ) (k:=o6) Bw oC oC oC [1] [110] (vs:=[[1]]) (sd:=[97]) (a:=0) oC oC;rw[hO]at rq;have hr1:(rs.map fQ).map cI=rs.map Zp:=Qg rs;have hck:aE 65 [pZ.pv,o6.pv,(ow.mk [25] [110] ch (rs.map fQ) [] []).pv] (E 0):=by
  have h:=BD Bw Iu Tq oC oC oC oC (r:=⟨[25],[110],ch,rs.map fQ,[],[]⟩) ⟨by simp[hl],by simp,by simp,by simp⟩
  have e:sh pZ o6 ⟨[25],[110],ch,rs.map fQ,[],[]⟩=0:=by
   unfold sh;dsimp only;rw[af oC,af (by simp),af (by decide+kernel)]
   exact hz
  rwa[e]at h
 have hi:=RP rfl hck;have hF:=BN (p:=pZ) (k:=o6) Bw oC oC oC [1] [1] [53] [7] [1] (l:=[[3],[5]]) oC [] 0;unfold KG at hF;rw[Yp,ah rfl,show iR [1] [1]=([2],0) by decide+kernel]at hF
 have ex:=Rz;have hs:=rp [[1],[3],[5]] oC;have n1:aE 23 [.i .u64 1] (.s [1]):=px oC oC rfl;have n25:aE 23 [.i .u64 25] (.s [25]):=px oC oC rfl;have n53:aE 23 [.i .u64 53] (.s [53]):=px oC oC rfl;have n7:aE 23 [.i .u64 7] (.s [7]):=px oC oC rfl;have n2:aE 23 [.i .u64 2] (.s [2]):=px oC oC rfl;have m1:aE 24 [.sl [.i .u64 1]] (.sl [.s [1]]):=Sa (a:=1) oC;have m2:aE 24 [.sl [.i .u64 3, .i .u64 5]] (.sl [.s [3], .s [5]]):=Jk (a:=3) (b:=5) oC oC;have m3:aE 24 [.sl [.i .u64 4, .i .u64 1]] (.sl [.s [4], .s [1]]):=Jk (a:=4) (b:=1) oC oC;have m4:aE 24 [.sl [.i .u64 1, .i .u64 3, .i .u64 5]] (.sl [.s [1], .s [3], .s [5]]):=Jl (a:=1) (b:=3) (c:=5) oC oC oC;simp only[uo,ow.pv,AU,gH,J7,pZ,o6,cA.pv,Key.pv,bV,ca,hr1]at rq hi hF ex hs;generalize rs.map Zp=L at*;generalize ((j:Nat):Int)=jj at*;clear hO hz hck hl hr1;refine eW call8 func8 ?_ (hc:=mz (by cbv) (mz (by cbv) (mz (by cbv) (mz (by cbv) (mz (by cbv) (mz (by cbv) (by cbv)))))))
 simp only[go_sem,seval];repeat' first|simp only[go_sem,seval,rQ,dt]|refine cP ex ?_|refine cP n1 ?_|refine cP m1 ?_|refine cP rq ?_|refine cP m2 ?_|refine cP m3 ?_|refine cP hi ?_|refine cP hF ?_|refine cP n25 ?_|refine cP n53 ?_|refine cP n7 ?_|refine cP m4 ?_|refine cP hs ?_|refine cP n2 ?_|refine oE ?_|apply xX<;>intro hc
 all_goals rfl
