/- Part of the proof. -/
import Derived.Test.YtipbhapfacgabaaGreatDoorUH44
set_option linter.all false
set_option maxHeartbeats 16000000
set_option maxRecDepth 100000
namespace Go.Proofs.Tryz
open Go Go.Dom Go.Num
variable {a b:Nat}
theorem jH (n:Nat) (h:n<(2^64)):aF 9 [.i .u64 n] (N n):=by
 have h1:=oN n h;refine eW call9 func9 ?_;exact z1 @h1
theorem nU {n:Int} {b:Bytes} (h0:0<=n) (h:n<(2^64)) (hb:aZ n.toNat=b):aF 9 [.i .u64 n] (.s b):=by
 have:=jH n.toNat oO;rw[o9 h0]at this;rw[<-hb];exact this
theorem Ra (ha:a<(2^64)):aF 19 [.sl [.i .u64 a]] (.sl [N a]):=by
 have a:=jH a ha;refine eW call19 func19 ?_;exact Y2 @a
theorem Iy (ha:a<(2^64)) (hb:b<(2^64)):aF 19 [.sl [.i .u64 a, .i .u64 b]] (.sl [N a,N b]):=by
 have a:=jH a ha;have b:=jH b hb;refine eW call19 func19 ?_;exact Wn @a @b
theorem Iz {c:Nat} (ha:a<(2^64)) (hb:b<(2^64)) (hc:c<(2^64)):aF 19 [.sl [.i .u64 a, .i .u64 b, .i .u64 c]] (.sl [N a,N b,N c]):=by
 have a:=jH a ha;have b:=jH b hb;have c:=jH c hc;refine eW call19 func19 ?_;exact zu3 @a @b @c
def Ww (ms:List Int):List Bytes:=[aZ ((if ms.getD 0 0<0 then 58 else 4)^(ms.getD 0 0).natAbs*((if ms.getD 1 0<0 then 71 else 64)^(ms.getD 1 0).natAbs*1)%77)]
theorem Xw (c:Bytes) (ms:List Int):sG (fz pG oh c) ms=Ww ms:=by
 have i4:iQ 4 77=58:=iR oC oC;have i64:iQ 64 77=71:=iR oC oC;have hb: ∀(x y:Nat) (z:Int),iQ x 77=y->Ml 77 x (jB z)=if z<0 then y else x:=fun x y z h=>by
  unfold Ml jB zs;simp only[bc,h]
 have ht: ∀(b:Bytes) (i:Nat),tz ms (wj b i)=ms.getD i 0:=fun b i=>by
  unfold tz wj;have e:DS (false,([1]:Bytes))=1:=rfl;simp only[e,tD,Int.toNat_natCast]
 unfold sG Ww Lu fz;simp only[br,bH,ht,show((0:Int)).toNat=0 from rfl,iq]
 unfold CC pp;simp only[br,bH,List.foldr_cons,List.foldr_nil,Nat.pow_zero,jO];have e1:num (wj oh.s 0).base=4:=rfl;have e2:num (wj (oh.r.getD 0 []) 1).base=64:=rfl;have e3:num oh.m=77:=rfl;have en: ∀z:Int,num (jB z).2=z.natAbs:=fun z=>uK z
 rw[e1,e2,e3,hb 4 58 _ i4,hb 64 71 _ i64];simp only[en]
def R9 (c sl ctx:Bytes) (s:cY) (w:List Int) (vs:List Bytes) (sd:Bytes):Nat->Nat->Except Int (Bytes×List Int×Nat)
 |0,_=> .error 15
 |k+1,i=>match mA (bZ s.groups) c sl vs sd s.vars i []with
  | .error e=> .error e
  | .ok ms=>
   if Cj (bZ s.groups) c sl s.vars (fR (bZ s.groups) s.vars ms w (iV (J8 ctx s (Ww ms)) c))then .ok (aZ (iV (J8 ctx s (Ww ms)) c),fR (bZ s.groups) s.vars ms w (iV (J8 ctx s (Ww ms)) c),i+s.vars.length)else R9 c sl ctx s w vs sd k (i+s.vars.length)
theorem I9 {c sl ctx:Bytes} {s:cY} (h: ∀ms,sG s ms=Ww ms) {w:List Int} {vs:List Bytes} {sd:Bytes}: ∀n i,qM c sl ctx s w vs sd n i=R9 c sl ctx s w vs sd n i
 |0,i=>rfl
 |n+1,i=>by
  rw[qM,R9];simp only[h,I9 h n];generalize mA (bZ s.groups) c sl vs sd s.vars i []=d
  cases d<;>rfl
def SQ {α:Type}:Except Int α->Bool
 | .ok _=>true
 | .error _=>false
theorem Va {α:Type} {e:Except Int α} (h:SQ e=true): ∃r,e= .ok r:=by
 cases e with
 |ok r=>exact⟨r,rfl⟩
 |error e=>cases h
abbrev Wv:cY:=fz pG oh [25]
theorem Yn:SQ (R9 [2] [100] (oz oh [110]) Wv [1,1] [[1]] [97] 64 1)=true:=by kernel_rfl
theorem SK:yn Wv [1,1]=true:=by
 unfold yn;rw[Xw]
 kernel_rfl
theorem YP:tw Wv [1,1] [[1]] 1=0:=by
 unfold tw;rw[SK]
 kernel_rfl
theorem VY:uR pG oh [1] [110] [[1]] 0=0:=by
 unfold uR;rw[HE]
 kernel_rfl
theorem VV:iB oh [1] [1]=25:=by kernel_rfl
theorem Yf:DP [2] [100] Wv:=xQ Av HG St oC oC (by decide+kernel)
theorem X6: ∃ch rs j,rs.length=2/\Fj pG oh [1] [110] [[1]] [97] 0= .ok ([25],[1],ch,rs,j)/\FJ [2] [100] (oz oh [110]) Wv ch (rs.map jB) [] []=0:=by
 obtain⟨⟨ch,rs,j⟩,h⟩:=Va Yn;have hp:qL [2] [100] (oz oh [110]) Wv [1,1] [[1]] [97] 1= .ok (ch,rs,j):=by
  unfold qL;rw[YP,af oC,I9 (Xw [25])];exact h
 refine⟨ch,rs,j,N3 hp,?_,Uv Yf SK hp⟩;unfold Fj;rw[VY,af oC,show jc [[1]] [97] (0:Int).toNat pG.bl= .ok [1]from rfl,G7,VV,show aZ 25=[25]from rfl]
 have e:qL pG.c pG.sl (oz oh [110]) (fz pG oh [25]) [(num [1]:Int),(num [1]:Int)] [[1]] [97] (((0:Int).toNat+1:Nat):Int)= .ok (ch,rs,j):=hp;rw[e,G8]
theorem Xr:Et pG oh [1] [1] [53] [7] [1] [[3],[5]]=0:=by
 unfold Et Ll;rw[HE]
 kernel_rfl
theorem Qz:aF 18 [] (nK pG oh [7] [11]):=by
 have n2:aF 9 [.i .u64 2] (.s [2]):=nU oC oC rfl;have n100:aF 9 [.i .u64 100] (.s [100]):=nU oC oC rfl;have n9:aF 9 [.i .u64 9] (.s [9]):=nU oC oC rfl;have n6:aF 9 [.i .u64 6] (.s [6]):=nU oC oC rfl;have n3:aF 9 [.i .u64 3] (.s [3]):=nU oC oC rfl;have n10:aF 9 [.i .u64 10] (.s [10]):=nU oC oC rfl;have n15:aF 9 [.i .u64 15] (.s [15]):=nU oC oC rfl;have n107:aF 9 [.i .u64 107] (.s [107]):=nU oC oC rfl;have n53:aF 9 [.i .u64 53] (.s [53]):=nU oC oC rfl;have n4:aF 9 [.i .u64 4] (.s [4]):=nU oC oC rfl;have n16:aF 9 [.i .u64 16] (.s [16]):=nU oC oC rfl;have n77:aF 9 [.i .u64 77] (.s [77]):=nU oC oC rfl;have n7:aF 9 [.i .u64 7] (.s [7]):=nU oC oC rfl;have n11:aF 9 [.i .u64 11] (.s [11]):=nU oC oC rfl;have m3:aF 19 [.sl [.i .u64 64, .i .u64 23, .i .u64 1]] (.sl [.s [64], .s [23], .s [1]]):=Iz (a:=64) (b:=23) (c:=1) oC oC oC;unfold nK pG oh;simp only[br,bH];refine eW call18 func18 ?_;repeat' first|simp only[go_sem,seval]|refine cP n2 ?_|refine cP n100 ?_|refine cP n9 ?_|refine cP n6 ?_|refine cP n3 ?_|refine cP n10 ?_|refine cP n15 ?_|refine cP n107 ?_|refine cP n53 ?_|refine cP n4 ?_|refine cP n16 ?_|refine cP n77 ?_|refine cP n7 ?_|refine cP n11 ?_|refine cP m3 ?_|refine oE ?_|apply xX<;>intro hc
 all_goals rfl
theorem lT {P:Program} [ct P] {I:TypeId->Option TypeInfo} {n:Nat} {a b:Code} {x y:SC} (ha:j3 P I n a=some x) (hb:j3 P I n b=some y):j3 P I n (.seq a b)=some (.seq x y):=by
 rw[j3,ha,hb]
theorem Ga:aF 6 [] (.b true):=by
 obtain⟨ch,rs,j,hl,hO,hz⟩:=X6;have rq:=zw (p:=pG) (k:=oh) Av oC oC oC [1] [110] (vs:=[[1]]) (sd:=[97]) (a:=0) oC oC;rw[hO]at rq;have hr1:(rs.map jB).map fw=rs.map Zp:=WY rs;have hck:aF 62 [pG.pv,oh.pv,(zU.mk [25] [110] ch (rs.map jB) [] []).pv] (E 0):=by
  have h:=JC Av HG St oC oC oC oC (r:=⟨[25],[110],ch,rs.map jB,[],[]⟩) ⟨by simp[hl],by simp,by simp,by simp⟩
  have e:AH pG oh ⟨[25],[110],ch,rs.map jB,[],[]⟩=0:=by
   unfold AH;dsimp only;rw[af oC,af (by simp),af (by decide+kernel)]
   exact hz
  rwa[e]at h
 have hi:=QS rfl hck;have hF:=J2 (p:=pG) (k:=oh) Av oC oC oC [1] [1] [53] [7] [1] (l:=[[3],[5]]) oC [] 0;unfold UE at hF;rw[Xr,ah rfl,show l8 [1] [1]=([2],0) by decide+kernel]at hF
 have ex:=Qz;have hs:=KP [[1],[3],[5]] oC;have n1:aF 9 [.i .u64 1] (.s [1]):=nU oC oC rfl;have n25:aF 9 [.i .u64 25] (.s [25]):=nU oC oC rfl;have n53:aF 9 [.i .u64 53] (.s [53]):=nU oC oC rfl;have n7:aF 9 [.i .u64 7] (.s [7]):=nU oC oC rfl;have n2:aF 9 [.i .u64 2] (.s [2]):=nU oC oC rfl;have m1:aF 19 [.sl [.i .u64 1]] (.sl [.s [1]]):=Ra (a:=1) oC;have m2:aF 19 [.sl [.i .u64 3, .i .u64 5]] (.sl [.s [3], .s [5]]):=Iy (a:=3) (b:=5) oC oC;have m3:aF 19 [.sl [.i .u64 4, .i .u64 1]] (.sl [.s [4], .s [1]]):=Iy (a:=4) (b:=1) oC oC;have m4:aF 19 [.sl [.i .u64 1, .i .u64 3, .i .u64 5]] (.sl [.s [1], .s [3], .s [5]]):=Iz (a:=1) (b:=3) (c:=5) oC oC oC;simp only[Ai,zU.pv,Py,nK,Js,pG,oh,cz.pv,Key.pv,br,bH,hr1]at rq hi hF ex hs;generalize rs.map Zp=L at*;generalize ((j:Nat):Int)=jj at*;clear hO hz hck hl hr1;refine eW call6 func6 ?_ (hc:=lT (by cbv) (lT (by cbv) (lT (by cbv) (lT (by cbv) (lT (by cbv) (lT (by cbv) (by cbv)))))))
 simp only[go_sem,seval];repeat' first|simp only[go_sem,seval,uc,kR]|refine cP ex ?_|refine cP n1 ?_|refine cP m1 ?_|refine cP rq ?_|refine cP m2 ?_|refine cP m3 ?_|refine cP hi ?_|refine cP hF ?_|refine cP n25 ?_|refine cP n53 ?_|refine cP n7 ?_|refine cP m4 ?_|refine cP hs ?_|refine cP n2 ?_|refine oE ?_|apply xX<;>intro hc
 all_goals rfl
