/- Part of the proof. -/
import Derived.Test.YtnhhajlcpjgkjaaGreatDoorUC43
set_option linter.all false
set_option maxHeartbeats 16000000
set_option maxRecDepth 100000
namespace Go.Proofs.Tryz
open Go Go.Dom Go.Num
variable {a b:Nat}
theorem mj (n:Nat) (h:n<(2^64)):aE 23 [.i .u64 n] (N n):=by
 have h1:=jS n h;refine eW call23 func23 ?_;exact z1 @h1
theorem ou {n:Int} {b:Bytes} (h0:0<=n) (h:n<(2^64)) (hb:bR n.toNat=b):aE 23 [.i .u64 n] (.s b):=by
 have:=mj n.toNat oO;rw[oN h0]at this;rw[<-hb];exact this
theorem Qg (ha:a<(2^64)):aE 24 [.sl [.i .u64 a]] (.sl [N a]):=by
 have a:=mj a ha;refine eW call24 func24 ?_;exact YO @a
theorem H2 (ha:a<(2^64)) (hb:b<(2^64)):aE 24 [.sl [.i .u64 a, .i .u64 b]] (.sl [N a,N b]):=by
 have a:=mj a ha;have b:=mj b hb;refine eW call24 func24 ?_;exact Sl @a @b
theorem H3 {c:Nat} (ha:a<(2^64)) (hb:b<(2^64)) (hc:c<(2^64)):aE 24 [.sl [.i .u64 a, .i .u64 b, .i .u64 c]] (.sl [N a,N b,N c]):=by
 have a:=mj a ha;have b:=mj b hb;have c:=mj c hc;refine eW call24 func24 ?_;exact Z1 @a @b @c
def V9 (ms:List Int):List Bytes:=[bR ((if ms.getD 0 0<0 then 58 else 4)^(ms.getD 0 0).natAbs*((if ms.getD 1 0<0 then 71 else 64)^(ms.getD 1 0).natAbs*1)%77)]
theorem Xc (c:Bytes) (ms:List Int):uj (e9 ph nY c) ms=V9 ms:=by
 have i4:gH 4 77=58:=gI oC oC;have i64:gH 64 77=71:=gI oC oC;have hb: ∀(x y:Nat) (z:Int),gH x 77=y->Lq 77 x (je z)=if z<0 then y else x:=fun x y z h=>by
  unfold Lq je zs;simp only[bM,h]
 have ht: ∀(b:Bytes) (i:Nat),tz ms (vL b i)=ms.getD i 0:=fun b i=>by
  unfold tz vL;have e:Fj (false,([1]:Bytes))=1:=rfl;simp only[e,wI,Int.toNat_natCast]
 unfold uj V9 Mg e9;simp only[bV,bj,ht,show((0:Int)).toNat=0 from rfl,gg]
 unfold yE pp;simp only[bV,bj,List.foldr_cons,List.foldr_nil,Nat.pow_zero,iq];have e1:num (vL nY.s 0).base=4:=rfl;have e2:num (vL (nY.r.getD 0 []) 1).base=64:=rfl;have e3:num nY.m=77:=rfl;have en: ∀z:Int,num (je z).2=z.natAbs:=fun z=>uy z
 rw[e1,e2,e3,hb 4 58 _ i4,hb 64 71 _ i64];simp only[en]
def Re (c sl ctx:Bytes) (s:cK) (w:List Int) (vs:List Bytes) (sd:Bytes):Nat->Nat->Except Int (Bytes×List Int×Nat)
 |0,_=> .error 15
 |k+1,i=>match nu (bK s.groups) c sl vs sd s.vars i []with
  | .error e=> .error e
  | .ok ms=>
   if BP (bK s.groups) c sl s.vars (fA (bK s.groups) s.vars ms w (gK (xQ ctx s (V9 ms)) c))then .ok (bR (gK (xQ ctx s (V9 ms)) c),fA (bK s.groups) s.vars ms w (gK (xQ ctx s (V9 ms)) c),i+s.vars.length)else Re c sl ctx s w vs sd k (i+s.vars.length)
theorem Iy {c sl ctx:Bytes} {s:cK} (h: ∀ms,uj s ms=V9 ms) {w:List Int} {vs:List Bytes} {sd:Bytes}: ∀n i,sZ c sl ctx s w vs sd n i=Re c sl ctx s w vs sd n i
 |0,i=>rfl
 |n+1,i=>by
  rw[sZ,Re];simp only[h,Iy h n];generalize nu (bK s.groups) c sl vs sd s.vars i []=d
  cases d<;>rfl
def RP {α:Type}:Except Int α->Bool
 | .ok _=>true
 | .error _=>false
theorem UA {α:Type} {e:Except Int α} (h:RP e=true): ∃r,e= .ok r:=by
 cases e with
 |ok r=>exact⟨r,rfl⟩
 |error e=>cases h
abbrev V5:cK:=e9 ph nY [25]
theorem XZ:RP (Re [2] [100] (kY nY [110]) V5 [1,1] [[1]] [97] 64 1)=true:=by kernel_rfl
theorem RK:BL V5 [1,1]=true:=by
 unfold BL;rw[Xc]
 kernel_rfl
theorem YB:vO V5 [1,1] [[1]] 1=0:=by
 unfold vO;rw[RK]
 kernel_rfl
theorem Vv:yT ph nY [1] [110] [[1]] 0=0:=by
 unfold yT;rw[Hc]
 kernel_rfl
theorem Vs:vI nY [1] [1]=25:=by kernel_rfl
theorem XQ:uV [2] [100] V5:=sw Ad He Ru oC oC (by decide+kernel)
theorem XL: ∃ch rs j,rs.length=2/\QS ph nY [1] [110] [[1]] [97] 0= .ok ([25],[1],ch,rs,j)/\zo [2] [100] (kY nY [110]) V5 ch (rs.map je) [] []=0:=by
 obtain⟨⟨ch,rs,j⟩,h⟩:=UA XZ;have hp:sN [2] [100] (kY nY [110]) V5 [1,1] [[1]] [97] 1= .ok (ch,rs,j):=by
  unfold sN;rw[YB,af oC,Iy (Xc [25])];exact h
 refine⟨ch,rs,j,U5 hp,?_,TE XQ RK hp⟩;unfold QS;rw[Vv,af oC,show kK [[1]] [97] (0:Int).toNat ph.bl= .ok [1]from rfl,Nk,Vs,show bR 25=[25]from rfl]
 have e:sN ph.c ph.sl (kY nY [110]) (e9 ph nY [25]) [(num [1]:Int),(num [1]:Int)] [[1]] [97] (((0:Int).toNat+1:Nat):Int)= .ok (ch,rs,j):=hp;rw[e,Nn]
theorem W6:zM ph nY [1] [1] [53] [7] [1] [[3],[5]]=0:=by
 unfold zM Cz;rw[Hc]
 kernel_rfl
theorem PG:aE 22 [] (jg ph nY [7] [11]):=by
 have n2:aE 23 [.i .u64 2] (.s [2]):=ou oC oC rfl;have n100:aE 23 [.i .u64 100] (.s [100]):=ou oC oC rfl;have n9:aE 23 [.i .u64 9] (.s [9]):=ou oC oC rfl;have n6:aE 23 [.i .u64 6] (.s [6]):=ou oC oC rfl;have n3:aE 23 [.i .u64 3] (.s [3]):=ou oC oC rfl;have n10:aE 23 [.i .u64 10] (.s [10]):=ou oC oC rfl;have n15:aE 23 [.i .u64 15] (.s [15]):=ou oC oC rfl;have n107:aE 23 [.i .u64 107] (.s [107]):=ou oC oC rfl;have n53:aE 23 [.i .u64 53] (.s [53]):=ou oC oC rfl;have n4:aE 23 [.i .u64 4] (.s [4]):=ou oC oC rfl;have n16:aE 23 [.i .u64 16] (.s [16]):=ou oC oC rfl;have n77:aE 23 [.i .u64 77] (.s [77]):=ou oC oC rfl;have n7:aE 23 [.i .u64 7] (.s [7]):=ou oC oC rfl;have n11:aE 23 [.i .u64 11] (.s [11]):=ou oC oC rfl;have m3:aE 24 [.sl [.i .u64 64, .i .u64 23, .i .u64 1]] (.sl [.s [64], .s [23], .s [1]]):=H3 (a:=64) (b:=23) (c:=1) oC oC oC;unfold jg ph nY;simp only[bV,bj];refine eW call22 func22 ?_;repeat' first|simp only[go_sem,seval]|refine cP n2 ?_|refine cP n100 ?_|refine cP n9 ?_|refine cP n6 ?_|refine cP n3 ?_|refine cP n10 ?_|refine cP n15 ?_|refine cP n107 ?_|refine cP n53 ?_|refine cP n4 ?_|refine cP n16 ?_|refine cP n77 ?_|refine cP n7 ?_|refine cP n11 ?_|refine cP m3 ?_|refine oE ?_|apply xX<;>intro hc
 all_goals rfl
theorem lH {P:Program} [cE P] {I:TypeId->Option TypeInfo} {n:Nat} {a b:Code} {x y:SC} (ha:jI P I n a=some x) (hb:jI P I n b=some y):jI P I n (.seq a b)=some (.seq x y):=by
 rw[jI,ha,hb]
theorem xt:aE 8 [] (.b true):=by
 obtain⟨ch,rs,j,hl,hO,hz⟩:=XL;have rq:=GC (p:=ph) (k:=nY) Ad oC oC oC [1] [110] (vs:=[[1]]) (sd:=[97]) (a:=0) oC oC;rw[hO]at rq;have hr1:(rs.map je).map cU=rs.map Zp:=Wy rs;have hck:aE 65 [ph.pv,nY.pv,(nF.mk [25] [110] ch (rs.map je) [] []).pv] (E 0):=by
  have h:=Ak Ad He Ru oC oC oC oC (r:=⟨[25],[110],ch,rs.map je,[],[]⟩) ⟨by simp[hl],by simp,by simp,by simp⟩
  have e:qU ph nY ⟨[25],[110],ch,rs.map je,[],[]⟩=0:=by
   unfold qU;dsimp only;rw[af oC,af (by simp),af (by decide+kernel)]
   exact hz
  rwa[e]at h
 have hi:=PZ rfl hck;have hF:=At (p:=ph) (k:=nY) Ad oC oC oC [1] [1] [53] [7] [1] (l:=[[3],[5]]) oC [] 0;unfold Js at hF;rw[W6,ah rfl,show iC [1] [1]=([2],0) by decide+kernel]at hF
 have ex:=PG;have hs:=uG [[1],[3],[5]] oC;have n1:aE 23 [.i .u64 1] (.s [1]):=ou oC oC rfl;have n25:aE 23 [.i .u64 25] (.s [25]):=ou oC oC rfl;have n53:aE 23 [.i .u64 53] (.s [53]):=ou oC oC rfl;have n7:aE 23 [.i .u64 7] (.s [7]):=ou oC oC rfl;have n2:aE 23 [.i .u64 2] (.s [2]):=ou oC oC rfl;have m1:aE 24 [.sl [.i .u64 1]] (.sl [.s [1]]):=Qg (a:=1) oC;have m2:aE 24 [.sl [.i .u64 3, .i .u64 5]] (.sl [.s [3], .s [5]]):=H2 (a:=3) (b:=5) oC oC;have m3:aE 24 [.sl [.i .u64 4, .i .u64 1]] (.sl [.s [4], .s [1]]):=H2 (a:=4) (b:=1) oC oC;have m4:aE 24 [.sl [.i .u64 1, .i .u64 3, .i .u64 5]] (.sl [.s [1], .s [3], .s [5]]):=H3 (a:=1) (b:=3) (c:=5) oC oC oC;simp only[No,nF.pv,zw,jg,IT,ph,nY,cq.pv,Key.pv,bV,bj,hr1]at rq hi hF ex hs;generalize rs.map Zp=L at*;generalize ((j:Nat):Int)=jj at*;clear hO hz hck hl hr1;refine eW call8 func8 ?_ (hc:=lH (by cbv) (lH (by cbv) (lH (by cbv) (lH (by cbv) (lH (by cbv) (lH (by cbv) (by cbv)))))))
 simp only[go_sem,seval];repeat' first|simp only[go_sem,seval,rW,fW]|refine cP ex ?_|refine cP n1 ?_|refine cP m1 ?_|refine cP rq ?_|refine cP m2 ?_|refine cP m3 ?_|refine cP hi ?_|refine cP hF ?_|refine cP n25 ?_|refine cP n53 ?_|refine cP n7 ?_|refine cP m4 ?_|refine cP hs ?_|refine cP n2 ?_|refine oE ?_|apply xX<;>intro hc
 all_goals rfl
