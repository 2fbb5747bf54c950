/- Part of the proof. -/
import Derived.Test.YtkmahpcpmgedkaaGreatDoorFB43
set_option linter.all false
set_option maxHeartbeats 16000000
set_option maxRecDepth 100000
namespace Go.Proofs.Tryz
open Go Go.Dom Go.Num
def AP:CK:=⟨[99],[23],[11],[4],[12],2,[[8],[13],[1]]⟩
def U5 (q:Nat) (pts inv:List Nat) (x i:Nat):Nat:=(xG q (nI (tN (Lp q (nI pts) fun k=>(((uv pts.length i).getD k 0*inv.getD k 0%q:Nat):Int)))) x).toNat
theorem Nu {q:Nat} {pts inv:List Nat} (h: ∀k,k<pts.length->fR (wZ q (pts.getD k 0:Nat) ((nI pts).eraseIdx k)).toNat q=inv.getD k 0) (x i:Nat):oF q pts x i=U5 q pts inv x i:=by
 have hf:fN q pts (uv pts.length i)=fun k=>(((uv pts.length i).getD k 0*inv.getD k 0%q:Nat):Int):=by
  funext k
  unfold fN
  by_cases hk:k<pts.length
  ·rw[h k hk]
  ·have:(uv pts.length i).getD k 0=0:=CY 0 _ k (by simp[uv];omega)
   rw[this,pE,pE]
 unfold oF GQ sD;rw[hf];rfl
theorem H6 {m q:Nat} {pts inv nh:List Nat} (h: ∀k,k<pts.length->fR (wZ q (pts.getD k 0:Nat) ((nI pts).eraseIdx k)).toNat q=inv.getD k 0) (x:Nat):Lz m q pts nh x=B5 m (nh.zip ((List.range pts.length).map fun i=>(false,aX (U5 q pts inv x i)))):=by
 unfold Lz tB;simp only[Nu h]
theorem Xx: ∀k,k<[0,1].length->fR (wZ (11:Nat) (([0,1]:List Nat).getD k 0:Nat) ((nI [0,1]).eraseIdx k)).toNat 11=([10,1]:List Nat).getD k 0:=by
 intro k hk
 match k with
 |0=>exact jd oC oC
 |1=>exact jd oC oC
 |k+2=>exact aW hk (by simp)
theorem Xy: ∀k,k<[1,3].length->fR (wZ (11:Nat) (([1,3]:List Nat).getD k 0:Nat) ((nI [1,3]).eraseIdx k)).toNat 11=([5,6]:List Nat).getD k 0:=by
 intro k hk
 match k with
 |0=>exact jd oC oC
 |1=>exact jd oC oC
 |k+2=>exact aW hk (by simp)
theorem ZD (x:Nat):AP.at x=B5 23 ([12,8].zip ((List.range 2).map fun i=>(false,aX (U5 11 [0,1] [10,1] x i)))):=H6 Xx x
theorem ZE:Lz 23 11 [1,3] [18,1] 0=6:=(H6 Xy 0).trans (by kernel_rfl)
theorem Ri:JR AP=true:=by
 unfold JR;simp only[ZD]
 kernel_rfl
theorem zH:fp AP=0:=by
 unfold fp;rw[Ri]
 kernel_rfl
theorem Xq:UZ [99] [23] [11] [4] 2 3 [[4],[2]] [] 0= .ok (12,[7,9,0],2):=by kernel_rfl
def isOk {α:Type}:Except Int α->Bool
 | .ok _=>true
 | .error _=>false
theorem Tp {α:Type} {e:Except Int α} (h:isOk e=true): ∃r,e= .ok r:=by
 cases e with
 |ok r=>exact⟨r,rfl⟩
 |error e=>cases h
theorem aar:isOk (qn [11] [2] (mc AP 1) (eB AP 1 [16] (aX 18)) [((7:Nat):Int)] [] [97] 0)=true:=by kernel_rfl
theorem aas:isOk (qn [11] [2] (mc AP 3) (eB AP 3 [16] (aX 1)) [((0:Nat):Int)] [] [98] 0)=true:=by kernel_rfl
