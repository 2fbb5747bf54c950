/- Part of the proof. -/
import Derived.Test.YtkmahpcpmgedkaaGreatDoorFC42
set_option linter.all false
set_option maxHeartbeats 16000000
set_option maxRecDepth 100000
namespace Go.Proofs.Tryz
open Go Go.Dom Go.Num
def Ar:CK:=⟨[99],[23],[11],[4],[12],2,[[8],[13],[1]]⟩
def UW (q:Nat) (pts inv:List Nat) (x i:Nat):Nat:=(xf q (nI (tN (Li q (nI pts) fun k=>(((uv pts.length i).getD k 0*inv.getD k 0%q:Nat):Int)))) x).toNat
theorem Nk {q:Nat} {pts inv:List Nat} (h: ∀k,k<pts.length->fR (wH q (pts.getD k 0:Nat) ((nI pts).eraseIdx k)).toNat q=inv.getD k 0) (x i:Nat):oI q pts x i=UW q pts inv x i:=by
 have hf:fN q pts (uv pts.length i)=fun k=>(((uv pts.length i).getD k 0*inv.getD k 0%q:Nat):Int):=by
  funext k
  unfold fN
  by_cases hk:k<pts.length
  ·rw[h k hk]
  ·have:(uv pts.length i).getD k 0=0:=Cz 0 _ k (by simp[uv];omega)
   rw[this,pI,pI]
 unfold oI GH sC;rw[hf];rfl
theorem HT {m q:Nat} {pts inv gN:List Nat} (h: ∀k,k<pts.length->fR (wH q (pts.getD k 0:Nat) ((nI pts).eraseIdx k)).toNat q=inv.getD k 0) (x:Nat):wX m q pts gN x=wO m (gN.zip ((List.range pts.length).map fun i=>(false,aY (UW q pts inv x i)))):=by
 unfold wX tj;simp only[Nk h]
theorem Xw: ∀k,k<[0,1].length->fR (wH (11:Nat) (([0,1]:List Nat).getD k 0:Nat) ((nI [0,1]).eraseIdx k)).toNat 11=([10,1]:List Nat).getD k 0:=by
 intro k hk
 match k with
 |0=>exact jr oC oC
 |1=>exact jr oC oC
 |k+2=>exact aM hk (by simp)
theorem Xx: ∀k,k<[1,3].length->fR (wH (11:Nat) (([1,3]:List Nat).getD k 0:Nat) ((nI [1,3]).eraseIdx k)).toNat 11=([5,6]:List Nat).getD k 0:=by
 intro k hk
 match k with
 |0=>exact jr oC oC
 |1=>exact jr oC oC
 |k+2=>exact aM hk (by simp)
theorem ZA (x:Nat):Ar.at x=wO 23 ([12,8].zip ((List.range 2).map fun i=>(false,aY (UW 11 [0,1] [10,1] x i)))):=HT Xw x
theorem ZB:wX 23 11 [1,3] [18,1] 0=6:=(HT Xx 0).trans (by kernel_rfl)
theorem Q6:JJ Ar=true:=by
 unfold JJ;simp only[ZA]
 kernel_rfl
theorem zc:dP Ar=0:=by
 unfold dP;rw[Q6]
 kernel_rfl
theorem Xp:UN [99] [23] [11] [4] 2 3 [[4],[2]] [] 0= .ok (12,[7,9,0],2):=by kernel_rfl
def isOk {α:Type}:Except Int α->Bool
 | .ok _=>true
 | .error _=>false
theorem Tb {α:Type} {e:Except Int α} (h:isOk e=true): ∃r,e= .ok r:=by
 cases e with
 |ok r=>exact⟨r,rfl⟩
 |error e=>cases h
theorem aaq:isOk (CZ [11] [2] (mP Ar 1) (ey Ar 1 [16] (aY 18)) [((7:Nat):Int)] [] [97] 0)=true:=by kernel_rfl
theorem aar:isOk (CZ [11] [2] (mP Ar 3) (ey Ar 3 [16] (aY 1)) [((0:Nat):Int)] [] [98] 0)=true:=by kernel_rfl
