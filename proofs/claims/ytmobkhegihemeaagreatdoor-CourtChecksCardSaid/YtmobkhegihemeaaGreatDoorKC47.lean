/-
  Part of the proof, part KC47. Own work.
-/
import Derived.Test.YtmobkhegihemeaaGreatDoorKC44
set_option linter.all false
namespace Go.Proofs.YtmobkhegihemeaaGreatDoor
open Go Go.Dom Go.Num
set_option maxRecDepth 100000
set_option maxHeartbeats 16000000
def xE:CK:=⟨[99],[23],[11],[4],[12],2,[[8],[13],[1]]⟩
def Ra (q:Nat) (pts inv:List Nat) (x i:Nat):Nat:=(tO q (nI (tN (HZ q (nI pts) fun k=>(((uv pts.length i).getD k 0*inv.getD k 0%q:Nat):Int)))) x).toNat
theorem JX {q:Nat} {pts inv:List Nat} (h: ∀k,k<pts.length→eV (th q (pts.getD k 0:Nat) ((nI pts).eraseIdx k)).toNat q=inv.getD k 0) (x i:Nat):mK q pts x i=Ra q pts inv x i:=by
 have hf:fN q pts (uv pts.length i)=fun k=>(((uv pts.length i).getD k 0*inv.getD k 0%q:Nat):Int):=by
  funext k
  unfold fN
  by_cases hk:k<pts.length
  ·rw[h k hk]
  ·have:(uv pts.length i).getD k 0=0:=zA 0 _ k (by simp[uv];omega)
   rw[this,nE,nE]
 unfold mK DF pL;rw[hf];rfl
theorem EK {m q:Nat} {pts inv k9:List Nat} (h: ∀k,k<pts.length→eV (th q (pts.getD k 0:Nat) ((nI pts).eraseIdx k)).toNat q=inv.getD k 0) (x:Nat):Ia m q pts k9 x=C9 m (k9.zip ((List.range pts.length).map fun i=>(false,aP (Ra q pts inv x i)))):=by
 unfold Ia qu;simp only[JX h]
theorem TE: ∀k,k<[0,1].length→eV (th (11:Nat) (([0,1]:List Nat).getD k 0:Nat) ((nI [0,1]).eraseIdx k)).toNat 11=([10,1]:List Nat).getD k 0:=by
 intro k hk
 match k with
 |0=>exact hG (by decide) (by decide)
 |1=>exact hG (by decide) (by decide)
 |k+2=>exact absurd hk (by simp)
theorem TF: ∀k,k<[1,3].length→eV (th (11:Nat) (([1,3]:List Nat).getD k 0:Nat) ((nI [1,3]).eraseIdx k)).toNat 11=([5,6]:List Nat).getD k 0:=by
 intro k hk
 match k with
 |0=>exact hG (by decide) (by decide)
 |1=>exact hG (by decide) (by decide)
 |k+2=>exact absurd hk (by simp)
theorem Vj (x:Nat):xE.at x=C9 23 ([12,8].zip ((List.range 2).map fun i=>(false,aP (Ra 11 [0,1] [10,1] x i)))):=EK TE x
theorem Vk:Ia 23 11 [1,3] [18,1] 0=6:=(EK TF 0).trans (by kernel_rfl)
theorem Nu:GI xE=true:=by
 unfold GI;simp only[Vj]
 kernel_rfl
theorem wa:gN xE=0:=by
 unfold gN;rw[Nu]
 kernel_rfl
theorem Ty:Q3 [99] [23] [11] [4] 2 3 [[4],[2]] [] 0= .ok (12,[7,9,0],2):=by kernel_rfl
def isOk {α:Type}:Except Int α→Bool
 | .ok _=>true
 | .error _=>false
theorem Pu {α:Type} {e:Except Int α} (h:isOk e=true): ∃r,e= .ok r:=by
 cases e with
 |ok r=>exact⟨r,rfl⟩
 |error e=>cases h
theorem V1:isOk (zW [11] [2] (po xE 1) (dV xE 1 [16] (aP 18)) [((7:Nat):Int)] [] [97] 0)=true:=by kernel_rfl
theorem V2:isOk (zW [11] [2] (po xE 3) (dV xE 3 [16] (aP 1)) [((0:Nat):Int)] [] [98] 0)=true:=by kernel_rfl
end Go.Proofs.YtmobkhegihemeaaGreatDoor
