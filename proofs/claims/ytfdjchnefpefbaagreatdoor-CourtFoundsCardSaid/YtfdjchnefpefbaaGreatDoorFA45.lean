/-
  Part of the proof, part FA45. Own work.
-/
import Derived.Test.YtfdjchnefpefbaaGreatDoorFA44
set_option linter.all false
namespace Go.Proofs.YtfdjchnefpefbaaGreatDoor
open Go Go.Dom Go.Num
set_option maxRecDepth 100000
set_option maxHeartbeats 16000000
def yR:CK:=⟨[99],[23],[11],[4],[12],2,[[8],[13],[1]]⟩
def Tr (q:Nat) (pts inv:List Nat) (x i:Nat):Nat:=(pT q (nI (tN (qJ q (nI pts) fun k=>(((uv pts.length i).getD k 0*inv.getD k 0%q:Nat):Int)))) x).toNat
theorem LL {q:Nat} {pts inv:List Nat} (h: ∀k,k<pts.length->ew (yu q (pts.getD k 0:Nat) ((nI pts).eraseIdx k)).toNat q=inv.getD k 0) (x i:Nat):mZ q pts x i=Tr q pts inv x i:=by
 have hf:fN q pts (uv pts.length i)=fun k=>(((uv pts.length i).getD k 0*inv.getD k 0%q:Nat):Int):=by
  funext k
  unfold fN
  by_cases hk:k<pts.length
  ·rw[h k hk]
  ·have:(uv pts.length i).getD k 0=0:=rv 0 _ k (by simp[uv];omega)
   rw[this,mA,mA]
 unfold mZ IE uX;rw[hf];rfl
theorem Gh {m q:Nat} {pts inv pS:List Nat} (h: ∀k,k<pts.length->ew (yu q (pts.getD k 0:Nat) ((nI pts).eraseIdx k)).toNat q=inv.getD k 0) (x:Nat):JN m q pts pS x=Ey m (pS.zip ((List.range pts.length).map fun i=>(false,aO (Tr q pts inv x i)))):=by
 unfold JN uP;simp only[LL h]
theorem V2: ∀k,k<[0,1].length->ew (yu (11:Nat) (([0,1]:List Nat).getD k 0:Nat) ((nI [0,1]).eraseIdx k)).toNat 11=([10,1]:List Nat).getD k 0:=by
 intro k hk
 match k with
 |0=>exact gS oC oC
 |1=>exact gS oC oC
 |k+2=>exact absurd hk (by simp)
theorem V3: ∀k,k<[1,3].length->ew (yu (11:Nat) (([1,3]:List Nat).getD k 0:Nat) ((nI [1,3]).eraseIdx k)).toNat 11=([5,6]:List Nat).getD k 0:=by
 intro k hk
 match k with
 |0=>exact gS oC oC
 |1=>exact gS oC oC
 |k+2=>exact absurd hk (by simp)
theorem X9 (x:Nat):yR.at x=Ey 23 ([12,8].zip ((List.range 2).map fun i=>(false,aO (Tr 11 [0,1] [10,1] x i)))):=Gh V2 x
theorem Ya:JN 23 11 [1,3] [18,1] 0=6:=(Gh V3 0).trans (by kernel_rfl)
theorem Px:uL yR=true:=by
 unfold uL;simp only[X9]
 kernel_rfl
theorem xF:k9 yR=0:=by
 unfold k9;rw[Px]
 kernel_rfl
theorem VV:y8 [99] [23] [11] [4] 2 3 [[4],[2]] [] 0= .ok (12,[7,9,0],2):=by kernel_rfl
def isOk {α:Type}:Except Int α->Bool
 | .ok _=>true
 | .error _=>false
theorem Rw {α:Type} {e:Except Int α} (h:isOk e=true): ∃r,e= .ok r:=by
 cases e with
 |ok r=>exact⟨r,rfl⟩
 |error e=>cases h
theorem Y2:isOk (Bw [11] [2] (pR yR 1) (ek yR 1 [16] (aO 18)) [((7:Nat):Int)] [] [97] 0)=true:=by kernel_rfl
theorem Y3:isOk (Bw [11] [2] (pR yR 3) (ek yR 3 [16] (aO 1)) [((0:Nat):Int)] [] [98] 0)=true:=by kernel_rfl
end Go.Proofs.YtfdjchnefpefbaaGreatDoor
