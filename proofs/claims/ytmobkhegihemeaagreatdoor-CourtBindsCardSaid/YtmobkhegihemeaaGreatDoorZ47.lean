/-
  Part of the proof, part Z47. Own work.
-/
import Derived.Test.YtmobkhegihemeaaGreatDoorZ46
set_option linter.all false
namespace Go.Proofs.YtmobkhegihemeaaGreatDoor
open Go Go.Dom Go.Num
set_option maxRecDepth 100000
set_option maxHeartbeats 16000000
def rW:CK:=⟨[99],[23],[11],[4],[12],2,[[8],[13],[1]]⟩
def Og (q:Nat) (pts inv:List Nat) (x i:Nat):Nat:=(oT q (nI (tN (lj q (nI pts) fun k=>(((uv pts.length i).getD k 0*inv.getD k 0%q:Nat):Int)))) x).toNat
theorem Gd {q:Nat} {pts inv:List Nat} (h: ∀k,k<pts.length→cA (qU q (pts.getD k 0:Nat) ((nI pts).eraseIdx k)).toNat q=inv.getD k 0) (x i:Nat):jo q pts x i=Og q pts inv x i:=by
 have hf:fN q pts (uv pts.length i)=fun k=>(((uv pts.length i).getD k 0*inv.getD k 0%q:Nat):Int):=by
  funext k
  unfold fN
  by_cases hk:k<pts.length
  ·rw[h k hk]
  ·have:(uv pts.length i).getD k 0=0:=mN 0 _ k (by simp[uv];omega)
   rw[this,Nat.zero_mul,Nat.zero_mul]
 unfold jo Ct oO;rw[hf];rfl
theorem Bg {m q:Nat} {pts inv kG:List Nat} (h: ∀k,k<pts.length→cA (qU q (pts.getD k 0:Nat) ((nI pts).eraseIdx k)).toNat q=inv.getD k 0) (x:Nat):DL m q pts kG x=yE m (kG.zip ((List.range pts.length).map fun i=>(false,aI (Og q pts inv x i)))):=by
 unfold DL oX;simp only[Gd h]
theorem Pt: ∀k,k<[0,1].length→cA (qU (11:Nat) (([0,1]:List Nat).getD k 0:Nat) ((nI [0,1]).eraseIdx k)).toNat 11=([10,1]:List Nat).getD k 0:=by
 intro k hk
 match k with
 |0=>exact ed (by decide) (by decide)
 |1=>exact ed (by decide) (by decide)
 |k+2=>exact absurd hk (by simp)
theorem Oz: ∀k,k<[1,3].length→cA (qU (11:Nat) (([1,3]:List Nat).getD k 0:Nat) ((nI [1,3]).eraseIdx k)).toNat 11=([5,6]:List Nat).getD k 0:=by
 intro k hk
 match k with
 |0=>exact ed (by decide) (by decide)
 |1=>exact ed (by decide) (by decide)
 |k+2=>exact absurd hk (by simp)
theorem RG (x:Nat):rW.at x=yE 23 ([12,8].zip ((List.range 2).map fun i=>(false,aI (Og 11 [0,1] [10,1] x i)))):=Bg Pt x
theorem RO:DL 23 11 [1,3] [18,1] 0=6:=(Bg Oz 0).trans (by kernel_rfl)
theorem Jz:oP rW=true:=by
 unfold oP;simp only[RG]
 kernel_rfl
theorem rm:fE rW=0:=by
 unfold fE;rw[Jz]
 kernel_rfl
theorem Pg:zS [99] [23] [11] [4] 2 3 [[4],[2]] [] 0= .ok (12,[7,9,0],2):=by kernel_rfl
def isOk {α:Type}:Except Int α→Bool
 | .ok _=>true
 | .error _=>false
theorem KG {α:Type} {e:Except Int α} (h:isOk e=true): ∃r,e= .ok r:=by
 cases e with
 |ok r=>exact⟨r,rfl⟩
 |error e=>cases h
theorem Q6:isOk (vJ [11] [2] (lz rW 1) (cC rW 1 [16] (aI 18)) [((7:Nat):Int)] [] [97] 0)=true:=by kernel_rfl
theorem RI:isOk (vJ [11] [2] (lz rW 3) (cC rW 3 [16] (aI 1)) [((0:Nat):Int)] [] [98] 0)=true:=by kernel_rfl
end Go.Proofs.YtmobkhegihemeaaGreatDoor
