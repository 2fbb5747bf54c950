/-
  Part of the proof, part KR46. Own work.
-/
import Derived.Test.YtmobkhegihemeaaGreatDoorKR45
set_option linter.all false
namespace Go.Proofs.YtmobkhegihemeaaGreatDoor
open Go Go.Dom Go.Num
set_option maxRecDepth 100000
set_option maxHeartbeats 16000000
def rp:CK:=⟨[99],[23],[11],[4],[12],2,[[8],[13],[1]]⟩
def Mg (q:Nat) (pts inv:List Nat) (x i:Nat):Nat:=(oE q (nI (tN (lk q (nI pts) fun k=>(((uv pts.length i).getD k 0*inv.getD k 0%q:Nat):Int)))) x).toNat
theorem Fg {q:Nat} {pts inv:List Nat} (h: ∀k,k<pts.length→cL (qR q (pts.getD k 0:Nat) ((nI pts).eraseIdx k)).toNat q=inv.getD k 0) (x i:Nat):jd q pts x i=Mg q pts inv x i:=by
 have hf:fN q pts (uv pts.length i)=fun k=>(((uv pts.length i).getD k 0*inv.getD k 0%q:Nat):Int):=by
  funext k
  unfold fN
  by_cases hk:k<pts.length
  ·rw[h k hk]
  ·have:(uv pts.length i).getD k 0=0:=mc 0 _ k (by simp[uv];omega)
   rw[this,Nat.zero_mul,Nat.zero_mul]
 unfold jd Cn oL;rw[hf];rfl
theorem Ab {m q:Nat} {pts inv fF:List Nat} (h: ∀k,k<pts.length→cL (qR q (pts.getD k 0:Nat) ((nI pts).eraseIdx k)).toNat q=inv.getD k 0) (x:Nat):yo m q pts fF x=uH m (fF.zip ((List.range pts.length).map fun i=>(false,aK (Mg q pts inv x i)))):=by
 unfold yo oF;simp only[Fg h]
theorem OO: ∀k,k<[0,1].length→cL (qR (11:Nat) (([0,1]:List Nat).getD k 0:Nat) ((nI [0,1]).eraseIdx k)).toNat 11=([10,1]:List Nat).getD k 0:=by
 intro k hk
 match k with
 |0=>exact eY (by decide) (by decide)
 |1=>exact eY (by decide) (by decide)
 |k+2=>exact absurd hk (by simp)
theorem OP: ∀k,k<[1,3].length→cL (qR (11:Nat) (([1,3]:List Nat).getD k 0:Nat) ((nI [1,3]).eraseIdx k)).toNat 11=([5,6]:List Nat).getD k 0:=by
 intro k hk
 match k with
 |0=>exact eY (by decide) (by decide)
 |1=>exact eY (by decide) (by decide)
 |k+2=>exact absurd hk (by simp)
theorem Qs (x:Nat):rp.at x=uH 23 ([12,8].zip ((List.range 2).map fun i=>(false,aK (Mg 11 [0,1] [10,1] x i)))):=Ab OO x
theorem Qt:yo 23 11 [1,3] [18,1] 0=6:=(Ab OP 0).trans (by kernel_rfl)
theorem IK:oz rp=true:=by
 unfold oz;simp only[Qs]
 kernel_rfl
theorem qg:ec rp=0:=by
 unfold ec;rw[IK]
 kernel_rfl
theorem OI:wD [99] [23] [11] [4] 2 3 [[4],[2]] [] 0= .ok (12,[7,9,0],2):=by kernel_rfl
def isOk {α:Type}:Except Int α→Bool
 | .ok _=>true
 | .error _=>false
theorem KE {α:Type} {e:Except Int α} (h:isOk e=true): ∃r,e= .ok r:=by
 cases e with
 |ok r=>exact⟨r,rfl⟩
 |error e=>cases h
theorem Rc:isOk (nP [11] [2] (jP rp 1) (bG rp 1 [16] (aK 18)) [((7:Nat):Int)] [] [97] 0)=true:=by kernel_rfl
theorem Re:isOk (nP [11] [2] (jP rp 3) (bG rp 3 [16] (aK 1)) [((0:Nat):Int)] [] [98] 0)=true:=by kernel_rfl
end Go.Proofs.YtmobkhegihemeaaGreatDoor
