/-
  Part of the proof, part 46. Own work.
-/
import Derived.Test.YtmobkhegihemeaaGreatDoorM45
set_option linter.all false
namespace Go.Proofs.YtmobkhegihemeaaGreatDoor
open Go Go.Dom Go.Num
set_option maxRecDepth 100000
set_option maxHeartbeats 16000000
def K51:CK:=⟨[99],[23],[11],[4],[12],2,[[8],[13],[1]]⟩
def lagC (q:Nat) (pts inv:List Nat) (x i:Nat):Nat:=(hnP q (nI (tN (thrL q (nI pts) fun k=>(((uv pts.length i).getD k 0*inv.getD k 0%q:Nat):Int)))) x).toNat
theorem lag_comp {q:Nat} {pts inv:List Nat} (h: ∀k,k<pts.length→invN (scL q (pts.getD k 0:Nat) ((nI pts).eraseIdx k)).toNat q=inv.getD k 0) (x i:Nat):lagN q pts x i=lagC q pts inv x i:=by
 have hf:fN q pts (uv pts.length i)=fun k=>(((uv pts.length i).getD k 0*inv.getD k 0%q:Nat):Int):=by
  funext k
  unfold fN
  by_cases hk:k<pts.length
  ·rw[h k hk]
  ·have:(uv pts.length i).getD k 0=0:=getD_ge 0 _ k (by simp[uv];omega)
   rw[this,Nat.zero_mul,Nat.zero_mul]
 unfold lagN itpN thrN;rw[hf];rfl
theorem at_comp {m q:Nat} {pts inv els:List Nat} (h: ∀k,k<pts.length→invN (scL q (pts.getD k 0:Nat) ((nI pts).eraseIdx k)).toNat q=inv.getD k 0) (x:Nat):atV m q pts els x=prZ m (els.zip ((List.range pts.length).map fun i=>(false,bts (lagC q pts inv x i)))):=by
 unfold atV lagE;simp only[lag_comp h]
theorem inv01: ∀k,k<[0,1].length→invN (scL (11:Nat) (([0,1]:List Nat).getD k 0:Nat) ((nI [0,1]).eraseIdx k)).toNat 11=([10,1]:List Nat).getD k 0:=by
 intro k hk
 match k with
 |0=>exact invN_eq (by decide) (by decide)
 |1=>exact invN_eq (by decide) (by decide)
 |k+2=>exact absurd hk (by simp)
theorem inv13: ∀k,k<[1,3].length→invN (scL (11:Nat) (([1,3]:List Nat).getD k 0:Nat) ((nI [1,3]).eraseIdx k)).toNat 11=([5,6]:List Nat).getD k 0:=by
 intro k hk
 match k with
 |0=>exact invN_eq (by decide) (by decide)
 |1=>exact invN_eq (by decide) (by decide)
 |k+2=>exact absurd hk (by simp)
theorem at01 (x:Nat):K51.at x=prZ 23 ([12,8].zip ((List.range 2).map fun i=>(false,bts (lagC 11 [0,1] [10,1] x i)))):=at_comp inv01 x
theorem at13:atV 23 11 [1,3] [18,1] 0=6:=(at_comp inv13 0).trans (by kernel_rfl)
theorem k51_cmb:cmbB K51=true:=by
 unfold cmbB;simp only[at01]
 kernel_rfl
theorem k51_ok:courtE K51=0:=by
 unfold courtE;rw[k51_cmb]
 kernel_rfl
theorem fnd51:fndO [99] [23] [11] [4] 2 3 [[4],[2]] [] 0= .ok (12,[7,9,0],2):=by kernel_rfl
def isOk {α:Type}:Except Int α→Bool
 | .ok _=>true
 | .error _=>false
theorem ok_ex {α:Type} {e:Except Int α} (h:isOk e=true): ∃r,e= .ok r:=by
 cases e with
 |ok r=>exact⟨r,rfl⟩
 |error e=>cases h
theorem prv1:isOk (prvZ [11] [2] (cctx K51 1) (cstm K51 1 [16] (bts 18)) [((7:Nat):Int)] [] [97] 0)=true:=by kernel_rfl
theorem prv3:isOk (prvZ [11] [2] (cctx K51 3) (cstm K51 3 [16] (bts 1)) [((0:Nat):Int)] [] [98] 0)=true:=by kernel_rfl
end Go.Proofs.YtmobkhegihemeaaGreatDoor
