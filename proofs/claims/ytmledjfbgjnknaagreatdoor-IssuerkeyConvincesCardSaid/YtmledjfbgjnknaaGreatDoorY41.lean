/-
  Part of the proof, part Y41. Own work.
-/
import Derived.Test.YtmledjfbgjnknaaGreatDoorY40
import Derived.Test.YtmledjfbgjnknaaGreatDoorY34
set_option linter.all false
namespace Go.Proofs.YtmledjfbgjnknaaGreatDoor
open Go Go.Dom
set_option maxRecDepth 100000
set_option maxHeartbeats 16000000
theorem plain1_ok (s:Bytes):EvP Tryz.prog 352 [.s s] (.s s):=by
 refine eW Tryz.call352 Tryz.func352 ?_;repeat' first|simp only[go_sem,seval]|refine sB ?_|(first|apply pX|apply bX)<;>intro hc|refine⟨oD,?_⟩|exact oD|fail
theorem Nats1_ok (s:Bytes):EvP Tryz.prog 248 [.s s] (.s s):=by
 refine eW Tryz.call248 Tryz.func248 ?_;repeat' first|simp only[go_sem,seval]|refine sB ?_|(first|apply pX|apply bX)<;>intro hc|refine⟨oD,?_⟩|exact oD|fail
theorem Ints1_ok (n:Bool) (s:Bytes) (hs:s.length<1000000):EvP Tryz.prog 355 [.agg [.b n, .s s]] (.s (intS (n,s))):=by
 cases n;all_goals simp only[intS]
 refine eW Tryz.call355 Tryz.func355 ?_;repeat' first|simp only[go_sem,seval]|refine sB ?_|(first|apply pX|apply bX)<;>intro hc|refine⟨oD,?_⟩|exact oD|fail
 refine eW Tryz.call355 Tryz.func355 ?_;repeat' first|simp only[go_sem,seval]|refine sB ?_|(first|apply pX|apply bX)<;>intro hc|refine⟨oD,?_⟩|exact oD|fail
theorem framedS (k:Nat) {c:Int} (hc:c=IntKind.u8.wrap (k:Int)) (l more:List Bytes) (hm:more≠[]) (hn:l.length+more.length≤1000) (hb: ∀s∈l++more,s.length≤100000):EvP Tryz.prog 351 [.i .u8 c, .sl (l.map .s), .sl (more.map .s), .fn (.func 352)] (.s (sumB (frameB k (l++more)))):=by
 subst hc;obtain⟨m0,mr,hmr⟩: ∃m0 mr,more=m0::mr:=by cases more with
  |nil=>exact absurd rfl hm
  |cons a b=>exact⟨a,b,rfl⟩
 have hml:more.length=mr.length+1:=by rw[hmr];rfl
 have w1:=fun nm=>wbF FR lies1 1001 nm k
 have w2:=fun nm=>eightB 1001 1004 nm 0 [UInt8.ofNat k] (l.length+more.length) (by decide) (Nat.lt_of_le_of_lt (Nat.le_refl 1) (by decide)) (by omega)
 have ht:=plain1_ok;have hpos: ∀ _:True,(0:Int)<(more.length:Int):=fun _=>by omega
 have g0:(more.map PV.s).getD 0 .fn0= .s m0:=by rw[hmr];rfl
 have c1: ∀x∈l.map PV.s,x.cells.length=1:=fun x hx=>by obtain⟨c,-,rfl⟩:=List.mem_map.1 hx;rfl
 refine eW Tryz.call351 Tryz.func351 ?_;repeat' first|simp only[go_sem,seval]|(refine CR_eff (w1 _) (by simp[hget,bF]) ?_)|(refine CR_eff (w2 _) (by simp[hget]) ?_)|refine sB ?_|(first|apply pX|apply bX)<;>intro hc|refine⟨oD,?_⟩|exact oD|fail
 refine loop_unroll' ?_;repeat' first|simp only[go_sem,seval,g0,hpos trivial]|refine cP ((ht _)) ?_|refine sB ?_|(first|apply pX|apply bX)<;>intro hc|refine⟨oD,?_⟩|exact oD|fail
 refine⟨⟨by omega,c1⟩,?_⟩
 repeat' first|simp only[go_sem,seval]|refine cP ((ht _)) ?_|refine sB ?_|(first|apply pX|apply bX)<;>intro hc|refine⟨oD,?_⟩|exact oD|fail
 refine⟨⟨c1,by omega,by omega⟩,rfl,?_⟩
 have hro:List.map AV.v (List.flatMap PV.cells (List.map PV.s l))++[AV.v (PV.s m0)]=rowF PV.s (l++more.take 1):=by
  rw[hmr,rowF,List.flatMap_append,List.map_append,List.flatMap_map];rfl
 rw[hro];obtain⟨H,hH⟩: ∃H,H=UInt8.ofNat k::be 8 (l.length+more.length):=⟨_,rfl⟩;rw[←hH];have hHl:H.length=9:=by rw[hH,List.length_cons,be_len]
 have hfr:frameB k (l++more)=H++partsB (l++more):=by rw[hH,frameB,List.length_append];rfl
 rw[hfr];clear hro hfr w1 w2 g0 c1;refine loop_run (α:=Nat) (fun j=>more.length-j) (fun j=>⟨[(1, .rs 1028 j 0 (l.length+1+j) 1),(3, .v (.fn (.func 352))),(9, .p 1001 0 0),(23, .v (.sl (more.map PV.s))),(24,E' more.length),(25,E' (j+1))],[(1001,bB FR 1001 1004 8 H),(1004,bD 8 H),(1028,⟨j,rowF PV.s (l++more.take (j+1)),true,some 9⟩)],1032⟩) (fun j=>j+1≤more.length) 0 (fun _=>Nat.le_of_ble_eq_true rfl) (by omega) ?_ ?_
 ·(refine AS.Le.of (by first|decide|omega) ?_ ?_<;>simp[LeT,LeH,tget,hget,AV.bd,AV.bd.bdL,u8,bd_cellsOf,bcells_bd,icells_bd])
  exact⟨bB_bd _ _ _ _ _ _ (by decide) (by decide),bD_bd _ _ _,fun c hc=>bd_row hc⟩
 ·intro j hj R hR;have hlr:(l++more.take (j+1)).length=l.length+1+j:=by rw[List.length_append,List.length_take];omega
  have q0:(rowF PV.s (l++more.take (j+1))).length=l.length+1+j:=by rw[rowF_len RowOK.s,hlr,Nat.mul_one]
  have q1:List.take (l.length+1+j) (rowF PV.s (l++more.take (j+1)))=rowF PV.s (l++more.take (j+1)):=List.take_of_length_le (by omega)
  by_cases hjt:j+1<more.length
  ·have e2:=getD_map PV.s more ([]:Bytes) hjt;have hgo:=hR (j+1) (by omega) (by omega)
   rw[take_succ_getD ([]:Bytes) hjt,←List.append_assoc,rowF_snoc]at hgo;generalize more.getD (j+1) ([]:Bytes)=y at e2 hgo;have e3: ∀ _:True,((j:Int)+1).toNat=j+1:=fun _=>by omega
   clear hR hlr;repeat' first|simp only[go_sem,seval,q0,q1,e2,e3 trivial]|refine cP ((ht _)) ?_|refine sB ?_|(first|apply pX|apply bX)<;>intro hc|refine⟨oD,?_⟩|exact oD|fail
   refine hgo _ ?_
   (refine AS.Le.of (by first|decide|omega) ?_ ?_<;>simp[LeT,LeH,tget,hget,AV.bd,AV.bd.bdL,u8,bd_cellsOf,bcells_bd,icells_bd])
   all_goals first|omega|exact⟨bB_bd _ _ _ _ _ _ (by decide) (by decide),bD_bd _ _ _,by rw[q1];rfl,fun c hc=>by rcases hc with hc|⟨a,ha,rfl⟩;exact bd_row hc;rfl⟩
  ·have h:j+1=more.length:=by omega
   rw[h,List.take_length]at q0 q1⊢;repeat' first|simp only[go_sem,seval,q0,q1]|refine sB ?_|(first|apply pX|apply bX)<;>intro hc|refine⟨oD,?_⟩|exact oD|fail
   have hP:(l++more).length=l.length+1+j:=by rw[List.length_append];omega
   have hPb: ∀i,i≤(l++more).length→(H++partsB ((l++more).take i)).length≤9+i*100008:=fun i hi=>by
    rw[List.length_append,hHl];have h1:=partsB_len ((l++more).take i) (n:=100000) fun s hs=>hb s (List.mem_of_mem_take hs)
    rw[List.length_take,Nat.min_eq_left hi]at h1;omega
   clear hR ht hmr hml hH hpos;rw[←hP];rw[←hP]at q0;generalize hPP:l++more=P at*;have hP3:P.length≤1000:=by rw[hP];omega
   refine loop_run (α:=Nat) (fun i=>P.length-i) (fun i=>⟨[(9, .p 1001 0 0),(41, .rs 1028 j 0 P.length 1),(42,E' P.length),(43,E' i)],[(1001,bB FR 1001 1004 (8+9*i) (H++partsB (P.take i))),(1004,bD (8+9*i) (H++partsB (P.take i))),(1028,⟨j,rowF PV.s P,true,some 9⟩)],1036⟩) (fun i=>i≤P.length) 0 (fun _=>Nat.le_of_ble_eq_true rfl) (Nat.zero_le _) ?_ ?_
   ·(refine AS.Le.of (by first|decide|omega) ?_ ?_<;>simp[LeT,LeH,tget,hget,AV.bd,AV.bd.bdL,u8,bd_cellsOf,bcells_bd,icells_bd])
    have e0:H++partsB []=H:=List.append_nil H;rw[e0];exact⟨rfl,bB_bd _ _ _ _ _ _ (by decide) (by decide),rfl,bD_bd _ _ _,fun c hc=>bd_row hc⟩
   ·intro i hi R hR
    by_cases hit:i<P.length
    ·have e2:=rowF_get1 (f:=PV.s) (fun _=>rfl) P ([]:Bytes) hit
     have hgo:=hR (i+1) (by omega) (by omega)
     have hbs:=hb (P.getD i []) (mem_getD [] hit);have hPi:=hPb i hi;rw[take_succ_getD ([]:Bytes) hit,partsB_snoc,←List.append_assoc,←List.append_assoc]at hgo;generalize P.getD i []=y at e2 hgo hbs;generalize hB:H++partsB (P.take i)=B at hgo hPi⊢;have w1:=fun nm=>eightB 1001 1004 nm (8+9*i) B y.length (by decide) (by omega) (by omega)
     have w2:=fun nm=>wsB FR 1001 1004 nm (8+9*i+8) (B++be 8 y.length) y (by decide) (by rw[List.length_append,be_len];omega)
     simp only[show 8+9*(i+1)=8+9*i+8+1 by omega]at hgo
     clear hR hb hPb;repeat' first|simp only[go_sem,seval,q0,e2]|(refine CR_eff (w1 _) (by simp[hget]) ?_)|(refine CR_eff (w2 _) (by simp[hget]) ?_)|refine sB ?_|(first|apply pX|apply bX)<;>intro hc|refine⟨oD,?_⟩|exact oD|fail
     refine hgo _ ?_
     (refine AS.Le.of (by first|decide|omega) ?_ ?_<;>simp[LeT,LeH,tget,hget,AV.bd,AV.bd.bdL,u8,bd_cellsOf,bcells_bd,icells_bd])
     all_goals exact⟨bB_bd _ _ _ _ _ _ (by decide) (by decide),bD_bd _ _ _,fun c hc=>bd_row hc⟩
    ·have h:i=P.length:=by omega
     rw[h,List.take_length];have hl2:=hPb P.length (Nat.le_refl _);rw[List.take_length]at hl2;have hne:H++partsB P≠[]:=by intro h0;have:=congrArg List.length h0;rw[List.length_append,hHl]at this;simp at this
     generalize H++partsB P=B at hl2 hne⊢;have w3:=fun nm=>strB FR 1001 1004 nm (8+9*P.length) B (by decide) (fun h0=>hne (List.length_eq_zero_iff.1 h0)) (by omega)
     have hsu:=Sum_ok (s:=B) (by omega)
     repeat' first|simp only[go_sem,seval,q0]|(refine CR_eff (w3 _) (by simp[hget]) ?_)|refine cP hsu ?_|refine sB ?_|(first|apply pX|apply bX)<;>intro hc|refine⟨oD,?_⟩|exact oD|fail
theorem framedN (k:Nat) {c:Int} (hc:c=IntKind.u8.wrap (k:Int)) (l more:List Bytes) (hm:more≠[]) (hn:l.length+more.length≤1000) (hb: ∀s∈l++more,s.length≤100000):EvP Tryz.prog 247 [.i .u8 c, .sl (l.map .s), .sl (more.map .s), .fn (.func 248)] (.s (sumB (frameB k (l++more)))):=by
 subst hc;obtain⟨m0,mr,hmr⟩: ∃m0 mr,more=m0::mr:=by cases more with
  |nil=>exact absurd rfl hm
  |cons a b=>exact⟨a,b,rfl⟩
 have hml:more.length=mr.length+1:=by rw[hmr];rfl
 have w1:=fun nm=>wbF FR lies1 1001 nm k
 have w2:=fun nm=>eightB 1001 1004 nm 0 [UInt8.ofNat k] (l.length+more.length) (by decide) (Nat.lt_of_le_of_lt (Nat.le_refl 1) (by decide)) (by omega)
 have ht:=Nats1_ok;have hpos: ∀ _:True,(0:Int)<(more.length:Int):=fun _=>by omega
 have g0:(more.map PV.s).getD 0 .fn0= .s m0:=by rw[hmr];rfl
 have c1: ∀x∈l.map PV.s,x.cells.length=1:=fun x hx=>by obtain⟨c,-,rfl⟩:=List.mem_map.1 hx;rfl
 refine eW Tryz.call247 Tryz.func247 ?_;repeat' first|simp only[go_sem,seval]|(refine CR_eff (w1 _) (by simp[hget,bF]) ?_)|(refine CR_eff (w2 _) (by simp[hget]) ?_)|refine sB ?_|(first|apply pX|apply bX)<;>intro hc|refine⟨oD,?_⟩|exact oD|fail
 refine loop_unroll' ?_;repeat' first|simp only[go_sem,seval,g0,hpos trivial]|refine cP ((ht _)) ?_|refine sB ?_|(first|apply pX|apply bX)<;>intro hc|refine⟨oD,?_⟩|exact oD|fail
 refine⟨⟨by omega,c1⟩,?_⟩
 repeat' first|simp only[go_sem,seval]|refine cP ((ht _)) ?_|refine sB ?_|(first|apply pX|apply bX)<;>intro hc|refine⟨oD,?_⟩|exact oD|fail
 refine⟨⟨c1,by omega,by omega⟩,rfl,?_⟩
 have hro:List.map AV.v (List.flatMap PV.cells (List.map PV.s l))++[AV.v (PV.s m0)]=rowF PV.s (l++more.take 1):=by
  rw[hmr,rowF,List.flatMap_append,List.map_append,List.flatMap_map];rfl
 rw[hro];obtain⟨H,hH⟩: ∃H,H=UInt8.ofNat k::be 8 (l.length+more.length):=⟨_,rfl⟩;rw[←hH];have hHl:H.length=9:=by rw[hH,List.length_cons,be_len]
 have hfr:frameB k (l++more)=H++partsB (l++more):=by rw[hH,frameB,List.length_append];rfl
 rw[hfr];clear hro hfr w1 w2 g0 c1;refine loop_run (α:=Nat) (fun j=>more.length-j) (fun j=>⟨[(1, .rs 1028 j 0 (l.length+1+j) 1),(3, .v (.fn (.func 248))),(9, .p 1001 0 0),(23, .v (.sl (more.map PV.s))),(24,E' more.length),(25,E' (j+1))],[(1001,bB FR 1001 1004 8 H),(1004,bD 8 H),(1028,⟨j,rowF PV.s (l++more.take (j+1)),true,some 9⟩)],1032⟩) (fun j=>j+1≤more.length) 0 (fun _=>Nat.le_of_ble_eq_true rfl) (by omega) ?_ ?_
 ·(refine AS.Le.of (by first|decide|omega) ?_ ?_<;>simp[LeT,LeH,tget,hget,AV.bd,AV.bd.bdL,u8,bd_cellsOf,bcells_bd,icells_bd])
  exact⟨bB_bd _ _ _ _ _ _ (by decide) (by decide),bD_bd _ _ _,fun c hc=>bd_row hc⟩
 ·intro j hj R hR;have hlr:(l++more.take (j+1)).length=l.length+1+j:=by rw[List.length_append,List.length_take];omega
  have q0:(rowF PV.s (l++more.take (j+1))).length=l.length+1+j:=by rw[rowF_len RowOK.s,hlr,Nat.mul_one]
  have q1:List.take (l.length+1+j) (rowF PV.s (l++more.take (j+1)))=rowF PV.s (l++more.take (j+1)):=List.take_of_length_le (by omega)
  by_cases hjt:j+1<more.length
  ·have e2:=getD_map PV.s more ([]:Bytes) hjt;have hgo:=hR (j+1) (by omega) (by omega)
   rw[take_succ_getD ([]:Bytes) hjt,←List.append_assoc,rowF_snoc]at hgo;generalize more.getD (j+1) ([]:Bytes)=y at e2 hgo;have e3: ∀ _:True,((j:Int)+1).toNat=j+1:=fun _=>by omega
   clear hR hlr;repeat' first|simp only[go_sem,seval,q0,q1,e2,e3 trivial]|refine cP ((ht _)) ?_|refine sB ?_|(first|apply pX|apply bX)<;>intro hc|refine⟨oD,?_⟩|exact oD|fail
   refine hgo _ ?_
   (refine AS.Le.of (by first|decide|omega) ?_ ?_<;>simp[LeT,LeH,tget,hget,AV.bd,AV.bd.bdL,u8,bd_cellsOf,bcells_bd,icells_bd])
   all_goals first|omega|exact⟨bB_bd _ _ _ _ _ _ (by decide) (by decide),bD_bd _ _ _,by rw[q1];rfl,fun c hc=>by rcases hc with hc|⟨a,ha,rfl⟩;exact bd_row hc;rfl⟩
  ·have h:j+1=more.length:=by omega
   rw[h,List.take_length]at q0 q1⊢;repeat' first|simp only[go_sem,seval,q0,q1]|refine sB ?_|(first|apply pX|apply bX)<;>intro hc|refine⟨oD,?_⟩|exact oD|fail
   have hP:(l++more).length=l.length+1+j:=by rw[List.length_append];omega
   have hPb: ∀i,i≤(l++more).length→(H++partsB ((l++more).take i)).length≤9+i*100008:=fun i hi=>by
    rw[List.length_append,hHl];have h1:=partsB_len ((l++more).take i) (n:=100000) fun s hs=>hb s (List.mem_of_mem_take hs)
    rw[List.length_take,Nat.min_eq_left hi]at h1;omega
   clear hR ht hmr hml hH hpos;rw[←hP];rw[←hP]at q0;generalize hPP:l++more=P at*;have hP3:P.length≤1000:=by rw[hP];omega
   refine loop_run (α:=Nat) (fun i=>P.length-i) (fun i=>⟨[(9, .p 1001 0 0),(41, .rs 1028 j 0 P.length 1),(42,E' P.length),(43,E' i)],[(1001,bB FR 1001 1004 (8+9*i) (H++partsB (P.take i))),(1004,bD (8+9*i) (H++partsB (P.take i))),(1028,⟨j,rowF PV.s P,true,some 9⟩)],1036⟩) (fun i=>i≤P.length) 0 (fun _=>Nat.le_of_ble_eq_true rfl) (Nat.zero_le _) ?_ ?_
   ·(refine AS.Le.of (by first|decide|omega) ?_ ?_<;>simp[LeT,LeH,tget,hget,AV.bd,AV.bd.bdL,u8,bd_cellsOf,bcells_bd,icells_bd])
    have e0:H++partsB []=H:=List.append_nil H;rw[e0];exact⟨rfl,bB_bd _ _ _ _ _ _ (by decide) (by decide),rfl,bD_bd _ _ _,fun c hc=>bd_row hc⟩
   ·intro i hi R hR
    by_cases hit:i<P.length
    ·have e2:=rowF_get1 (f:=PV.s) (fun _=>rfl) P ([]:Bytes) hit
     have hgo:=hR (i+1) (by omega) (by omega)
     have hbs:=hb (P.getD i []) (mem_getD [] hit);have hPi:=hPb i hi;rw[take_succ_getD ([]:Bytes) hit,partsB_snoc,←List.append_assoc,←List.append_assoc]at hgo;generalize P.getD i []=y at e2 hgo hbs;generalize hB:H++partsB (P.take i)=B at hgo hPi⊢;have w1:=fun nm=>eightB 1001 1004 nm (8+9*i) B y.length (by decide) (by omega) (by omega)
     have w2:=fun nm=>wsB FR 1001 1004 nm (8+9*i+8) (B++be 8 y.length) y (by decide) (by rw[List.length_append,be_len];omega)
     simp only[show 8+9*(i+1)=8+9*i+8+1 by omega]at hgo
     clear hR hb hPb;repeat' first|simp only[go_sem,seval,q0,e2]|(refine CR_eff (w1 _) (by simp[hget]) ?_)|(refine CR_eff (w2 _) (by simp[hget]) ?_)|refine sB ?_|(first|apply pX|apply bX)<;>intro hc|refine⟨oD,?_⟩|exact oD|fail
     refine hgo _ ?_
     (refine AS.Le.of (by first|decide|omega) ?_ ?_<;>simp[LeT,LeH,tget,hget,AV.bd,AV.bd.bdL,u8,bd_cellsOf,bcells_bd,icells_bd])
     all_goals exact⟨bB_bd _ _ _ _ _ _ (by decide) (by decide),bD_bd _ _ _,fun c hc=>bd_row hc⟩
    ·have h:i=P.length:=by omega
     rw[h,List.take_length];have hl2:=hPb P.length (Nat.le_refl _);rw[List.take_length]at hl2;have hne:H++partsB P≠[]:=by intro h0;have:=congrArg List.length h0;rw[List.length_append,hHl]at this;simp at this
     generalize H++partsB P=B at hl2 hne⊢;have w3:=fun nm=>strB FR 1001 1004 nm (8+9*P.length) B (by decide) (fun h0=>hne (List.length_eq_zero_iff.1 h0)) (by omega)
     have hsu:=Sum_ok (s:=B) (by omega)
     repeat' first|simp only[go_sem,seval,q0]|(refine CR_eff (w3 _) (by simp[hget]) ?_)|refine cP hsu ?_|refine sB ?_|(first|apply pX|apply bX)<;>intro hc|refine⟨oD,?_⟩|exact oD|fail
theorem framedI (k:Nat) {c:Int} (hc:c=IntKind.u8.wrap (k:Int)) (l:List Bytes) (n:Bool) (a:Bytes) (hn:l.length≤999) (hb: ∀s∈l++[intS (n,a)],s.length≤100000):EvP Tryz.prog 354 [.i .u8 c, .sl (l.map .s), .sl [.agg [.b n, .s a]], .fn (.func 355)] (.s (sumB (frameB k (l++[intS (n,a)])))):=by
 subst hc;have ha:a.length<1000000:=by
  have:=hb (intS (n,a)) (by simp)
  simp only[intS,List.length_cons]at this;omega
 have w1:=fun nm=>wbF FR lies1 1001 nm k
 have w2:=fun nm=>eightB 1001 1004 nm 0 [UInt8.ofNat k] (l.length+1) (by decide) (Nat.lt_of_le_of_lt (Nat.le_refl 1) (by decide)) (by omega)
 have ht:=Ints1_ok n a ha;have c1: ∀x∈l.map PV.s,x.cells.length=1:=fun x hx=>by obtain⟨c,-,rfl⟩:=List.mem_map.1 hx;rfl
 refine eW Tryz.call354 Tryz.func354 ?_;repeat' first|simp only[go_sem,seval]|(refine CR_eff (w1 _) (by simp[hget,bF]) ?_)|(refine CR_eff (w2 _) (by simp[hget]) ?_)|refine sB ?_|(first|apply pX|apply bX)<;>intro hc|refine⟨oD,?_⟩|exact oD|fail
 refine loop_unroll' ?_;repeat' first|simp only[go_sem,seval]|refine cP ht ?_|refine sB ?_|(first|apply pX|apply bX)<;>intro hc|refine⟨oD,?_⟩|exact oD|fail
 refine⟨⟨by omega,c1⟩,?_⟩
 repeat' first|simp only[go_sem,seval]|refine cP ht ?_|refine sB ?_|(first|apply pX|apply bX)<;>intro hc|refine⟨oD,?_⟩|exact oD|fail
 refine⟨⟨c1,by omega,by omega⟩,rfl,?_⟩
 refine loop_unroll' ?_;repeat' first|simp only[go_sem,seval]|refine sB ?_|(first|apply pX|apply bX)<;>intro hc|refine⟨oD,?_⟩|exact oD|fail
 have hro:List.map AV.v (List.flatMap PV.cells (List.map PV.s l))++[AV.v (PV.s (intS (n,a)))]=rowF PV.s (l++[intS (n,a)]):=by
  rw[rowF,List.flatMap_append,List.map_append,List.flatMap_map];rfl
 rw[hro];obtain⟨H,hH⟩: ∃H,H=UInt8.ofNat k::be 8 (l.length+1):=⟨_,rfl⟩;rw[←hH];have hHl:H.length=9:=by rw[hH,List.length_cons,be_len]
 have hfr:frameB k (l++[intS (n,a)])=H++partsB (l++[intS (n,a)]):=by rw[hH,frameB,List.length_append];rfl
 rw[hfr];have hP:(l++[intS (n,a)]).length=l.length+1:=by rw[List.length_append];rfl
 have q0:(rowF PV.s (l++[intS (n,a)])).length=(l++[intS (n,a)]).length:=by rw[rowF_len RowOK.s,Nat.mul_one]
 have hPb: ∀i,i≤(l++[intS (n,a)]).length→(H++partsB ((l++[intS (n,a)]).take i)).length≤9+i*100008:=fun i hi=>by
  rw[List.length_append,hHl];have h1:=partsB_len ((l++[intS (n,a)]).take i) (n:=100000) fun s hs=>hb s (List.mem_of_mem_take hs)
  rw[List.length_take,Nat.min_eq_left hi]at h1;omega
 clear hro hfr w1 w2 c1 hH;rw[←hP];generalize l++[intS (n,a)]=P at*;have hP3:P.length≤1000:=by rw[hP];omega
 clear ha ht hP;refine loop_run (α:=Nat) (fun i=>P.length-i) (fun i=>⟨[(9, .p 1001 0 0),(41, .rs 1029 0 0 P.length 1),(42,E' P.length),(43,E' i)],[(1001,bB FR 1001 1004 (8+9*i) (H++partsB (P.take i))),(1004,bD (8+9*i) (H++partsB (P.take i))),(1029,⟨0,rowF PV.s P,true,some 9⟩)],1037⟩) (fun i=>i≤P.length) 0 (fun _=>Nat.le_of_ble_eq_true rfl) (Nat.zero_le _) ?_ ?_
 ·(refine AS.Le.of (by first|decide|omega) ?_ ?_<;>simp[LeT,LeH,tget,hget,AV.bd,AV.bd.bdL,u8,bd_cellsOf,bcells_bd,icells_bd])
  have e0:H++partsB []=H:=List.append_nil H;rw[e0];exact⟨rfl,bB_bd _ _ _ _ _ _ (by decide) (by decide),rfl,bD_bd _ _ _,fun c hc=>bd_row hc⟩
 ·intro i hi R hR
  by_cases hit:i<P.length
  ·have e2:=rowF_get1 (f:=PV.s) (fun _=>rfl) P ([]:Bytes) hit
   have hgo:=hR (i+1) (by omega) (by omega)
   have hbs:=hb (P.getD i []) (mem_getD [] hit);have hPi:=hPb i hi;rw[take_succ_getD ([]:Bytes) hit,partsB_snoc,←List.append_assoc,←List.append_assoc]at hgo;generalize P.getD i []=y at e2 hgo hbs;generalize hB:H++partsB (P.take i)=B at hgo hPi⊢;have w1:=fun nm=>eightB 1001 1004 nm (8+9*i) B y.length (by decide) (by omega) (by omega)
   have w2:=fun nm=>wsB FR 1001 1004 nm (8+9*i+8) (B++be 8 y.length) y (by decide) (by rw[List.length_append,be_len];omega)
   simp only[show 8+9*(i+1)=8+9*i+8+1 by omega]at hgo
   clear hR hb hPb;repeat' first|simp only[go_sem,seval,q0,e2]|(refine CR_eff (w1 _) (by simp[hget]) ?_)|(refine CR_eff (w2 _) (by simp[hget]) ?_)|refine sB ?_|(first|apply pX|apply bX)<;>intro hc|refine⟨oD,?_⟩|exact oD|fail
   refine hgo _ ?_
   (refine AS.Le.of (by first|decide|omega) ?_ ?_<;>simp[LeT,LeH,tget,hget,AV.bd,AV.bd.bdL,u8,bd_cellsOf,bcells_bd,icells_bd])
   all_goals exact⟨bB_bd _ _ _ _ _ _ (by decide) (by decide),bD_bd _ _ _,fun c hc=>bd_row hc⟩
  ·have h:i=P.length:=by omega
   rw[h,List.take_length];have hl2:=hPb P.length (Nat.le_refl _);rw[List.take_length]at hl2;have hne:H++partsB P≠[]:=by intro h0;have:=congrArg List.length h0;rw[List.length_append,hHl]at this;simp at this
   generalize H++partsB P=B at hl2 hne⊢;have w3:=fun nm=>strB FR 1001 1004 nm (8+9*P.length) B (by decide) (fun h0=>hne (List.length_eq_zero_iff.1 h0)) (by omega)
   have hsu:=Sum_ok (s:=B) (by omega)
   repeat' first|simp only[go_sem,seval,q0]|(refine CR_eff (w3 _) (by simp[hget]) ?_)|refine cP hsu ?_|refine sB ?_|(first|apply pX|apply bX)<;>intro hc|refine⟨oD,?_⟩|exact oD|fail
theorem plain_ok (k:Nat) {c:Int} (hc:c=IntKind.u8.wrap (k:Int)) (l:List Bytes) (hm:l≠[]) (hn:l.length≤1000) (hb: ∀s∈l,s.length≤100000):EvP Tryz.prog 239 [.i .u8 c, .sl (l.map .s)] (.s (sumB (frameB k l))):=by
 have h:=framedS k hc [] l hm (by simpa using hn) (by simpa using hb)
 rw[List.nil_append,List.map_nil]at h;refine eW Tryz.call239 Tryz.func239 ?_;repeat' first|simp only[go_sem,seval]|refine cV h ?_|refine sB ?_|(first|apply pX|apply bX)<;>intro hc|refine⟨oD,?_⟩|exact oD|fail
theorem tNew_ok (l:Bytes) (hl:l.length≤100000):EvP Tryz.prog 128 [.s l] (.s (trNew l)):=by
 have h:=plain_ok 78 (c:=78) rfl [l] (by simp) (by simp) (by simp;omega)
 simp only[List.map_cons,List.map_nil]at h;refine eW Tryz.call128 Tryz.func128 ?_;repeat' first|simp only[go_sem,seval]|refine cP h ?_|refine sB ?_|(first|apply pX|apply bX)<;>intro hc|refine⟨oD,?_⟩|exact oD|fail
 all_goals rfl
theorem tAdd_ok (st l d:Bytes) (h1:st.length≤100000) (h2:l.length≤100000) (h3:d.length≤100000):EvP Tryz.prog 127 [.s st, .s l, .s d] (.s (trAdd st l d)):=by
 have h:=plain_ok 65 (c:=65) rfl [st,l,d] (by simp) (by simp) (by intro s hs;simp at hs;rcases hs with rfl|rfl|rfl<;>assumption)
 simp only[List.map_cons,List.map_nil]at h;refine eW Tryz.call127 Tryz.func127 ?_;repeat' first|simp only[go_sem,seval]|refine cP h ?_|refine sB ?_|(first|apply pX|apply bX)<;>intro hc|refine⟨oD,?_⟩|exact oD|fail
 all_goals rfl
theorem tNats_ok (st l:Bytes) (xs:List Bytes) (h1:st.length≤100000) (h2:l.length≤100000) (h0:xs≠[]) (hn:xs.length≤900) (h3: ∀x∈xs,x.length≤100000):EvP Tryz.prog 131 [.s st, .s l, .sl (xs.map .s)] (.s (trNats st l xs)):=by
 have h:=framedN 76 (c:=76) rfl [st,l] xs h0 (by simp;omega) (by intro s hs;simp at hs;rcases hs with rfl|rfl|hs<;>first|assumption|exact h3 s hs)
 simp only[List.map_cons,List.map_nil]at h;refine eW Tryz.call131 Tryz.func131 ?_;repeat' first|simp only[go_sem,seval]|refine cP h ?_|refine sB ?_|(first|apply pX|apply bX)<;>intro hc|refine⟨oD,?_⟩|exact oD|fail
 all_goals rfl
theorem tInts_ok (st l:Bytes) (n:Bool) (a:Bytes) (h1:st.length≤100000) (h2:l.length≤100000) (h3:a.length≤99999):EvP Tryz.prog 241 [.s st, .s l, .sl [.agg [.b n, .s a]]] (.s (trInts st l [(n,a)])):=by
 have h:=framedI 73 (c:=73) rfl [st,l] n a (by simp) (by intro s hs;simp at hs;rcases hs with rfl|rfl|rfl<;>first|assumption|(simp[intS];omega))
 simp only[List.map_cons,List.map_nil]at h;refine eW Tryz.call241 Tryz.func241 ?_;repeat' first|simp only[go_sem,seval]|refine cP h ?_|refine sB ?_|(first|apply pX|apply bX)<;>intro hc|refine⟨oD,?_⟩|exact oD|fail
 all_goals rfl
theorem W64_LIM:18446744073709551616+18446744073709551616<LIM:=by decide+kernel
theorem plusN {a b m:Nat} (ha:a<m) (hb:b<m) (hm:m<18446744073709551616):EvP Tryz.prog 262 [N a,N b,N m] (N ((a+b)%m)):=by
 have hW:=W64_LIM;have h1:=subN (a:=m) (b:=b) (by omega) (by omega)
 have h2:=cmpNN (a:=a) (b:=m-b) (by omega) (by omega)
 by_cases hge:m-b≤a
 ·have h3:=subN (a:=a) (b:=m-b) hge (by omega)
  have h4: ∀ _:True,(0:Int)≤cmpN a (m-b):=fun _=>cmpN_ge.2 hge
  have h5: ∀ _:True,decide (cmpN a (m-b)≥0)=true:=fun _=>decide_eq_true (h4 trivial)
  have e:(a+b)%m=a-(m-b):=by rw[show a+b=(a-(m-b))+m by omega,Nat.add_mod_right,Nat.mod_eq_of_lt (by omega)]
  rw[e];generalize cmpN a (m-b)=cm at*;refine eW Tryz.call262 Tryz.func262 ?_;repeat' first|simp only[go_sem,seval,h5 trivial]|refine cP h1 ?_|refine cP h2 ?_|refine cP h3 ?_|refine sB ?_|(first|apply pX|apply bX)<;>intro hc|refine⟨oD,?_⟩|exact oD|fail
 ·have h3:=addN (a:=a) (b:=b) (by omega)
  have h4: ∀ _:True,¬(0:Int)≤cmpN a (m-b):=fun _ h=>hge (cmpN_ge.1 h)
  have h5: ∀ _:True,decide (cmpN a (m-b)≥0)=false:=fun _=>decide_eq_false (h4 trivial)
  rw[Nat.mod_eq_of_lt (by omega)]
  generalize cmpN a (m-b)=cm at*;refine eW Tryz.call262 Tryz.func262 ?_;repeat' first|simp only[go_sem,seval,h5 trivial]|refine cP h1 ?_|refine cP h2 ?_|refine cP h3 ?_|refine sB ?_|(first|apply pX|apply bX)<;>intro hc|refine⟨oD,?_⟩|exact oD|fail
theorem mAddN {a b m:Nat} (ha:a<18446744073709551616) (hb:b<18446744073709551616) (hm:m<18446744073709551616) (h0:0<m):EvP Tryz.prog 143 [N a,N b,N m] (.tup [N ((a+b)%m),E 0]):=by
 have hc:=fun nm=>check2 nm (bts a) (bts b) (bts m)
 rw[chk2N ha (vN hb) hm h0]at hc;have hp:=plusN (a:=a%m) (b:=b%m) (m:=m) (Nat.mod_lt _ h0) (Nat.mod_lt _ h0) hm;rw[←Nat.add_mod]at hp;refine eW Tryz.call143 Tryz.func143 ?_;repeat' first|simp only[go_sem,seval]|(refine CR_eff (hc _) (by simp) ?_)|refine cP (reducedN ha hm h0) ?_|refine cP (reducedN hb hm h0) ?_|refine cP hp ?_|refine sB ?_|(first|apply pX|apply bX)<;>intro hc|refine⟨oD,?_⟩|exact oD|fail
abbrev SB:TypeId:=315
theorem tChallenge_ok (st b:Bytes) (hs:st.length≤100000) (vb:validN b=true) (b0:b≠[]) (lb:b.length≤8):EvP Tryz.prog 132 [.s st, .s b] (.tup [N (trChal st b),E 0]):=by
 have hv:=natValid b;rw[vb]at hv;have hbb:(b==([]:Bytes))=false:=by simpa using b0
 have w1:=fun nm=>lenF SB 1007 nm
 have w2:=fun nm=>eightF 1014 nm 0 (by decide)
 have w3:=fun nm=>strB FR 1014 1016 nm 7 (be 8 0) (by decide) (by decide) (by decide)
 have hp:=plain_ok 67 (c:=67) rfl [st,be 8 0] (by simp) (by simp) (by intro s hs';simp at hs';rcases hs' with rfl|rfl;exact hs;simp[be_len])
 simp only[List.map_cons,List.map_nil]at hp;have hp:EvP Tryz.prog 239 [.i .u8 67, .sl [.s st, .s (be 8 0)]] (.s (trCode st)):=hp;have hcl:=trCode_len st;have htr:trChal st b=num ((trCode st).take (b.length+8))%num b:=rfl;rw[htr];generalize trCode st=code at*;have w4:=fun nm=>wsF SB lies0 1007 nm code (by omega) (by omega)
 have w5:=fun nm=>lenB SB 1007 1022 nm 0 code (by decide)
 have w6:=fun nm=>strB SB 1007 1022 nm 0 code (by decide) (by omega) (by omega)
 have hd1: ∀ _:True,decide ((0:Int)<(b.length:Int)+8)=true:=fun _=>by simp;omega
 refine eW Tryz.call132 Tryz.func132 ?_;repeat' first|simp only[go_sem,seval,hbb]|refine cP hv ?_|refine sB ?_|(first|apply pX|apply bX)<;>intro hc|refine⟨oD,?_⟩|exact oD|fail
 refine loop_unroll' ?_;repeat' first|simp only[go_sem,seval,hbb,hd1 trivial]|(refine CR_eff (w1 _) (by simp[hget,bF]) ?_)|(refine CR_eff (w2 _) (by simp[hget,bF]) ?_)|(refine CR_eff (w3 _) (by simp[hget]) ?_)|(refine CR_eff (w4 _) (by simp[hget,bF]) ?_)|refine cP hp ?_|refine sB ?_|(first|apply pX|apply bX)<;>intro hc|refine⟨oD,?_⟩|exact oD|fail
 refine loop_unroll' ?_;have hd2: ∀ _:True,decide ((32:Int)<(b.length:Int)+8)=false:=fun _=>by simp;omega
 have ht8: ∀ _:True,((b.length:Int)+8).toNat=b.length+8:=fun _=>by omega
 rw[hcl]at w5;repeat' first|simp only[go_sem,seval,hcl,hd2 trivial,ht8 trivial]|(refine CR_eff (w5 _) (by simp[hget]) ?_)|(refine CR_eff (w6 _) (by simp[hget]) ?_)|refine sB ?_|(first|apply pX|apply bX)<;>intro hc|refine⟨oD,?_⟩|exact oD|fail
 have hll:(code.take (b.length+8)).length≤32:=by rw[List.length_take];omega
 generalize code.take (b.length+8)=l at hll⊢;have hm:=num8 lb;have hm0:0<num b:=by
  rcases Nat.eq_zero_or_pos (num b)with h|h
  ·exact absurd (by have:=N_of vb;rw[h]at this;injection this with h1;exact h1.symm) b0
  ·exact h
 have hN:(.s b:PV)=N (num b):=(N_of vb).symm;rw[hN];generalize num b=m at*;have h256:EvP Tryz.prog 46 [.i .u64 256] (N 256):=Of_ok 256 (by decide)
 clear w1 w2 w3 w4 w5 w6 hp hd1 hd2 ht8 hv;refine loop_run (α:=Nat) (fun i=>l.length-i) (fun i=>⟨[(1, .v (N m)),(9, .v (N (num (l.take i)%m))),(37, .v (.sl (l.map u8))),(38,E' l.length),(39,E' i)],[],_⟩) (fun i=>i≤l.length) 0 (fun _=>Nat.le_refl _) (Nat.zero_le _) ?_ ?_
 ·(refine AS.Le.of (by first|decide|omega) ?_ ?_<;>simp[LeT,LeH,tget,hget,AV.bd,AV.bd.bdL,u8,bd_cellsOf,bcells_bd,icells_bd])
  all_goals (rw[show num []=0 from rfl,Nat.zero_mod];rfl)
 ·intro i hi R hR
  by_cases hit:i<l.length
  ·have e2:=getD_map u8 l 0 hit;have hgo:=hR (i+1) (by omega) (by omega)
   rw[num_take_succ hit]at hgo;have hc:(l.getD i 0).toNat<256:=(l.getD i 0).toNat_lt;have hou:EvP Tryz.prog 46 [.i .u64 ((l.getD i 0).toNat:Nat)] (N (l.getD i 0).toNat):=Of_ok _ (by omega)
   have w1: ∀ _:True,IntKind.u64.wrap (((l.getD i 0).toNat:Nat):Int)=(((l.getD i 0).toNat:Nat):Int):=fun _=>by rw[wu64];omega
   generalize (l.getD i 0)=y at*;generalize num (l.take i)=x at*;have hx:x%m<m:=Nat.mod_lt _ hm0;have hx2:x%m*256%m<m:=Nat.mod_lt _ hm0;have h1:=mMulN (a:=x%m) (b:=256) (m:=m) (by omega) (by decide) hm hm0
   have h2:=mAddN (a:=x%m*256%m) (b:=y.toNat) (m:=m) (by omega) (by omega) hm hm0
   have e:(x%m*256%m+y.toNat)%m=(x*256+y.toNat)%m:=by
    rw[Nat.add_mod,Nat.mod_mod,←Nat.add_mod,Nat.add_mod (x%m*256),Nat.mod_mul_mod,←Nat.add_mod]
   rw[e]at h2;clear hR hi e;repeat' first|simp only[go_sem,seval,e2,w1 trivial]|refine cP h256 ?_|refine cP h1 ?_|refine cP h2 ?_|refine cP hou ?_|refine sB ?_|(first|apply pX|apply bX)<;>intro hc|refine⟨oD,?_⟩|exact oD|fail
   all_goals (refine hgo _ ?_)
   (refine AS.Le.of (by first|decide|omega) ?_ ?_<;>simp[LeT,LeH,tget,hget,AV.bd,AV.bd.bdL,u8,bd_cellsOf,bcells_bd,icells_bd])
   all_goals first|omega|skip
  ·have h:i=l.length:=by omega
   rw[h,List.take_length];repeat' first|simp only[go_sem,seval]|refine sB ?_|(first|apply pX|apply bX)<;>intro hc|refine⟨oD,?_⟩|exact oD|fail
end Go.Proofs.YtmledjfbgjnknaaGreatDoor
