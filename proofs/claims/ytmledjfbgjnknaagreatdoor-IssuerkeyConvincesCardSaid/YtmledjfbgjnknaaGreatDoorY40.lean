/-
  Part of the proof, part Y40. Own work.
-/
import Derived.Test.YtmledjfbgjnknaaGreatDoorY37
set_option linter.all false
namespace Go.Proofs.YtmledjfbgjnknaaGreatDoor
open Go Go.Dom
set_option maxRecDepth 100000
set_option maxHeartbeats 16000000
theorem noEscape:EvS Tryz.prog 422:=by
 intro v w;have h1:(Tryz.f422.name== "runtime.NumGoroutine")=false:=by kernel_rfl
 have h2:Tryz.f422.body.isNone=true:=by kernel_rfl
 have h3:(Extern.findNext Tryz.f422).isNone=true:=by kernel_rfl
 have h4:Extern.find Tryz.f422=some Extern.AbiNoEscape.same:=by kernel_rfl
 have h3':Extern.findNext Tryz.f422=none:=by simpa using h3
 simp only[callFunc,Sem.run_bind,run_program,Result.andThen,Tryz.func422,h1,h2,h3',h4,if_true,Bool.false_eq_true,if_false];rfl
def bF (el:TypeId):AObj:=⟨0,[.v .p0, .sn],false,some el⟩
def bS (el:TypeId) (b:Nat):AObj:=⟨0,[.p b 0 0, .sn],false,some el⟩
def bB (el:TypeId) (b d ver:Nat) (bs:Bytes):AObj:=⟨0,[.p b 0 0, .rs d ver 0 bs.length 1],false,some el⟩
def bD (ver:Nat) (bs:Bytes):AObj:=⟨ver,bcells bs,true,some 5⟩
theorem bcells_u8' (l:Bytes):(∀y,y∈bcells l→y= .v (.i .u8 (y.byte.toNat:Int)))=True:=bcells_u8 l
theorem lies0:liesAt Tryz.prog Tryz.prog.depth 315 (2/Tryz.prog.cellsOf 315) 0 315 1=true:=by kernel_rfl
theorem lies1:liesAt Tryz.prog Tryz.prog.depth 327 (2/Tryz.prog.cellsOf 327) 0 315 1=true:=by kernel_rfl
theorem b1 (c:Nat):[AV.v (.i .u8 (IntKind.u8.wrap (c:Int)))]=bcells [UInt8.ofNat c]:=rfl
theorem copyF (el:TypeId) (hl:liesAt Tryz.prog Tryz.prog.depth el (2/Tryz.prog.cellsOf el) 0 315 1=true) (b nm:Nat):EvA Tryz.prog 357 nm [(b,bF el)] [.p b 0 0] (.tup []) [(b,some (bS el b))]:=by
 have hbd':True:=trivial;refine EvA.w mixed Tryz.call357 Tryz.func357 rfl (tyC.1 _ _ _ (by cbv)) (tyC.2 _ _ (by cbv)) (obs:=[bF el]) (args:=[.p 0 0 0]) (fs:=[some (some (bS el 0))]) (j:=none) (nw:=none) (v:= .tup []) (ns:=[b]) (obsA:=[bF el]) rfl ?_ (by simp) (by simp) rfl (by simp[mapO,AObj.ren,AV.ren,AV.ren.renL,ixOf,renL_bcells,hbd',bF,bS,bB,bD]) (by simp[mapO,AV.ren,AV.ren.renL,ixOf,hbd']) (by simp[AV.ren,AV.ren.renL]) (by simp[upsOf,outs,AObj.ren,AV.ren,AV.ren.renL,renL_bcells,bkOf,bF,bS,bB,bD])
 simp only[go_sem,seval,bF,bS,bB,bD];repeat' first|simp only[go_sem,seval,Bool.not_false,Bool.not_true,true_or,or_true,false_or,or_false,Option.some.injEq,RetA,resLA,outV,outC,outO,viewC,hfV,foV,finH,finN,mkResA,mapO_outC_bcells,AV.ren,AV.ren.renL,renL_bcells,bF,bB,bD,bS,hl]|refine CR_same noEscape ?_|refine sB ?_|(first|apply pX|apply bX)<;>intro hc|refine⟨oD,?_⟩|exact oD|fail
theorem copyB (el:TypeId) (b d nm ver:Nat) (bs:Bytes) (hbd:b≠d):EvA Tryz.prog 357 nm [(b,bB el b d ver bs),(d,bD ver bs)] [.p b 0 0] (.tup []) []:=by
 have hbd':=hbd.symm;refine EvA.w mixed Tryz.call357 Tryz.func357 rfl (tyC.1 _ _ _ (by cbv)) (tyC.2 _ _ (by cbv)) (obs:=[bB el 0 1 ver bs,bD ver bs]) (args:=[.p 0 0 0]) (fs:=[none,none]) (j:=none) (nw:=none) (v:= .tup []) (ns:=[b,d]) (obsA:=[bB el b d ver bs,bD ver bs]) rfl ?_ (by simp) (by simp[hbd]) rfl (by simp[mapO,AObj.ren,AV.ren,AV.ren.renL,ixOf,renL_bcells,hbd',bF,bB,bD]) (by simp[mapO,AV.ren,AV.ren.renL,ixOf,hbd']) (by simp[AV.ren,AV.ren.renL]) (by simp[upsOf,outs,AObj.ren,AV.ren,AV.ren.renL,renL_bcells,bkOf,bF,bB,bD])
 simp only[go_sem,seval,bF,bB,bD];repeat' first|simp only[go_sem,seval,Bool.not_false,Bool.not_true,true_or,or_true,false_or,or_false,Option.some.injEq,RetA,resLA,outV,outC,outO,viewC,hfV,foV,finH,finN,mkResA,mapO_outC_bcells,AV.ren,AV.ren.renL,renL_bcells,bF,bB,bD]|refine sB ?_|(first|apply pX|apply bX)<;>intro hc|refine⟨oD,?_⟩|exact oD|fail
theorem wbF (el:TypeId) (hl:liesAt Tryz.prog Tryz.prog.depth el (2/Tryz.prog.cellsOf el) 0 315 1=true) (b nm:Nat) (c:Nat):EvA Tryz.prog 245 nm [(b,bF el)] [.p b 0 0, .v (.i .u8 (IntKind.u8.wrap (c:Int)))] (.v .if0) [(nm,some (bD 0 [UInt8.ofNat c])),(b,some (bB el b nm 0 [UInt8.ofNat c]))]:=by
 have hbd':True:=trivial;refine EvA.w mixed Tryz.call245 Tryz.func245 rfl (tyC.1 _ _ _ (by cbv)) (tyC.2 _ _ (by cbv)) (obs:=[bF el]) (args:=[.p 0 0 0, .v (.i .u8 (IntKind.u8.wrap (c:Int)))]) (fs:=[some (some (bB el 0 1 0 [UInt8.ofNat c]))]) (j:=some 1010) (nw:=(some (bD 0 [UInt8.ofNat c]))) (v:= .v .if0) (ns:=[b]) (obsA:=[bF el]) rfl ?_ (by simp) (by simp) rfl (by simp[mapO,AObj.ren,AV.ren,AV.ren.renL,ixOf,renL_bcells,hbd',bF,bB,bD]) (by simp[mapO,AV.ren,AV.ren.renL,ixOf,hbd']) (by simp[AV.ren,AV.ren.renL]) (by simp[upsOf,outs,AObj.ren,AV.ren,AV.ren.renL,renL_bcells,bkOf,bF,bB,bD])
 simp only[go_sem,seval,bF,bB,bD];repeat' first|simp only[go_sem,seval,Bool.not_false,Bool.not_true,true_or,or_true,false_or,or_false,Option.some.injEq,RetA,resLA,outV,outC,outO,viewC,hfV,foV,finH,finN,mkResA,mapO_outC_bcells,AV.ren,AV.ren.renL,renL_bcells,bF,bB,bD,bS]|(refine CR_eff (copyF el hl 0 _) (by simp[hget,bF,bB,bD]) ?_)|refine sB ?_|(first|apply pX|apply bX)<;>intro hc|refine⟨oD,?_⟩|exact oD|fail
 all_goals first|rfl|exact b1 c|skip
theorem wbB (el:TypeId) (b d nm ver:Nat) (bs:Bytes) (c:Nat) (hbd:b≠d) (hs:bs.length<1099511627776):EvA Tryz.prog 245 nm [(b,bB el b d ver bs),(d,bD ver bs)] [.p b 0 0, .v (.i .u8 (IntKind.u8.wrap (c:Int)))] (.v .if0) [(b,some (bB el b d (ver+1) (bs++[UInt8.ofNat c]))),(d,some (bD (ver+1) (bs++[UInt8.ofNat c])))]:=by
 have hbd':=hbd.symm;refine EvA.w mixed Tryz.call245 Tryz.func245 rfl (tyC.1 _ _ _ (by cbv)) (tyC.2 _ _ (by cbv)) (obs:=[bB el 0 1 ver bs,bD ver bs]) (args:=[.p 0 0 0, .v (.i .u8 (IntKind.u8.wrap (c:Int)))]) (fs:=[some (some (bB el 0 1 (ver+1) (bs++[UInt8.ofNat c]))),some (some (bD (ver+1) (bs++[UInt8.ofNat c])))]) (j:=none) (nw:=none) (v:= .v .if0) (ns:=[b,d]) (obsA:=[bB el b d ver bs,bD ver bs]) rfl ?_ (by simp) (by simp[hbd]) rfl (by simp[mapO,AObj.ren,AV.ren,AV.ren.renL,ixOf,renL_bcells,hbd',bF,bB,bD]) (by simp[mapO,AV.ren,AV.ren.renL,ixOf,hbd']) (by simp[AV.ren,AV.ren.renL]) (by simp[upsOf,outs,AObj.ren,AV.ren,AV.ren.renL,renL_bcells,bkOf,bF,bB,bD])
 simp only[go_sem,seval,bF,bB,bD];repeat' first|simp only[go_sem,seval,Bool.not_false,Bool.not_true,true_or,or_true,false_or,or_false,Option.some.injEq,RetA,resLA,outV,outC,outO,viewC,hfV,foV,finH,finN,mkResA,mapO_outC_bcells,AV.ren,AV.ren.renL,renL_bcells,bF,bB,bD,List.length_append,bsnoc,btake,List.take_length]|(refine CR_eff (copyB el 0 1 _ ver bs (by decide)) (by simp[hget,bF,bB,bD]) ?_)|refine sB ?_|(first|apply pX|apply bX)<;>intro hc|refine⟨oD,?_⟩|exact oD|fail
theorem wsF (el:TypeId) (hl:liesAt Tryz.prog Tryz.prog.depth el (2/Tryz.prog.cellsOf el) 0 315 1=true) (b nm:Nat) (s:Bytes) (h0:s.length≠0) (hs:s.length<1099511627776):EvA Tryz.prog 244 nm [(b,bF el)] [.p b 0 0, .v (.s s)] (.tup [.v (.i .i64 (s:Bytes).length), .v .if0]) [(nm,some (bD 0 s)),(b,some (bB el b nm 0 s))]:=by
 have hbd':True:=trivial;refine EvA.w mixed Tryz.call244 Tryz.func244 rfl (tyC.1 _ _ _ (by cbv)) (tyC.2 _ _ (by cbv)) (obs:=[bF el]) (args:=[.p 0 0 0, .v (.s s)]) (fs:=[some (some (bB el 0 1 0 s))]) (j:=some 1010) (nw:=(some (bD 0 s))) (v:= .tup [.v (.i .i64 (s:Bytes).length), .v .if0]) (ns:=[b]) (obsA:=[bF el]) rfl ?_ (by simp) (by simp) rfl (by simp[mapO,AObj.ren,AV.ren,AV.ren.renL,ixOf,renL_bcells,hbd',bF,bB,bD]) (by simp[mapO,AV.ren,AV.ren.renL,ixOf,hbd']) (by simp[AV.ren,AV.ren.renL]) (by simp[upsOf,outs,AObj.ren,AV.ren,AV.ren.renL,renL_bcells,bkOf,bF,bB,bD])
 simp only[go_sem,seval,bF,bB,bD];repeat' first|simp only[go_sem,seval,Bool.not_false,Bool.not_true,true_or,or_true,false_or,or_false,Option.some.injEq,RetA,resLA,outV,outC,outO,viewC,hfV,foV,finH,finN,mkResA,mapO_outC_bcells,AV.ren,AV.ren.renL,renL_bcells,bF,bB,bD,bS,h0]|(refine CR_eff (copyF el hl 0 _) (by simp[hget,bF,bB,bD]) ?_)|refine sB ?_|(first|apply pX|apply bX)<;>intro hc|refine⟨oD,?_⟩|exact oD|fail
theorem wsB (el:TypeId) (b d nm ver:Nat) (bs s:Bytes) (hbd:b≠d) (hs:bs.length+s.length<1099511627776):EvA Tryz.prog 244 nm [(b,bB el b d ver bs),(d,bD ver bs)] [.p b 0 0, .v (.s s)] (.tup [.v (.i .i64 (s:Bytes).length), .v .if0]) [(b,some (bB el b d (ver+1) (bs++s))),(d,some (bD (ver+1) (bs++s)))]:=by
 have hbd':=hbd.symm;refine EvA.w mixed Tryz.call244 Tryz.func244 rfl (tyC.1 _ _ _ (by cbv)) (tyC.2 _ _ (by cbv)) (obs:=[bB el 0 1 ver bs,bD ver bs]) (args:=[.p 0 0 0, .v (.s s)]) (fs:=[some (some (bB el 0 1 (ver+1) (bs++s))),some (some (bD (ver+1) (bs++s)))]) (j:=none) (nw:=none) (v:= .tup [.v (.i .i64 (s:Bytes).length), .v .if0]) (ns:=[b,d]) (obsA:=[bB el b d ver bs,bD ver bs]) rfl ?_ (by simp) (by simp[hbd]) rfl (by simp[mapO,AObj.ren,AV.ren,AV.ren.renL,ixOf,renL_bcells,hbd',bF,bB,bD]) (by simp[mapO,AV.ren,AV.ren.renL,ixOf,hbd']) (by simp[AV.ren,AV.ren.renL]) (by simp[upsOf,outs,AObj.ren,AV.ren,AV.ren.renL,renL_bcells,bkOf,bF,bB,bD])
 simp only[go_sem,seval,bF,bB,bD];repeat' first|simp only[go_sem,seval,Bool.not_false,Bool.not_true,true_or,or_true,false_or,or_false,Option.some.injEq,RetA,resLA,outV,outC,outO,viewC,hfV,foV,finH,finN,mkResA,mapO_outC_bcells,AV.ren,AV.ren.renL,renL_bcells,bF,bB,bD,List.length_append]|(refine CR_eff (copyB el 0 1 _ ver bs (by decide)) (by simp[hget,bF,bB,bD]) ?_)|refine sB ?_|(first|apply pX|apply bX)<;>intro hc|refine⟨oD,?_⟩|exact oD|fail
theorem lenF (el:TypeId) (b nm:Nat):EvA Tryz.prog 249 nm [(b,bF el)] [.p b 0 0] (.v (.i .i64 0)) []:=by
 have hbd':True:=trivial;refine EvA.w mixed Tryz.call249 Tryz.func249 rfl (tyC.1 _ _ _ (by cbv)) (tyC.2 _ _ (by cbv)) (obs:=[bF el]) (args:=[.p 0 0 0]) (fs:=[none]) (j:=none) (nw:=none) (v:= .v (.i .i64 0)) (ns:=[b]) (obsA:=[bF el]) rfl ?_ (by simp) (by simp) rfl (by simp[mapO,AObj.ren,AV.ren,AV.ren.renL,ixOf,renL_bcells,hbd',bF,bB,bD]) (by simp[mapO,AV.ren,AV.ren.renL,ixOf,hbd']) (by simp[AV.ren,AV.ren.renL]) (by simp[upsOf,outs,AObj.ren,AV.ren,AV.ren.renL,renL_bcells,bkOf,bF,bB,bD])
 simp only[go_sem,seval,bF,bB,bD];repeat' first|simp only[go_sem,seval,Bool.not_false,Bool.not_true,true_or,or_true,false_or,or_false,Option.some.injEq,RetA,resLA,outV,outC,outO,viewC,hfV,foV,finH,finN,mkResA,mapO_outC_bcells,AV.ren,AV.ren.renL,renL_bcells,bF,bB,bD]|refine sB ?_|(first|apply pX|apply bX)<;>intro hc|refine⟨oD,?_⟩|exact oD|fail
theorem lenB (el:TypeId) (b d nm ver:Nat) (bs:Bytes) (hbd:b≠d):EvA Tryz.prog 249 nm [(b,bB el b d ver bs),(d,bD ver bs)] [.p b 0 0] (.v (.i .i64 bs.length)) []:=by
 have hbd':=hbd.symm;refine EvA.w mixed Tryz.call249 Tryz.func249 rfl (tyC.1 _ _ _ (by cbv)) (tyC.2 _ _ (by cbv)) (obs:=[bB el 0 1 ver bs,bD ver bs]) (args:=[.p 0 0 0]) (fs:=[none,none]) (j:=none) (nw:=none) (v:= .v (.i .i64 bs.length)) (ns:=[b,d]) (obsA:=[bB el b d ver bs,bD ver bs]) rfl ?_ (by simp) (by simp[hbd]) rfl (by simp[mapO,AObj.ren,AV.ren,AV.ren.renL,ixOf,renL_bcells,hbd',bF,bB,bD]) (by simp[mapO,AV.ren,AV.ren.renL,ixOf,hbd']) (by simp[AV.ren,AV.ren.renL]) (by simp[upsOf,outs,AObj.ren,AV.ren,AV.ren.renL,renL_bcells,bkOf,bF,bB,bD])
 simp only[go_sem,seval,bF,bB,bD];repeat' first|simp only[go_sem,seval,Bool.not_false,Bool.not_true,true_or,or_true,false_or,or_false,Option.some.injEq,RetA,resLA,outV,outC,outO,viewC,hfV,foV,finH,finN,mkResA,mapO_outC_bcells,AV.ren,AV.ren.renL,renL_bcells,bF,bB,bD]|refine sB ?_|(first|apply pX|apply bX)<;>intro hc|refine⟨oD,?_⟩|exact oD|fail
theorem strB (el:TypeId) (b d nm ver:Nat) (bs:Bytes) (hbd:b≠d) (h0:bs.length≠0) (hs:bs.length<1099511627776):EvA Tryz.prog 246 nm [(b,bB el b d ver bs),(d,bD ver bs)] [.p b 0 0] (.v (.s bs)) [(d,none)]:=by
 have hbd':=hbd.symm;refine EvA.w mixed Tryz.call246 Tryz.func246 rfl (tyC.1 _ _ _ (by cbv)) (tyC.2 _ _ (by cbv)) (obs:=[bB el 0 1 ver bs,bD ver bs]) (args:=[.p 0 0 0]) (fs:=[none,some none]) (j:=none) (nw:=none) (v:= .v (.s bs)) (ns:=[b,d]) (obsA:=[bB el b d ver bs,bD ver bs]) rfl ?_ (by simp) (by simp[hbd]) rfl (by simp[mapO,AObj.ren,AV.ren,AV.ren.renL,ixOf,renL_bcells,hbd',bF,bB,bD]) (by simp[mapO,AV.ren,AV.ren.renL,ixOf,hbd']) (by simp[AV.ren,AV.ren.renL]) (by simp[upsOf,outs,AObj.ren,AV.ren,AV.ren.renL,renL_bcells,bkOf,bF,bB,bD])
 simp only[go_sem,seval,bF,bB,bD];repeat' first|simp only[go_sem,seval,Bool.not_false,Bool.not_true,true_or,or_true,false_or,or_false,Option.some.injEq,RetA,resLA,outV,outC,outO,viewC,hfV,foV,finH,finN,mkResA,mapO_outC_bcells,AV.ren,AV.ren.renL,renL_bcells,bF,bB,bD,bcells_byte,bcells_u8']|refine sB ?_|(first|apply pX|apply bX)<;>intro hc|refine⟨oD,?_⟩|exact oD|fail
abbrev FR:TypeId:=327
theorem bB_bd (el:TypeId) (b d ver:Nat) (bs:Bytes) (n:Nat) (hb:b<n) (hd:d<n): ∀c∈(bB el b d ver bs).cells,c.bd n=true:=by
 intro c hc;simp[bB]at hc;rcases hc with rfl|rfl<;>simp[AV.bd,hb,hd]
theorem bD_bd (ver:Nat) (bs:Bytes) (n:Nat): ∀c∈(bD ver bs).cells,c.bd n=true:=by
 intro c hc;have h:=bcells_bd bs n;exact(h▸trivial: ∀y,y∈bcells bs→y.bd n=true) c hc
theorem eightB (b d nm ver:Nat) (bs:Bytes) (N:Nat) (hbd:b≠d) (hs:bs.length<1000000000000) (hN:N<4611686018427387904):EvA Tryz.prog 250 nm [(b,bB FR b d ver bs),(d,bD ver bs)] [.p b 0 0, .v (.i .i64 (N:Int))] (.tup []) [(b,some (bB FR b d (ver+8) (bs++be 8 N))),(d,some (bD (ver+8) (bs++be 8 N)))]:=by
 have hbd':=hbd.symm;refine EvA.w mixed Tryz.call250 Tryz.func250 rfl (tyC.1 _ _ _ (by cbv)) (tyC.2 _ _ (by cbv)) (obs:=[bB FR 0 1 ver bs,bD ver bs]) (args:=[.p 0 0 0, .v (.i .i64 (N:Int))]) (fs:=[some (some (bB FR 0 1 (ver+8) (bs++be 8 N))),some (some (bD (ver+8) (bs++be 8 N)))]) (j:=none) (nw:=none) (v:= .tup []) (ns:=[b,d]) (obsA:=[bB FR b d ver bs,bD ver bs]) rfl ?_ (by simp) (by simp[hbd]) rfl (by simp[mapO,AObj.ren,AV.ren,AV.ren.renL,ixOf,renL_bcells,hbd',bB,bD]) (by simp[mapO,AV.ren,AV.ren.renL,ixOf,hbd']) (by simp[AV.ren,AV.ren.renL]) (by simp[upsOf,outs,AObj.ren,AV.ren,AV.ren.renL,renL_bcells,bkOf,bB,bD])
 simp only[go_sem,seval];repeat' first|simp only[go_sem,seval,true_or,or_true,false_or,or_false,Option.some.injEq,RetA,resLA,outV,outC,outO,viewC,hfV,foV,finH,finN,mkResA,mapO_outC_bcells,AV.ren,AV.ren.renL,renL_bcells]|refine sB ?_|(first|apply pX|apply bX)<;>intro hc|refine⟨oD,?_⟩|exact oD|fail
 refine loop_run (α:=Nat) (fun k=>8-k) (fun k=>⟨[(0, .p 0 0 0),(1,E' N),(4, .v (.i .i64 (56-8*(k:Int))))],[(0,bB FR 0 1 (ver+k) (bs++(be 8 N).take k)),(1,bD (ver+k) (bs++(be 8 N).take k))],_⟩) (fun k=>k≤8) 0 (fun _=>Nat.le_refl _) (Nat.zero_le _) ?_ ?_
 ·(refine AS.Le.of (by first|decide|omega) ?_ ?_<;>simp[LeT,LeH,tget,hget,AV.bd,AV.bd.bdL,u8,bd_cellsOf,bcells_bd,icells_bd])
  exact⟨bB_bd _ _ _ _ _ _ (by decide) (by decide),bD_bd _ _ _⟩
 ·intro k hk R hR
  by_cases h8:k<8
  ·have hlen:(bs++(be 8 N).take k).length<1099511627776:=by
    rw[List.length_append,List.length_take,be_len];omega
   have hw:=fun nm=>wbB FR 0 1 nm (ver+k) (bs++(be 8 N).take k) (N/256^(7-k)) (by decide) hlen
   have hgo:=hR (k+1) (by omega) (by omega)
   rw[be8_take N k h8,←List.append_assoc,←Nat.add_assoc]at hgo;rw[List.append_assoc]at hgo hw;generalize hbb:bs++(be 8 N).take k=bb at hw hgo⊢;clear hR hlen hbb;rcases(by omega:k=0∨k=1∨k=2∨k=3∨k=4∨k=5∨k=6∨k=7)with rfl|rfl|rfl|rfl|rfl|rfl|rfl|rfl
   all_goals simp only[Nat.reduceSub,Nat.reducePow,Nat.pow_zero]at hw hgo
   repeat' first|simp only[go_sem,seval,true_or,or_true,false_or,or_false,Option.some.injEq,RetA,resLA,outV,outC,outO,viewC,hfV,foV,finH,finN,mkResA,mapO_outC_bcells,AV.ren,AV.ren.renL,renL_bcells]|(refine CR_eff (hw _) (by simp[hget]) ?_)|refine sB ?_|(first|apply pX|apply bX)<;>intro hc|refine⟨oD,?_⟩|exact oD|fail
   all_goals (refine hgo _ ?_)
   all_goals (refine AS.Le.of (by first|decide|omega) ?_ ?_<;>simp[LeT,LeH,tget,hget,AV.bd,AV.bd.bdL,u8,bd_cellsOf,bcells_bd,icells_bd])
   all_goals exact⟨bB_bd _ _ _ _ _ _ (by decide) (by decide),bD_bd _ _ _⟩
  ·have h:k=8:=by omega
   subst h;have e8:(be 8 N).take 8=be 8 N:=List.take_of_length_le (by rw[be_len];decide)
   rw[e8];repeat' first|simp only[go_sem,seval,true_or,or_true,false_or,or_false,Option.some.injEq,RetA,resLA,outV,outC,outO,viewC,hfV,foV,finH,finN,mkResA,mapO_outC_bcells,AV.ren,AV.ren.renL,renL_bcells,bB,bD]|refine sB ?_|(first|apply pX|apply bX)<;>intro hc|refine⟨oD,?_⟩|exact oD|fail
theorem eightF (b nm:Nat) (N:Nat) (hN:N<4611686018427387904):EvA Tryz.prog 250 nm [(b,bF FR)] [.p b 0 0, .v (.i .i64 (N:Int))] (.tup []) [(nm,some (bD 7 (be 8 N))),(b,some (bB FR b nm 7 (be 8 N)))]:=by
 have hbd':True:=trivial;refine EvA.w mixed Tryz.call250 Tryz.func250 rfl (tyC.1 _ _ _ (by cbv)) (tyC.2 _ _ (by cbv)) (obs:=[bF FR]) (args:=[.p 0 0 0, .v (.i .i64 (N:Int))]) (fs:=[some (some (bB FR 0 1 7 (be 8 N)))]) (j:=some 1010) (nw:=some (bD 7 (be 8 N))) (v:= .tup []) (ns:=[b]) (obsA:=[bF FR]) rfl ?_ (by simp) (by simp) rfl (by simp[mapO,AObj.ren,AV.ren,AV.ren.renL,ixOf,renL_bcells,hbd',bF,bB,bD]) (by simp[mapO,AV.ren,AV.ren.renL,ixOf,hbd']) (by simp[AV.ren,AV.ren.renL]) (by simp[upsOf,outs,AObj.ren,AV.ren,AV.ren.renL,renL_bcells,bkOf,bF,bB,bD])
 simp only[go_sem,seval];have hw0:=fun nm=>wbF FR lies1 0 nm (N/256^7)
 simp only[Nat.reducePow]at hw0;repeat' first|simp only[go_sem,seval,true_or,or_true,false_or,or_false,Option.some.injEq,RetA,resLA,outV,outC,outO,viewC,hfV,foV,finH,finN,mkResA,mapO_outC_bcells,AV.ren,AV.ren.renL,renL_bcells]|(refine CR_eff (hw0 _) (by simp[hget]) ?_)|refine sB ?_|(first|apply pX|apply bX)<;>intro hc|refine⟨oD,?_⟩|exact oD|fail
 refine loop_unroll' ?_;repeat' first|simp only[go_sem,seval,true_or,or_true,false_or,or_false,Option.some.injEq,RetA,resLA,outV,outC,outO,viewC,hfV,foV,finH,finN,mkResA,mapO_outC_bcells,AV.ren,AV.ren.renL,renL_bcells]|(refine CR_eff (hw0 _) (by simp[hget]) ?_)|refine sB ?_|(first|apply pX|apply bX)<;>intro hc|refine⟨oD,?_⟩|exact oD|fail
 have e1:[UInt8.ofNat (N/72057594037927936)]=(be 8 N).take 1:=rfl;rw[e1];refine loop_run (α:=Nat) (fun k=>7-k) (fun k=>⟨[(0, .p 0 0 0),(1,E' N),(4, .v (.i .i64 (48-8*(k:Int))))],[(0,bB FR 0 1010 (0+k) ((be 8 N).take (k+1))),(1010,bD (0+k) ((be 8 N).take (k+1)))],1014⟩) (fun k=>k≤7) 0 (fun _=>Nat.le_of_ble_eq_true rfl) (Nat.zero_le _) ?_ ?_
 ·(refine AS.Le.of (by first|decide|omega) ?_ ?_<;>simp[LeT,LeH,tget,hget,AV.bd,AV.bd.bdL,u8,bd_cellsOf,bcells_bd,icells_bd])
  exact⟨bB_bd _ _ _ _ _ _ (by decide) (by decide),bD_bd _ _ _⟩
 ·intro k hk R hR
  by_cases h8:k<7
  ·have hlen:((be 8 N).take (k+1)).length<1099511627776:=by
    rw[List.length_take,be_len];omega
   have hw:=fun nm=>wbB FR 0 1010 nm (0+k) ((be 8 N).take (k+1)) (N/256^(7-(k+1))) (by decide) hlen
   have hgo:=hR (k+1) (by omega) (by omega)
   rw[be8_take N (k+1) (by omega),←Nat.add_assoc]at hgo
   generalize hbb:(be 8 N).take (k+1)=bb at hw hgo⊢;clear hR hlen hbb e1;rcases(by omega:k=0∨k=1∨k=2∨k=3∨k=4∨k=5∨k=6)with rfl|rfl|rfl|rfl|rfl|rfl|rfl
   all_goals simp only[Nat.reduceSub,Nat.reduceAdd,Nat.reducePow,Nat.pow_zero]at hw hgo
   repeat' first|simp only[go_sem,seval,true_or,or_true,false_or,or_false,Option.some.injEq,RetA,resLA,outV,outC,outO,viewC,hfV,foV,finH,finN,mkResA,mapO_outC_bcells,AV.ren,AV.ren.renL,renL_bcells,Nat.reduceAdd]|(refine CR_eff (hw _) (by simp[hget]) ?_)|refine sB ?_|(first|apply pX|apply bX)<;>intro hc|refine⟨oD,?_⟩|exact oD|fail
   all_goals (refine hgo _ ?_)
   all_goals (refine AS.Le.of (by first|decide|omega) ?_ ?_<;>simp[LeT,LeH,tget,hget,AV.bd,AV.bd.bdL,u8,bd_cellsOf,bcells_bd,icells_bd])
   all_goals exact⟨bB_bd _ _ _ _ _ _ (by decide) (by decide),bD_bd _ _ _⟩
  ·have h:k=7:=by omega
   subst h;have e8:(be 8 N).take (7+1)=be 8 N:=List.take_of_length_le (by rw[be_len];decide)
   rw[e8];repeat' first|simp only[go_sem,seval,true_or,or_true,false_or,or_false,Option.some.injEq,RetA,resLA,outV,outC,outO,viewC,hfV,foV,finH,finN,mkResA,mapO_outC_bcells,AV.ren,AV.ren.renL,renL_bcells,bF,bB,bD]|refine sB ?_|(first|apply pX|apply bX)<;>intro hc|refine⟨oD,?_⟩|exact oD|fail
end Go.Proofs.YtmledjfbgjnknaaGreatDoor
