/-
  Part of the proof, part KC30. Own work.
-/
import Derived.Test.YtmobkhegihemeaaGreatDoorKC29
set_option linter.all false
namespace Go.Proofs.YtmobkhegihemeaaGreatDoor
open Go Go.Dom
set_option maxRecDepth 100000
set_option maxHeartbeats 16000000
theorem Ka:U6 Tryz.prog 367:=by
 intro v w;have h1:(Tryz.f367.name== "runtime.NumGoroutine")=false:=by kernel_rfl
 have h2:Tryz.f367.body.isNone=true:=by kernel_rfl
 have h3:(Extern.findNext Tryz.f367).isNone=true:=by kernel_rfl
 have h4:Extern.find Tryz.f367=some Extern.AbiNoEscape.same:=by kernel_rfl
 have h3':Extern.findNext Tryz.f367=none:=by simpa using h3
 simp only[callFunc,bw,run_program,Result.andThen,Tryz.func367,h1,h2,h3',h4,if_true,aW,if_false];rfl
def bF (el:TypeId):ax:=⟨0,[.v .p0, .sn],false,some el⟩
def bS (el:TypeId) (b:Nat):ax:=⟨0,[.p b 0 0, .sn],false,some el⟩
def bB (el:TypeId) (b d ver:Nat) (bs:Bytes):ax:=⟨0,[.p b 0 0, .rs d ver 0 bs.length 1],false,some el⟩
def bD (ver:Nat) (bs:Bytes):ax:=⟨ver,aC bs,true,some 5⟩
theorem Dq (l:Bytes):(∀y,y∈aC l→y= .v (.i .u8 (y.byte.toNat:Int)))=True:=Gv l
theorem TI:liesAt Tryz.prog Tryz.prog.depth 317 (2/Tryz.prog.cellsOf 317) 0 317 1=true:=by kernel_rfl
theorem Fx:liesAt Tryz.prog Tryz.prog.depth 329 (2/Tryz.prog.cellsOf 329) 0 317 1=true:=by kernel_rfl
theorem b1 (c:Nat):[AV.v (.i .u8 (IntKind.u8.wrap (c:Int)))]=aC [UInt8.ofNat c]:=rfl
theorem Pb (el:TypeId) (hl:liesAt Tryz.prog Tryz.prog.depth el (2/Tryz.prog.cellsOf el) 0 317 1=true) (b nm:Nat):ik Tryz.prog 334 nm [(b,bF el)] [.p b 0 0] (.tup []) [(b,some (bS el b))]:=by
 have hbd':True:=trivial;refine ik.w mixed Tryz.call334 Tryz.func334 rfl (iL.1 _ _ _ (by cbv)) (iL.2 _ _ (by cbv)) (obs:=[bF el]) (args:=[.p 0 0 0]) (fs:=[some (some (bS el 0))]) (j:=none) (nw:=none) (v:= .tup []) (ns:=[b]) (obsA:=[bF el]) rfl ?_ (by simp) (by simp) rfl (by simp[aQ,ax.aI,AV.aI,AV.aI.renL,cf,aA,hbd',bF,bS,bB,bD]) (by simp[aQ,AV.aI,AV.aI.renL,cf,hbd']) (by simp[AV.aI,AV.aI.renL]) (by simp[eH,outs,ax.aI,AV.aI,AV.aI.renL,aA,fV,bF,bS,bB,bD])
 simp only[go_sem,seval,bF,bS,bB,bD];repeat' first|simp only[go_sem,seval,bR,bu,true_or,or_true,false_or,or_false,af,fU,dH,fG,eY,eZ,dJ,mR,nM,ft,fK,cJ,aE,AV.aI,AV.aI.renL,aA,bF,bB,bD,bS,hl]|refine LP Ka ?_|refine sB ?_|(first|apply pX|apply bX)<;>intro hc|refine⟨oD,?_⟩|exact oD|fail
theorem Pa (el:TypeId) (b d nm ver:Nat) (bs:Bytes) (hbd:b≠d):ik Tryz.prog 334 nm [(b,bB el b d ver bs),(d,bD ver bs)] [.p b 0 0] (.tup []) []:=by
 have hbd':=hbd.symm;refine ik.w mixed Tryz.call334 Tryz.func334 rfl (iL.1 _ _ _ (by cbv)) (iL.2 _ _ (by cbv)) (obs:=[bB el 0 1 ver bs,bD ver bs]) (args:=[.p 0 0 0]) (fs:=[none,none]) (j:=none) (nw:=none) (v:= .tup []) (ns:=[b,d]) (obsA:=[bB el b d ver bs,bD ver bs]) rfl ?_ (by simp) (by simp[hbd]) rfl (by simp[aQ,ax.aI,AV.aI,AV.aI.renL,cf,aA,hbd',bF,bB,bD]) (by simp[aQ,AV.aI,AV.aI.renL,cf,hbd']) (by simp[AV.aI,AV.aI.renL]) (by simp[eH,outs,ax.aI,AV.aI,AV.aI.renL,aA,fV,bF,bB,bD])
 simp only[go_sem,seval,bF,bB,bD];repeat' first|simp only[go_sem,seval,bR,bu,true_or,or_true,false_or,or_false,af,fU,dH,fG,eY,eZ,dJ,mR,nM,ft,fK,cJ,aE,AV.aI,AV.aI.renL,aA,bF,bB,bD]|refine sB ?_|(first|apply pX|apply bX)<;>intro hc|refine⟨oD,?_⟩|exact oD|fail
theorem U0 (el:TypeId) (hl:liesAt Tryz.prog Tryz.prog.depth el (2/Tryz.prog.cellsOf el) 0 317 1=true) (b nm:Nat) (c:Nat):ik Tryz.prog 274 nm [(b,bF el)] [.p b 0 0, .v (.i .u8 (IntKind.u8.wrap (c:Int)))] (.v .if0) [(nm,some (bD 0 [UInt8.ofNat c])),(b,some (bB el b nm 0 [UInt8.ofNat c]))]:=by
 have hbd':True:=trivial;refine ik.w mixed Tryz.call274 Tryz.func274 rfl (iL.1 _ _ _ (by cbv)) (iL.2 _ _ (by cbv)) (obs:=[bF el]) (args:=[.p 0 0 0, .v (.i .u8 (IntKind.u8.wrap (c:Int)))]) (fs:=[some (some (bB el 0 1 0 [UInt8.ofNat c]))]) (j:=some 1010) (nw:=(some (bD 0 [UInt8.ofNat c]))) (v:= .v .if0) (ns:=[b]) (obsA:=[bF el]) rfl ?_ (by simp) (by simp) rfl (by simp[aQ,ax.aI,AV.aI,AV.aI.renL,cf,aA,hbd',bF,bB,bD]) (by simp[aQ,AV.aI,AV.aI.renL,cf,hbd']) (by simp[AV.aI,AV.aI.renL]) (by simp[eH,outs,ax.aI,AV.aI,AV.aI.renL,aA,fV,bF,bB,bD])
 simp only[go_sem,seval,bF,bB,bD];repeat' first|simp only[go_sem,seval,bR,bu,true_or,or_true,false_or,or_false,af,fU,dH,fG,eY,eZ,dJ,mR,nM,ft,fK,cJ,aE,AV.aI,AV.aI.renL,aA,bF,bB,bD,bS]|(refine br (Pb el hl 0 _) (by simp[ar,bF,bB,bD]) ?_)|refine sB ?_|(first|apply pX|apply bX)<;>intro hc|refine⟨oD,?_⟩|exact oD|fail
 all_goals first|rfl|exact b1 c|skip
theorem WE (el:TypeId) (b d nm ver:Nat) (bs:Bytes) (c:Nat) (hbd:b≠d) (hs:bs.length<1099511627776):ik Tryz.prog 274 nm [(b,bB el b d ver bs),(d,bD ver bs)] [.p b 0 0, .v (.i .u8 (IntKind.u8.wrap (c:Int)))] (.v .if0) [(b,some (bB el b d (ver+1) (bs++[UInt8.ofNat c]))),(d,some (bD (ver+1) (bs++[UInt8.ofNat c])))]:=by
 have hbd':=hbd.symm;refine ik.w mixed Tryz.call274 Tryz.func274 rfl (iL.1 _ _ _ (by cbv)) (iL.2 _ _ (by cbv)) (obs:=[bB el 0 1 ver bs,bD ver bs]) (args:=[.p 0 0 0, .v (.i .u8 (IntKind.u8.wrap (c:Int)))]) (fs:=[some (some (bB el 0 1 (ver+1) (bs++[UInt8.ofNat c]))),some (some (bD (ver+1) (bs++[UInt8.ofNat c])))]) (j:=none) (nw:=none) (v:= .v .if0) (ns:=[b,d]) (obsA:=[bB el b d ver bs,bD ver bs]) rfl ?_ (by simp) (by simp[hbd]) rfl (by simp[aQ,ax.aI,AV.aI,AV.aI.renL,cf,aA,hbd',bF,bB,bD]) (by simp[aQ,AV.aI,AV.aI.renL,cf,hbd']) (by simp[AV.aI,AV.aI.renL]) (by simp[eH,outs,ax.aI,AV.aI,AV.aI.renL,aA,fV,bF,bB,bD])
 simp only[go_sem,seval,bF,bB,bD];repeat' first|simp only[go_sem,seval,bR,bu,true_or,or_true,false_or,or_false,af,fU,dH,fG,eY,eZ,dJ,mR,nM,ft,fK,cJ,aE,AV.aI,AV.aI.renL,aA,bF,bB,bD,bC,qd,lA,cM]|(refine br (Pa el 0 1 _ ver bs (by decide)) (by simp[ar,bF,bB,bD]) ?_)|refine sB ?_|(first|apply pX|apply bX)<;>intro hc|refine⟨oD,?_⟩|exact oD|fail
theorem Xx (el:TypeId) (hl:liesAt Tryz.prog Tryz.prog.depth el (2/Tryz.prog.cellsOf el) 0 317 1=true) (b nm:Nat) (s:Bytes) (h0:s.length≠0) (hs:s.length<1099511627776):ik Tryz.prog 273 nm [(b,bF el)] [.p b 0 0, .v (.s s)] (.tup [.v (.i .i64 (s:Bytes).length), .v .if0]) [(nm,some (bD 0 s)),(b,some (bB el b nm 0 s))]:=by
 have hbd':True:=trivial;refine ik.w mixed Tryz.call273 Tryz.func273 rfl (iL.1 _ _ _ (by cbv)) (iL.2 _ _ (by cbv)) (obs:=[bF el]) (args:=[.p 0 0 0, .v (.s s)]) (fs:=[some (some (bB el 0 1 0 s))]) (j:=some 1010) (nw:=(some (bD 0 s))) (v:= .tup [.v (.i .i64 (s:Bytes).length), .v .if0]) (ns:=[b]) (obsA:=[bF el]) rfl ?_ (by simp) (by simp) rfl (by simp[aQ,ax.aI,AV.aI,AV.aI.renL,cf,aA,hbd',bF,bB,bD]) (by simp[aQ,AV.aI,AV.aI.renL,cf,hbd']) (by simp[AV.aI,AV.aI.renL]) (by simp[eH,outs,ax.aI,AV.aI,AV.aI.renL,aA,fV,bF,bB,bD])
 simp only[go_sem,seval,bF,bB,bD];repeat' first|simp only[go_sem,seval,bR,bu,true_or,or_true,false_or,or_false,af,fU,dH,fG,eY,eZ,dJ,mR,nM,ft,fK,cJ,aE,AV.aI,AV.aI.renL,aA,bF,bB,bD,bS,h0]|(refine br (Pb el hl 0 _) (by simp[ar,bF,bB,bD]) ?_)|refine sB ?_|(first|apply pX|apply bX)<;>intro hc|refine⟨oD,?_⟩|exact oD|fail
theorem Wa (el:TypeId) (b d nm ver:Nat) (bs s:Bytes) (hbd:b≠d) (hs:bs.length+s.length<1099511627776):ik Tryz.prog 273 nm [(b,bB el b d ver bs),(d,bD ver bs)] [.p b 0 0, .v (.s s)] (.tup [.v (.i .i64 (s:Bytes).length), .v .if0]) [(b,some (bB el b d (ver+1) (bs++s))),(d,some (bD (ver+1) (bs++s)))]:=by
 have hbd':=hbd.symm;refine ik.w mixed Tryz.call273 Tryz.func273 rfl (iL.1 _ _ _ (by cbv)) (iL.2 _ _ (by cbv)) (obs:=[bB el 0 1 ver bs,bD ver bs]) (args:=[.p 0 0 0, .v (.s s)]) (fs:=[some (some (bB el 0 1 (ver+1) (bs++s))),some (some (bD (ver+1) (bs++s)))]) (j:=none) (nw:=none) (v:= .tup [.v (.i .i64 (s:Bytes).length), .v .if0]) (ns:=[b,d]) (obsA:=[bB el b d ver bs,bD ver bs]) rfl ?_ (by simp) (by simp[hbd]) rfl (by simp[aQ,ax.aI,AV.aI,AV.aI.renL,cf,aA,hbd',bF,bB,bD]) (by simp[aQ,AV.aI,AV.aI.renL,cf,hbd']) (by simp[AV.aI,AV.aI.renL]) (by simp[eH,outs,ax.aI,AV.aI,AV.aI.renL,aA,fV,bF,bB,bD])
 simp only[go_sem,seval,bF,bB,bD];repeat' first|simp only[go_sem,seval,bR,bu,true_or,or_true,false_or,or_false,af,fU,dH,fG,eY,eZ,dJ,mR,nM,ft,fK,cJ,aE,AV.aI,AV.aI.renL,aA,bF,bB,bD,bC]|(refine br (Pa el 0 1 _ ver bs (by decide)) (by simp[ar,bF,bB,bD]) ?_)|refine sB ?_|(first|apply pX|apply bX)<;>intro hc|refine⟨oD,?_⟩|exact oD|fail
theorem VV (el:TypeId) (b nm:Nat):ik Tryz.prog 278 nm [(b,bF el)] [.p b 0 0] (.v (.i .i64 0)) []:=by
 have hbd':True:=trivial;refine ik.w mixed Tryz.call278 Tryz.func278 rfl (iL.1 _ _ _ (by cbv)) (iL.2 _ _ (by cbv)) (obs:=[bF el]) (args:=[.p 0 0 0]) (fs:=[none]) (j:=none) (nw:=none) (v:= .v (.i .i64 0)) (ns:=[b]) (obsA:=[bF el]) rfl ?_ (by simp) (by simp) rfl (by simp[aQ,ax.aI,AV.aI,AV.aI.renL,cf,aA,hbd',bF,bB,bD]) (by simp[aQ,AV.aI,AV.aI.renL,cf,hbd']) (by simp[AV.aI,AV.aI.renL]) (by simp[eH,outs,ax.aI,AV.aI,AV.aI.renL,aA,fV,bF,bB,bD])
 simp only[go_sem,seval,bF,bB,bD];repeat' first|simp only[go_sem,seval,bR,bu,true_or,or_true,false_or,or_false,af,fU,dH,fG,eY,eZ,dJ,mR,nM,ft,fK,cJ,aE,AV.aI,AV.aI.renL,aA,bF,bB,bD]|refine sB ?_|(first|apply pX|apply bX)<;>intro hc|refine⟨oD,?_⟩|exact oD|fail
theorem VU (el:TypeId) (b d nm ver:Nat) (bs:Bytes) (hbd:b≠d):ik Tryz.prog 278 nm [(b,bB el b d ver bs),(d,bD ver bs)] [.p b 0 0] (.v (.i .i64 bs.length)) []:=by
 have hbd':=hbd.symm;refine ik.w mixed Tryz.call278 Tryz.func278 rfl (iL.1 _ _ _ (by cbv)) (iL.2 _ _ (by cbv)) (obs:=[bB el 0 1 ver bs,bD ver bs]) (args:=[.p 0 0 0]) (fs:=[none,none]) (j:=none) (nw:=none) (v:= .v (.i .i64 bs.length)) (ns:=[b,d]) (obsA:=[bB el b d ver bs,bD ver bs]) rfl ?_ (by simp) (by simp[hbd]) rfl (by simp[aQ,ax.aI,AV.aI,AV.aI.renL,cf,aA,hbd',bF,bB,bD]) (by simp[aQ,AV.aI,AV.aI.renL,cf,hbd']) (by simp[AV.aI,AV.aI.renL]) (by simp[eH,outs,ax.aI,AV.aI,AV.aI.renL,aA,fV,bF,bB,bD])
 simp only[go_sem,seval,bF,bB,bD];repeat' first|simp only[go_sem,seval,bR,bu,true_or,or_true,false_or,or_false,af,fU,dH,fG,eY,eZ,dJ,mR,nM,ft,fK,cJ,aE,AV.aI,AV.aI.renL,aA,bF,bB,bD]|refine sB ?_|(first|apply pX|apply bX)<;>intro hc|refine⟨oD,?_⟩|exact oD|fail
theorem Ln (el:TypeId) (b d nm ver:Nat) (bs:Bytes) (hbd:b≠d) (h0:bs.length≠0) (hs:bs.length<1099511627776):ik Tryz.prog 275 nm [(b,bB el b d ver bs),(d,bD ver bs)] [.p b 0 0] (.v (.s bs)) [(d,none)]:=by
 have hbd':=hbd.symm;refine ik.w mixed Tryz.call275 Tryz.func275 rfl (iL.1 _ _ _ (by cbv)) (iL.2 _ _ (by cbv)) (obs:=[bB el 0 1 ver bs,bD ver bs]) (args:=[.p 0 0 0]) (fs:=[none,some none]) (j:=none) (nw:=none) (v:= .v (.s bs)) (ns:=[b,d]) (obsA:=[bB el b d ver bs,bD ver bs]) rfl ?_ (by simp) (by simp[hbd]) rfl (by simp[aQ,ax.aI,AV.aI,AV.aI.renL,cf,aA,hbd',bF,bB,bD]) (by simp[aQ,AV.aI,AV.aI.renL,cf,hbd']) (by simp[AV.aI,AV.aI.renL]) (by simp[eH,outs,ax.aI,AV.aI,AV.aI.renL,aA,fV,bF,bB,bD])
 simp only[go_sem,seval,bF,bB,bD];repeat' first|simp only[go_sem,seval,bR,bu,true_or,or_true,false_or,or_false,af,fU,dH,fG,eY,eZ,dJ,mR,nM,ft,fK,cJ,aE,AV.aI,AV.aI.renL,aA,bF,bB,bD,jV,Dq]|refine sB ?_|(first|apply pX|apply bX)<;>intro hc|refine⟨oD,?_⟩|exact oD|fail
abbrev FR:TypeId:=329
theorem lu (el:TypeId) (b d ver:Nat) (bs:Bytes) (n:Nat) (hb:b<n) (hd:d<n): ∀c∈(bB el b d ver bs).cells,c.bd n=true:=by
 intro c hc;simp[bB]at hc;rcases hc with rfl|rfl<;>simp[AV.bd,hb,hd]
theorem ly (ver:Nat) (bs:Bytes) (n:Nat): ∀c∈(bD ver bs).cells,c.bd n=true:=by
 intro c hc;have h:=ai bs n;exact(h▸trivial: ∀y,y∈aC bs→y.bd n=true) c hc
theorem rY (b d nm ver:Nat) (bs:Bytes) (N:Nat) (hbd:b≠d) (hs:bs.length<1000000000000) (hN:N<4611686018427387904):ik Tryz.prog 279 nm [(b,bB FR b d ver bs),(d,bD ver bs)] [.p b 0 0, .v (.i .i64 (N:Int))] (.tup []) [(b,some (bB FR b d (ver+8) (bs++be 8 N))),(d,some (bD (ver+8) (bs++be 8 N)))]:=by
 have hbd':=hbd.symm;refine ik.w mixed Tryz.call279 Tryz.func279 rfl (iL.1 _ _ _ (by cbv)) (iL.2 _ _ (by cbv)) (obs:=[bB FR 0 1 ver bs,bD ver bs]) (args:=[.p 0 0 0, .v (.i .i64 (N:Int))]) (fs:=[some (some (bB FR 0 1 (ver+8) (bs++be 8 N))),some (some (bD (ver+8) (bs++be 8 N)))]) (j:=none) (nw:=none) (v:= .tup []) (ns:=[b,d]) (obsA:=[bB FR b d ver bs,bD ver bs]) rfl ?_ (by simp) (by simp[hbd]) rfl (by simp[aQ,ax.aI,AV.aI,AV.aI.renL,cf,aA,hbd',bB,bD]) (by simp[aQ,AV.aI,AV.aI.renL,cf,hbd']) (by simp[AV.aI,AV.aI.renL]) (by simp[eH,outs,ax.aI,AV.aI,AV.aI.renL,aA,fV,bB,bD])
 simp only[go_sem,seval];repeat' first|simp only[go_sem,seval,true_or,or_true,false_or,or_false,af,fU,dH,fG,eY,eZ,dJ,mR,nM,ft,fK,cJ,aE,AV.aI,AV.aI.renL,aA]|refine sB ?_|(first|apply pX|apply bX)<;>intro hc|refine⟨oD,?_⟩|exact oD|fail
 refine aj (α:=Nat) (fun k=>8-k) (fun k=>⟨[(0, .p 0 0 0),(1,E' N),(4, .v (.i .i64 (56-8*(k:Int))))],[(0,bB FR 0 1 (ver+k) (bs++(be 8 N).take k)),(1,bD (ver+k) (bs++(be 8 N).take k))],_⟩) (fun k=>k≤8) 0 (fun _=>au _) (aL _) ?_ ?_
 ·(refine AS.Le.of (by first|decide|omega) ?_ ?_<;>simp[cl,cj,aF,ar,AV.bd,AV.bd.bdL,u8,ah,ai,aq])
  exact⟨lu _ _ _ _ _ _ (by decide) (by decide),ly _ _ _⟩
 ·intro k hk R hR
  by_cases h8:k<8
  ·have hlen:(bs++(be 8 N).take k).length<1099511627776:=by
    rw[bC,cG,b9];omega
   have hw:=fun nm=>WE FR 0 1 nm (ver+k) (bs++(be 8 N).take k) (N/256^(7-k)) (by decide) hlen
   have hgo:=hR (k+1) (by omega) (by omega)
   rw[Bi N k h8,←gF,←iU]at hgo;rw[gF]at hgo hw;generalize hbb:bs++(be 8 N).take k=bb at hw hgo⊢;clear hR hlen hbb;rcases(by omega:k=0∨k=1∨k=2∨k=3∨k=4∨k=5∨k=6∨k=7)with rfl|rfl|rfl|rfl|rfl|rfl|rfl|rfl
   all_goals simp only[Nat.reduceSub,Nat.reducePow,Nat.pow_zero]at hw hgo
   repeat' first|simp only[go_sem,seval,true_or,or_true,false_or,or_false,af,fU,dH,fG,eY,eZ,dJ,mR,nM,ft,fK,cJ,aE,AV.aI,AV.aI.renL,aA]|(refine br (hw _) (by simp[ar]) ?_)|refine sB ?_|(first|apply pX|apply bX)<;>intro hc|refine⟨oD,?_⟩|exact oD|fail
   all_goals (refine hgo _ ?_)
   all_goals (refine AS.Le.of (by first|decide|omega) ?_ ?_<;>simp[cl,cj,aF,ar,AV.bd,AV.bd.bdL,u8,ah,ai,aq])
   all_goals exact⟨lu _ _ _ _ _ _ (by decide) (by decide),ly _ _ _⟩
  ·have h:k=8:=by omega
   subst h;have e8:(be 8 N).take 8=be 8 N:=bM (by rw[b9];decide)
   rw[e8];repeat' first|simp only[go_sem,seval,true_or,or_true,false_or,or_false,af,fU,dH,fG,eY,eZ,dJ,mR,nM,ft,fK,cJ,aE,AV.aI,AV.aI.renL,aA,bB,bD]|refine sB ?_|(first|apply pX|apply bX)<;>intro hc|refine⟨oD,?_⟩|exact oD|fail
theorem QZ (b nm:Nat) (N:Nat) (hN:N<4611686018427387904):ik Tryz.prog 279 nm [(b,bF FR)] [.p b 0 0, .v (.i .i64 (N:Int))] (.tup []) [(nm,some (bD 7 (be 8 N))),(b,some (bB FR b nm 7 (be 8 N)))]:=by
 have hbd':True:=trivial;refine ik.w mixed Tryz.call279 Tryz.func279 rfl (iL.1 _ _ _ (by cbv)) (iL.2 _ _ (by cbv)) (obs:=[bF FR]) (args:=[.p 0 0 0, .v (.i .i64 (N:Int))]) (fs:=[some (some (bB FR 0 1 7 (be 8 N)))]) (j:=some 1010) (nw:=some (bD 7 (be 8 N))) (v:= .tup []) (ns:=[b]) (obsA:=[bF FR]) rfl ?_ (by simp) (by simp) rfl (by simp[aQ,ax.aI,AV.aI,AV.aI.renL,cf,aA,hbd',bF,bB,bD]) (by simp[aQ,AV.aI,AV.aI.renL,cf,hbd']) (by simp[AV.aI,AV.aI.renL]) (by simp[eH,outs,ax.aI,AV.aI,AV.aI.renL,aA,fV,bF,bB,bD])
 simp only[go_sem,seval];have hw0:=fun nm=>U0 FR Fx 0 nm (N/256^7)
 simp only[Nat.reducePow]at hw0;repeat' first|simp only[go_sem,seval,true_or,or_true,false_or,or_false,af,fU,dH,fG,eY,eZ,dJ,mR,nM,ft,fK,cJ,aE,AV.aI,AV.aI.renL,aA]|(refine br (hw0 _) (by simp[ar]) ?_)|refine sB ?_|(first|apply pX|apply bX)<;>intro hc|refine⟨oD,?_⟩|exact oD|fail
 refine ae ?_;repeat' first|simp only[go_sem,seval,true_or,or_true,false_or,or_false,af,fU,dH,fG,eY,eZ,dJ,mR,nM,ft,fK,cJ,aE,AV.aI,AV.aI.renL,aA]|(refine br (hw0 _) (by simp[ar]) ?_)|refine sB ?_|(first|apply pX|apply bX)<;>intro hc|refine⟨oD,?_⟩|exact oD|fail
 have e1:[UInt8.ofNat (N/72057594037927936)]=(be 8 N).take 1:=rfl;rw[e1];refine aj (α:=Nat) (fun k=>7-k) (fun k=>⟨[(0, .p 0 0 0),(1,E' N),(4, .v (.i .i64 (48-8*(k:Int))))],[(0,bB FR 0 1010 (0+k) ((be 8 N).take (k+1))),(1010,bD (0+k) ((be 8 N).take (k+1)))],1014⟩) (fun k=>k≤7) 0 (fun _=>bQ rfl) (aL _) ?_ ?_
 ·(refine AS.Le.of (by first|decide|omega) ?_ ?_<;>simp[cl,cj,aF,ar,AV.bd,AV.bd.bdL,u8,ah,ai,aq])
  exact⟨lu _ _ _ _ _ _ (by decide) (by decide),ly _ _ _⟩
 ·intro k hk R hR
  by_cases h8:k<7
  ·have hlen:((be 8 N).take (k+1)).length<1099511627776:=by
    rw[cG,b9];omega
   have hw:=fun nm=>WE FR 0 1010 nm (0+k) ((be 8 N).take (k+1)) (N/256^(7-(k+1))) (by decide) hlen
   have hgo:=hR (k+1) (by omega) (by omega)
   rw[Bi N (k+1) (by omega),←iU]at hgo
   generalize hbb:(be 8 N).take (k+1)=bb at hw hgo⊢;clear hR hlen hbb e1;rcases(by omega:k=0∨k=1∨k=2∨k=3∨k=4∨k=5∨k=6)with rfl|rfl|rfl|rfl|rfl|rfl|rfl
   all_goals simp only[Nat.reduceSub,Nat.reduceAdd,Nat.reducePow,Nat.pow_zero]at hw hgo
   repeat' first|simp only[go_sem,seval,true_or,or_true,false_or,or_false,af,fU,dH,fG,eY,eZ,dJ,mR,nM,ft,fK,cJ,aE,AV.aI,AV.aI.renL,aA,Nat.reduceAdd]|(refine br (hw _) (by simp[ar]) ?_)|refine sB ?_|(first|apply pX|apply bX)<;>intro hc|refine⟨oD,?_⟩|exact oD|fail
   all_goals (refine hgo _ ?_)
   all_goals (refine AS.Le.of (by first|decide|omega) ?_ ?_<;>simp[cl,cj,aF,ar,AV.bd,AV.bd.bdL,u8,ah,ai,aq])
   all_goals exact⟨lu _ _ _ _ _ _ (by decide) (by decide),ly _ _ _⟩
  ·have h:k=7:=by omega
   subst h;have e8:(be 8 N).take (7+1)=be 8 N:=bM (by rw[b9];decide)
   rw[e8];repeat' first|simp only[go_sem,seval,true_or,or_true,false_or,or_false,af,fU,dH,fG,eY,eZ,dJ,mR,nM,ft,fK,cJ,aE,AV.aI,AV.aI.renL,aA,bF,bB,bD]|refine sB ?_|(first|apply pX|apply bX)<;>intro hc|refine⟨oD,?_⟩|exact oD|fail
theorem Hy (s:Bytes):aD Tryz.prog 330 [.s s] (.s s):=by
 refine eW Tryz.call330 Tryz.func330 ?_;repeat' first|simp only[go_sem,seval]|refine sB ?_|(first|apply pX|apply bX)<;>intro hc|refine⟨oD,?_⟩|exact oD|fail
theorem Ij (s:Bytes):aD Tryz.prog 277 [.s s] (.s s):=by
 refine eW Tryz.call277 Tryz.func277 ?_;repeat' first|simp only[go_sem,seval]|refine sB ?_|(first|apply pX|apply bX)<;>intro hc|refine⟨oD,?_⟩|exact oD|fail
theorem Ii (n:Bool) (s:Bytes) (hs:s.length<1000000):aD Tryz.prog 332 [.agg [.b n, .s s]] (.s (m9 (n,s))):=by
 cases n;all_goals simp only[m9]
 refine eW Tryz.call332 Tryz.func332 ?_;repeat' first|simp only[go_sem,seval]|refine sB ?_|(first|apply pX|apply bX)<;>intro hc|refine⟨oD,?_⟩|exact oD|fail
 refine eW Tryz.call332 Tryz.func332 ?_;repeat' first|simp only[go_sem,seval]|refine sB ?_|(first|apply pX|apply bX)<;>intro hc|refine⟨oD,?_⟩|exact oD|fail
theorem Nj (k:Nat) {c:Int} (hc:c=IntKind.u8.wrap (k:Int)) (l more:List Bytes) (hm:more≠[]) (hn:l.length+more.length≤1000) (hb: ∀s∈l++more,s.length≤100000):aD Tryz.prog 329 [.i .u8 c, .sl (l.map .s), .sl (more.map .s), .fn (.func 330)] (.s (mP (im k (l++more)))):=by
 subst hc;obtain⟨m0,mr,hmr⟩: ∃m0 mr,more=m0::mr:=by cases more with
  |nil=>exact absurd rfl hm
  |cons a b=>exact⟨a,b,rfl⟩
 have hml:more.length=mr.length+1:=by rw[hmr];rfl
 have w1:=fun nm=>U0 FR Fx 1001 nm k
 have w2:=fun nm=>rY 1001 1004 nm 0 [UInt8.ofNat k] (l.length+more.length) (by decide) (dQ (au 1) (by decide)) (by omega)
 have ht:=Hy;have hpos: ∀ _:True,(0:Int)<(more.length:Int):=fun _=>by omega
 have g0:(more.map PV.s).getD 0 .fn0= .s m0:=by rw[hmr];rfl
 have c1: ∀x∈l.map PV.s,x.cells.length=1:=fun x hx=>by obtain⟨c,-,rfl⟩:=a5.1 hx;rfl
 refine eW Tryz.call329 Tryz.func329 ?_;repeat' first|simp only[go_sem,seval]|(refine br (w1 _) (by simp[ar,bF]) ?_)|(refine br (w2 _) (by simp[ar]) ?_)|refine sB ?_|(first|apply pX|apply bX)<;>intro hc|refine⟨oD,?_⟩|exact oD|fail
 refine ae ?_;repeat' first|simp only[go_sem,seval,g0,hpos trivial]|refine cP ((ht _)) ?_|refine sB ?_|(first|apply pX|apply bX)<;>intro hc|refine⟨oD,?_⟩|exact oD|fail
 refine⟨⟨by omega,c1⟩,?_⟩
 repeat' first|simp only[go_sem,seval]|refine cP ((ht _)) ?_|refine sB ?_|(first|apply pX|apply bX)<;>intro hc|refine⟨oD,?_⟩|exact oD|fail
 refine⟨⟨c1,by omega,by omega⟩,rfl,?_⟩
 have hro:List.map AV.v (List.flatMap PV.cells (List.map PV.s l))++[AV.v (PV.s m0)]=bJ PV.s (l++more.take 1):=by
  rw[hmr,bJ,re,eB,ug];rfl
 rw[hro];obtain⟨H,hH⟩: ∃H,H=UInt8.ofNat k::be 8 (l.length+more.length):=⟨_,rfl⟩;rw[←hH];have hHl:H.length=9:=by rw[hH,List.length_cons,b9]
 have hfr:im k (l++more)=H++cU (l++more):=by rw[hH,im,bC];rfl
 rw[hfr];clear hro hfr w1 w2 g0 c1;refine aj (α:=Nat) (fun j=>more.length-j) (fun j=>⟨[(1, .rs 1028 j 0 (l.length+1+j) 1),(3, .v (.fn (.func 330))),(9, .p 1001 0 0),(23, .v (.sl (more.map PV.s))),(24,E' more.length),(25,E' (j+1))],[(1001,bB FR 1001 1004 8 H),(1004,bD 8 H),(1028,⟨j,bJ PV.s (l++more.take (j+1)),true,some 9⟩)],1032⟩) (fun j=>j+1≤more.length) 0 (fun _=>bQ rfl) (by omega) ?_ ?_
 ·(refine AS.Le.of (by first|decide|omega) ?_ ?_<;>simp[cl,cj,aF,ar,AV.bd,AV.bd.bdL,u8,ah,ai,aq])
  exact⟨lu _ _ _ _ _ _ (by decide) (by decide),ly _ _ _,fun c hc=>ey hc⟩
 ·intro j hj R hR;have hlr:(l++more.take (j+1)).length=l.length+1+j:=by rw[bC,cG];omega
  have q0:(bJ PV.s (l++more.take (j+1))).length=l.length+1+j:=by rw[dI eQ.s,hlr,dP]
  have q1:List.take (l.length+1+j) (bJ PV.s (l++more.take (j+1)))=bJ PV.s (l++more.take (j+1)):=bM (by omega)
  by_cases hjt:j+1<more.length
  ·have e2:=getD_map PV.s more ([]:Bytes) hjt;have hgo:=hR (j+1) (by omega) (by omega)
   rw[bj ([]:Bytes) hjt,←gF,dM]at hgo;generalize more.getD (j+1) ([]:Bytes)=y at e2 hgo;have e3: ∀ _:True,((j:Int)+1).toNat=j+1:=fun _=>by omega
   clear hR hlr;repeat' first|simp only[go_sem,seval,q0,q1,e2,e3 trivial]|refine cP ((ht _)) ?_|refine sB ?_|(first|apply pX|apply bX)<;>intro hc|refine⟨oD,?_⟩|exact oD|fail
   refine hgo _ ?_
   (refine AS.Le.of (by first|decide|omega) ?_ ?_<;>simp[cl,cj,aF,ar,AV.bd,AV.bd.bdL,u8,ah,ai,aq])
   all_goals first|omega|exact⟨lu _ _ _ _ _ _ (by decide) (by decide),ly _ _ _,by rw[q1];rfl,fun c hc=>by rcases hc with hc|⟨a,ha,rfl⟩;exact ey hc;rfl⟩
  ·have h:j+1=more.length:=by omega
   rw[h,cM]at q0 q1⊢;repeat' first|simp only[go_sem,seval,q0,q1]|refine sB ?_|(first|apply pX|apply bX)<;>intro hc|refine⟨oD,?_⟩|exact oD|fail
   have hP:(l++more).length=l.length+1+j:=by rw[bC];omega
   have hPb: ∀i,i≤(l++more).length→(H++cU ((l++more).take i)).length≤9+i*100008:=fun i hi=>by
    rw[bC,hHl];have h1:=pD ((l++more).take i) (n:=100000) fun s hs=>hb s (iW hs)
    rw[cG,oO hi]at h1;omega
   clear hR ht hmr hml hH hpos;rw[←hP];rw[←hP]at q0;generalize hPP:l++more=P at*;have hP3:P.length≤1000:=by rw[hP];omega
   refine aj (α:=Nat) (fun i=>P.length-i) (fun i=>⟨[(9, .p 1001 0 0),(41, .rs 1028 j 0 P.length 1),(42,E' P.length),(43,E' i)],[(1001,bB FR 1001 1004 (8+9*i) (H++cU (P.take i))),(1004,bD (8+9*i) (H++cU (P.take i))),(1028,⟨j,bJ PV.s P,true,some 9⟩)],1036⟩) (fun i=>i≤P.length) 0 (fun _=>bQ rfl) (aL _) ?_ ?_
   ·(refine AS.Le.of (by first|decide|omega) ?_ ?_<;>simp[cl,cj,aF,ar,AV.bd,AV.bd.bdL,u8,ah,ai,aq])
    have e0:H++cU []=H:=ia H;rw[e0];exact⟨rfl,lu _ _ _ _ _ _ (by decide) (by decide),rfl,ly _ _ _,fun c hc=>ey hc⟩
   ·intro i hi R hR
    by_cases hit:i<P.length
    ·have e2:=sG (f:=PV.s) (fun _=>rfl) P ([]:Bytes) hit
     have hgo:=hR (i+1) (by omega) (by omega)
     have hbs:=hb (P.getD i []) (ay [] hit);have hPi:=hPb i hi;rw[bj ([]:Bytes) hit,nZ,←gF,←gF]at hgo;generalize P.getD i []=y at e2 hgo hbs;generalize hB:H++cU (P.take i)=B at hgo hPi⊢;have w1:=fun nm=>rY 1001 1004 nm (8+9*i) B y.length (by decide) (by omega) (by omega)
     have w2:=fun nm=>Wa FR 1001 1004 nm (8+9*i+8) (B++be 8 y.length) y (by decide) (by rw[bC,b9];omega)
     simp only[show 8+9*(i+1)=8+9*i+8+1 by omega]at hgo
     clear hR hb hPb;repeat' first|simp only[go_sem,seval,q0,e2]|(refine br (w1 _) (by simp[ar]) ?_)|(refine br (w2 _) (by simp[ar]) ?_)|refine sB ?_|(first|apply pX|apply bX)<;>intro hc|refine⟨oD,?_⟩|exact oD|fail
     refine hgo _ ?_
     (refine AS.Le.of (by first|decide|omega) ?_ ?_<;>simp[cl,cj,aF,ar,AV.bd,AV.bd.bdL,u8,ah,ai,aq])
     all_goals exact⟨lu _ _ _ _ _ _ (by decide) (by decide),ly _ _ _,fun c hc=>ey hc⟩
    ·have h:i=P.length:=by omega
     rw[h,cM];have hl2:=hPb P.length (au _);rw[cM]at hl2;have hne:H++cU P≠[]:=by intro h0;have:=congrArg List.length h0;rw[bC,hHl]at this;simp at this
     generalize H++cU P=B at hl2 hne⊢;have w3:=fun nm=>Ln FR 1001 1004 nm (8+9*P.length) B (by decide) (fun h0=>hne (jz.1 h0)) (by omega)
     have hsu:=rK (s:=B) (by omega)
     repeat' first|simp only[go_sem,seval,q0]|(refine br (w3 _) (by simp[ar]) ?_)|refine cP hsu ?_|refine sB ?_|(first|apply pX|apply bX)<;>intro hc|refine⟨oD,?_⟩|exact oD|fail
theorem Ni (k:Nat) {c:Int} (hc:c=IntKind.u8.wrap (k:Int)) (l more:List Bytes) (hm:more≠[]) (hn:l.length+more.length≤1000) (hb: ∀s∈l++more,s.length≤100000):aD Tryz.prog 276 [.i .u8 c, .sl (l.map .s), .sl (more.map .s), .fn (.func 277)] (.s (mP (im k (l++more)))):=by
 subst hc;obtain⟨m0,mr,hmr⟩: ∃m0 mr,more=m0::mr:=by cases more with
  |nil=>exact absurd rfl hm
  |cons a b=>exact⟨a,b,rfl⟩
 have hml:more.length=mr.length+1:=by rw[hmr];rfl
 have w1:=fun nm=>U0 FR Fx 1001 nm k
 have w2:=fun nm=>rY 1001 1004 nm 0 [UInt8.ofNat k] (l.length+more.length) (by decide) (dQ (au 1) (by decide)) (by omega)
 have ht:=Ij;have hpos: ∀ _:True,(0:Int)<(more.length:Int):=fun _=>by omega
 have g0:(more.map PV.s).getD 0 .fn0= .s m0:=by rw[hmr];rfl
 have c1: ∀x∈l.map PV.s,x.cells.length=1:=fun x hx=>by obtain⟨c,-,rfl⟩:=a5.1 hx;rfl
 refine eW Tryz.call276 Tryz.func276 ?_;repeat' first|simp only[go_sem,seval]|(refine br (w1 _) (by simp[ar,bF]) ?_)|(refine br (w2 _) (by simp[ar]) ?_)|refine sB ?_|(first|apply pX|apply bX)<;>intro hc|refine⟨oD,?_⟩|exact oD|fail
 refine ae ?_;repeat' first|simp only[go_sem,seval,g0,hpos trivial]|refine cP ((ht _)) ?_|refine sB ?_|(first|apply pX|apply bX)<;>intro hc|refine⟨oD,?_⟩|exact oD|fail
 refine⟨⟨by omega,c1⟩,?_⟩
 repeat' first|simp only[go_sem,seval]|refine cP ((ht _)) ?_|refine sB ?_|(first|apply pX|apply bX)<;>intro hc|refine⟨oD,?_⟩|exact oD|fail
 refine⟨⟨c1,by omega,by omega⟩,rfl,?_⟩
 have hro:List.map AV.v (List.flatMap PV.cells (List.map PV.s l))++[AV.v (PV.s m0)]=bJ PV.s (l++more.take 1):=by
  rw[hmr,bJ,re,eB,ug];rfl
 rw[hro];obtain⟨H,hH⟩: ∃H,H=UInt8.ofNat k::be 8 (l.length+more.length):=⟨_,rfl⟩;rw[←hH];have hHl:H.length=9:=by rw[hH,List.length_cons,b9]
 have hfr:im k (l++more)=H++cU (l++more):=by rw[hH,im,bC];rfl
 rw[hfr];clear hro hfr w1 w2 g0 c1;refine aj (α:=Nat) (fun j=>more.length-j) (fun j=>⟨[(1, .rs 1028 j 0 (l.length+1+j) 1),(3, .v (.fn (.func 277))),(9, .p 1001 0 0),(23, .v (.sl (more.map PV.s))),(24,E' more.length),(25,E' (j+1))],[(1001,bB FR 1001 1004 8 H),(1004,bD 8 H),(1028,⟨j,bJ PV.s (l++more.take (j+1)),true,some 9⟩)],1032⟩) (fun j=>j+1≤more.length) 0 (fun _=>bQ rfl) (by omega) ?_ ?_
 ·(refine AS.Le.of (by first|decide|omega) ?_ ?_<;>simp[cl,cj,aF,ar,AV.bd,AV.bd.bdL,u8,ah,ai,aq])
  exact⟨lu _ _ _ _ _ _ (by decide) (by decide),ly _ _ _,fun c hc=>ey hc⟩
 ·intro j hj R hR;have hlr:(l++more.take (j+1)).length=l.length+1+j:=by rw[bC,cG];omega
  have q0:(bJ PV.s (l++more.take (j+1))).length=l.length+1+j:=by rw[dI eQ.s,hlr,dP]
  have q1:List.take (l.length+1+j) (bJ PV.s (l++more.take (j+1)))=bJ PV.s (l++more.take (j+1)):=bM (by omega)
  by_cases hjt:j+1<more.length
  ·have e2:=getD_map PV.s more ([]:Bytes) hjt;have hgo:=hR (j+1) (by omega) (by omega)
   rw[bj ([]:Bytes) hjt,←gF,dM]at hgo;generalize more.getD (j+1) ([]:Bytes)=y at e2 hgo;have e3: ∀ _:True,((j:Int)+1).toNat=j+1:=fun _=>by omega
   clear hR hlr;repeat' first|simp only[go_sem,seval,q0,q1,e2,e3 trivial]|refine cP ((ht _)) ?_|refine sB ?_|(first|apply pX|apply bX)<;>intro hc|refine⟨oD,?_⟩|exact oD|fail
   refine hgo _ ?_
   (refine AS.Le.of (by first|decide|omega) ?_ ?_<;>simp[cl,cj,aF,ar,AV.bd,AV.bd.bdL,u8,ah,ai,aq])
   all_goals first|omega|exact⟨lu _ _ _ _ _ _ (by decide) (by decide),ly _ _ _,by rw[q1];rfl,fun c hc=>by rcases hc with hc|⟨a,ha,rfl⟩;exact ey hc;rfl⟩
  ·have h:j+1=more.length:=by omega
   rw[h,cM]at q0 q1⊢;repeat' first|simp only[go_sem,seval,q0,q1]|refine sB ?_|(first|apply pX|apply bX)<;>intro hc|refine⟨oD,?_⟩|exact oD|fail
   have hP:(l++more).length=l.length+1+j:=by rw[bC];omega
   have hPb: ∀i,i≤(l++more).length→(H++cU ((l++more).take i)).length≤9+i*100008:=fun i hi=>by
    rw[bC,hHl];have h1:=pD ((l++more).take i) (n:=100000) fun s hs=>hb s (iW hs)
    rw[cG,oO hi]at h1;omega
   clear hR ht hmr hml hH hpos;rw[←hP];rw[←hP]at q0;generalize hPP:l++more=P at*;have hP3:P.length≤1000:=by rw[hP];omega
   refine aj (α:=Nat) (fun i=>P.length-i) (fun i=>⟨[(9, .p 1001 0 0),(41, .rs 1028 j 0 P.length 1),(42,E' P.length),(43,E' i)],[(1001,bB FR 1001 1004 (8+9*i) (H++cU (P.take i))),(1004,bD (8+9*i) (H++cU (P.take i))),(1028,⟨j,bJ PV.s P,true,some 9⟩)],1036⟩) (fun i=>i≤P.length) 0 (fun _=>bQ rfl) (aL _) ?_ ?_
   ·(refine AS.Le.of (by first|decide|omega) ?_ ?_<;>simp[cl,cj,aF,ar,AV.bd,AV.bd.bdL,u8,ah,ai,aq])
    have e0:H++cU []=H:=ia H;rw[e0];exact⟨rfl,lu _ _ _ _ _ _ (by decide) (by decide),rfl,ly _ _ _,fun c hc=>ey hc⟩
   ·intro i hi R hR
    by_cases hit:i<P.length
    ·have e2:=sG (f:=PV.s) (fun _=>rfl) P ([]:Bytes) hit
     have hgo:=hR (i+1) (by omega) (by omega)
     have hbs:=hb (P.getD i []) (ay [] hit);have hPi:=hPb i hi;rw[bj ([]:Bytes) hit,nZ,←gF,←gF]at hgo;generalize P.getD i []=y at e2 hgo hbs;generalize hB:H++cU (P.take i)=B at hgo hPi⊢;have w1:=fun nm=>rY 1001 1004 nm (8+9*i) B y.length (by decide) (by omega) (by omega)
     have w2:=fun nm=>Wa FR 1001 1004 nm (8+9*i+8) (B++be 8 y.length) y (by decide) (by rw[bC,b9];omega)
     simp only[show 8+9*(i+1)=8+9*i+8+1 by omega]at hgo
     clear hR hb hPb;repeat' first|simp only[go_sem,seval,q0,e2]|(refine br (w1 _) (by simp[ar]) ?_)|(refine br (w2 _) (by simp[ar]) ?_)|refine sB ?_|(first|apply pX|apply bX)<;>intro hc|refine⟨oD,?_⟩|exact oD|fail
     refine hgo _ ?_
     (refine AS.Le.of (by first|decide|omega) ?_ ?_<;>simp[cl,cj,aF,ar,AV.bd,AV.bd.bdL,u8,ah,ai,aq])
     all_goals exact⟨lu _ _ _ _ _ _ (by decide) (by decide),ly _ _ _,fun c hc=>ey hc⟩
    ·have h:i=P.length:=by omega
     rw[h,cM];have hl2:=hPb P.length (au _);rw[cM]at hl2;have hne:H++cU P≠[]:=by intro h0;have:=congrArg List.length h0;rw[bC,hHl]at this;simp at this
     generalize H++cU P=B at hl2 hne⊢;have w3:=fun nm=>Ln FR 1001 1004 nm (8+9*P.length) B (by decide) (fun h0=>hne (jz.1 h0)) (by omega)
     have hsu:=rK (s:=B) (by omega)
     repeat' first|simp only[go_sem,seval,q0]|(refine br (w3 _) (by simp[ar]) ?_)|refine cP hsu ?_|refine sB ?_|(first|apply pX|apply bX)<;>intro hc|refine⟨oD,?_⟩|exact oD|fail
theorem Nh (k:Nat) {c:Int} (hc:c=IntKind.u8.wrap (k:Int)) (l:List Bytes) (n:Bool) (a:Bytes) (hn:l.length≤999) (hb: ∀s∈l++[m9 (n,a)],s.length≤100000):aD Tryz.prog 331 [.i .u8 c, .sl (l.map .s), .sl [.agg [.b n, .s a]], .fn (.func 332)] (.s (mP (im k (l++[m9 (n,a)])))):=by
 subst hc;have ha:a.length<1000000:=by
  have:=hb (m9 (n,a)) (by simp)
  simp only[m9,List.length_cons]at this;omega
 have w1:=fun nm=>U0 FR Fx 1001 nm k
 have w2:=fun nm=>rY 1001 1004 nm 0 [UInt8.ofNat k] (l.length+1) (by decide) (dQ (au 1) (by decide)) (by omega)
 have ht:=Ii n a ha;have c1: ∀x∈l.map PV.s,x.cells.length=1:=fun x hx=>by obtain⟨c,-,rfl⟩:=a5.1 hx;rfl
 refine eW Tryz.call331 Tryz.func331 ?_;repeat' first|simp only[go_sem,seval]|(refine br (w1 _) (by simp[ar,bF]) ?_)|(refine br (w2 _) (by simp[ar]) ?_)|refine sB ?_|(first|apply pX|apply bX)<;>intro hc|refine⟨oD,?_⟩|exact oD|fail
 refine ae ?_;repeat' first|simp only[go_sem,seval]|refine cP ht ?_|refine sB ?_|(first|apply pX|apply bX)<;>intro hc|refine⟨oD,?_⟩|exact oD|fail
 refine⟨⟨by omega,c1⟩,?_⟩
 repeat' first|simp only[go_sem,seval]|refine cP ht ?_|refine sB ?_|(first|apply pX|apply bX)<;>intro hc|refine⟨oD,?_⟩|exact oD|fail
 refine⟨⟨c1,by omega,by omega⟩,rfl,?_⟩
 refine ae ?_;repeat' first|simp only[go_sem,seval]|refine sB ?_|(first|apply pX|apply bX)<;>intro hc|refine⟨oD,?_⟩|exact oD|fail
 have hro:List.map AV.v (List.flatMap PV.cells (List.map PV.s l))++[AV.v (PV.s (m9 (n,a)))]=bJ PV.s (l++[m9 (n,a)]):=by
  rw[bJ,re,eB,ug];rfl
 rw[hro];obtain⟨H,hH⟩: ∃H,H=UInt8.ofNat k::be 8 (l.length+1):=⟨_,rfl⟩;rw[←hH];have hHl:H.length=9:=by rw[hH,List.length_cons,b9]
 have hfr:im k (l++[m9 (n,a)])=H++cU (l++[m9 (n,a)]):=by rw[hH,im,bC];rfl
 rw[hfr];have hP:(l++[m9 (n,a)]).length=l.length+1:=by rw[bC];rfl
 have q0:(bJ PV.s (l++[m9 (n,a)])).length=(l++[m9 (n,a)]).length:=by rw[dI eQ.s,dP]
 have hPb: ∀i,i≤(l++[m9 (n,a)]).length→(H++cU ((l++[m9 (n,a)]).take i)).length≤9+i*100008:=fun i hi=>by
  rw[bC,hHl];have h1:=pD ((l++[m9 (n,a)]).take i) (n:=100000) fun s hs=>hb s (iW hs)
  rw[cG,oO hi]at h1;omega
 clear hro hfr w1 w2 c1 hH;rw[←hP];generalize l++[m9 (n,a)]=P at*;have hP3:P.length≤1000:=by rw[hP];omega
 clear ha ht hP;refine aj (α:=Nat) (fun i=>P.length-i) (fun i=>⟨[(9, .p 1001 0 0),(41, .rs 1029 0 0 P.length 1),(42,E' P.length),(43,E' i)],[(1001,bB FR 1001 1004 (8+9*i) (H++cU (P.take i))),(1004,bD (8+9*i) (H++cU (P.take i))),(1029,⟨0,bJ PV.s P,true,some 9⟩)],1037⟩) (fun i=>i≤P.length) 0 (fun _=>bQ rfl) (aL _) ?_ ?_
 ·(refine AS.Le.of (by first|decide|omega) ?_ ?_<;>simp[cl,cj,aF,ar,AV.bd,AV.bd.bdL,u8,ah,ai,aq])
  have e0:H++cU []=H:=ia H;rw[e0];exact⟨rfl,lu _ _ _ _ _ _ (by decide) (by decide),rfl,ly _ _ _,fun c hc=>ey hc⟩
 ·intro i hi R hR
  by_cases hit:i<P.length
  ·have e2:=sG (f:=PV.s) (fun _=>rfl) P ([]:Bytes) hit
   have hgo:=hR (i+1) (by omega) (by omega)
   have hbs:=hb (P.getD i []) (ay [] hit);have hPi:=hPb i hi;rw[bj ([]:Bytes) hit,nZ,←gF,←gF]at hgo;generalize P.getD i []=y at e2 hgo hbs;generalize hB:H++cU (P.take i)=B at hgo hPi⊢;have w1:=fun nm=>rY 1001 1004 nm (8+9*i) B y.length (by decide) (by omega) (by omega)
   have w2:=fun nm=>Wa FR 1001 1004 nm (8+9*i+8) (B++be 8 y.length) y (by decide) (by rw[bC,b9];omega)
   simp only[show 8+9*(i+1)=8+9*i+8+1 by omega]at hgo
   clear hR hb hPb;repeat' first|simp only[go_sem,seval,q0,e2]|(refine br (w1 _) (by simp[ar]) ?_)|(refine br (w2 _) (by simp[ar]) ?_)|refine sB ?_|(first|apply pX|apply bX)<;>intro hc|refine⟨oD,?_⟩|exact oD|fail
   refine hgo _ ?_
   (refine AS.Le.of (by first|decide|omega) ?_ ?_<;>simp[cl,cj,aF,ar,AV.bd,AV.bd.bdL,u8,ah,ai,aq])
   all_goals exact⟨lu _ _ _ _ _ _ (by decide) (by decide),ly _ _ _,fun c hc=>ey hc⟩
  ·have h:i=P.length:=by omega
   rw[h,cM];have hl2:=hPb P.length (au _);rw[cM]at hl2;have hne:H++cU P≠[]:=by intro h0;have:=congrArg List.length h0;rw[bC,hHl]at this;simp at this
   generalize H++cU P=B at hl2 hne⊢;have w3:=fun nm=>Ln FR 1001 1004 nm (8+9*P.length) B (by decide) (fun h0=>hne (jz.1 h0)) (by omega)
   have hsu:=rK (s:=B) (by omega)
   repeat' first|simp only[go_sem,seval,q0]|(refine br (w3 _) (by simp[ar]) ?_)|refine cP hsu ?_|refine sB ?_|(first|apply pX|apply bX)<;>intro hc|refine⟨oD,?_⟩|exact oD|fail
end Go.Proofs.YtmobkhegihemeaaGreatDoor
