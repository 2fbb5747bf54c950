/-
  Part of the proof, part FA30. Own work.
-/
import Derived.Test.YtfdjchnefpefbaaGreatDoorFA28
import Derived.Test.YtfdjchnefpefbaaGreatDoorFA29
set_option linter.all false
namespace Go.Proofs.YtfdjchnefpefbaaGreatDoor
open Go Go.Dom
set_option maxRecDepth 100000
set_option maxHeartbeats 16000000
theorem L4:XT Tryz.prog 455:=by
 intro v w;have h1:(Tryz.f455.name== "runtime.NumGoroutine")=false:=by kernel_rfl
 have h2:Tryz.f455.body.isNone=true:=by kernel_rfl
 have h3:(Extern.findNext Tryz.f455).isNone=true:=by kernel_rfl
 have h4:Extern.find Tryz.f455=some Extern.AbiNoEscape.same:=by kernel_rfl
 have h3':Extern.findNext Tryz.f455=none:=by simpa using h3
 simp only[callFunc,bG,run_program,Result.andThen,Tryz.func455,h1,h2,h3',h4,if_true,aX,if_false];rfl
def bF (el:TypeId):au:=⟨0,[.v .p0, .sn],false,some el⟩
def bS (el:TypeId) (b:Nat):au:=⟨0,[.p b 0 0, .sn],false,some el⟩
def bB (el:TypeId) (b d ver:Nat) (bs:Bytes):au:=⟨0,[.p b 0 0, .rs d ver 0 bs.length 1],false,some el⟩
def bD (ver:Nat) (bs:Bytes):au:=⟨ver,ay bs,true,some 5⟩
theorem EM (l:Bytes):(∀y,y∈ay l->y= .v (.i .u8 (y.byte.toNat:Int)))=True:=H3 l
theorem V6:liesAt Tryz.prog Tryz.prog.depth 351 (2/Tryz.prog.cellsOf 351) 0 351 1=true:=by kernel_rfl
theorem G3:liesAt Tryz.prog Tryz.prog.depth 363 (2/Tryz.prog.cellsOf 363) 0 351 1=true:=by kernel_rfl
theorem b1 (c:Nat):[AV.v (.i .u8 (IntKind.u8.wrap (c:Int)))]=ay [UInt8.ofNat c]:=rfl
theorem Rc (el:TypeId) (hl:liesAt Tryz.prog Tryz.prog.depth el (2/Tryz.prog.cellsOf el) 0 351 1=true) (b nm:Nat):iB Tryz.prog 400 nm [(b,bF el)] [.p b 0 0] (.tup []) [(b,some (bS el b))]:=by
 have hbd':True:=trivial;refine iB.w mixed Tryz.call400 Tryz.func400 rfl (je.1 _ _ _ (by cbv)) (je.2 _ _ (by cbv)) (obs:=[bF el]) (args:=[.p 0 0 0]) (fs:=[some (some (bS el 0))]) (j:=none) (nw:=none) (v:= .tup []) (ns:=[b]) (obsA:=[bF el]) rfl ?_ (by simp) (by simp) rfl (by simp[aQ,au.aF,AV.aF,AV.aF.renL,cq,ax,hbd',bF,bS,bB,bD]) (by simp[aQ,AV.aF,AV.aF.renL,cq,hbd']) (by simp[AV.aF,AV.aF.renL]) (by simp[eK,outs,au.aF,AV.aF,AV.aF.renL,ax,gb,bF,bS,bB,bD])
 simp only[go_sem,seval,bF,bS,bB,bD];repeat' first|simp only[go_sem,seval,bZ,bR,true_or,or_true,false_or,or_false,ae,ga,dS,fL,fh,fj,dT,nu,oe,fB,fQ,cJ,aB,AV.aF,AV.aF.renL,ax,bF,bB,bD,bS,hl]|refine NZ L4 ?_|refine sB ?_|apply xX<;>intro hc|refine⟨oD,?_⟩|exact oD|fail
theorem Rb (el:TypeId) (b d nm ver:Nat) (bs:Bytes) (hbd:b≠d):iB Tryz.prog 400 nm [(b,bB el b d ver bs),(d,bD ver bs)] [.p b 0 0] (.tup []) []:=by
 have hbd':=hbd.symm;refine iB.w mixed Tryz.call400 Tryz.func400 rfl (je.1 _ _ _ (by cbv)) (je.2 _ _ (by cbv)) (obs:=[bB el 0 1 ver bs,bD ver bs]) (args:=[.p 0 0 0]) (fs:=[none,none]) (j:=none) (nw:=none) (v:= .tup []) (ns:=[b,d]) (obsA:=[bB el b d ver bs,bD ver bs]) rfl ?_ (by simp) (by simp[hbd]) rfl (by simp[aQ,au.aF,AV.aF,AV.aF.renL,cq,ax,hbd',bF,bB,bD]) (by simp[aQ,AV.aF,AV.aF.renL,cq,hbd']) (by simp[AV.aF,AV.aF.renL]) (by simp[eK,outs,au.aF,AV.aF,AV.aF.renL,ax,gb,bF,bB,bD])
 simp only[go_sem,seval,bF,bB,bD];repeat' first|simp only[go_sem,seval,bZ,bR,true_or,or_true,false_or,or_false,ae,ga,dS,fL,fh,fj,dT,nu,oe,fB,fQ,cJ,aB,AV.aF,AV.aF.renL,ax,bF,bB,bD]|refine sB ?_|apply xX<;>intro hc|refine⟨oD,?_⟩|exact oD|fail
theorem XA (el:TypeId) (hl:liesAt Tryz.prog Tryz.prog.depth el (2/Tryz.prog.cellsOf el) 0 351 1=true) (b nm:Nat) (c:Nat):iB Tryz.prog 297 nm [(b,bF el)] [.p b 0 0, .v (.i .u8 (IntKind.u8.wrap (c:Int)))] (.v .if0) [(nm,some (bD 0 [UInt8.ofNat c])),(b,some (bB el b nm 0 [UInt8.ofNat c]))]:=by
 have hbd':True:=trivial;refine iB.w mixed Tryz.call297 Tryz.func297 rfl (je.1 _ _ _ (by cbv)) (je.2 _ _ (by cbv)) (obs:=[bF el]) (args:=[.p 0 0 0, .v (.i .u8 (IntKind.u8.wrap (c:Int)))]) (fs:=[some (some (bB el 0 1 0 [UInt8.ofNat c]))]) (j:=some 1010) (nw:=(some (bD 0 [UInt8.ofNat c]))) (v:= .v .if0) (ns:=[b]) (obsA:=[bF el]) rfl ?_ (by simp) (by simp) rfl (by simp[aQ,au.aF,AV.aF,AV.aF.renL,cq,ax,hbd',bF,bB,bD]) (by simp[aQ,AV.aF,AV.aF.renL,cq,hbd']) (by simp[AV.aF,AV.aF.renL]) (by simp[eK,outs,au.aF,AV.aF,AV.aF.renL,ax,gb,bF,bB,bD])
 simp only[go_sem,seval,bF,bB,bD];repeat' first|simp only[go_sem,seval,bZ,bR,true_or,or_true,false_or,or_false,ae,ga,dS,fL,fh,fj,dT,nu,oe,fB,fQ,cJ,aB,AV.aF,AV.aF.renL,ax,bF,bB,bD,bS]|(refine bC (Rc el hl 0 _) (by simp[aj,bF,bB,bD]) ?_)|refine sB ?_|apply xX<;>intro hc|refine⟨oD,?_⟩|exact oD|fail
 all_goals first|rfl|exact b1 c|skip
theorem ZL (el:TypeId) (b d nm ver:Nat) (bs:Bytes) (c:Nat) (hbd:b≠d) (hs:bs.length<1099511627776):iB Tryz.prog 297 nm [(b,bB el b d ver bs),(d,bD ver bs)] [.p b 0 0, .v (.i .u8 (IntKind.u8.wrap (c:Int)))] (.v .if0) [(b,some (bB el b d (ver+1) (bs++[UInt8.ofNat c]))),(d,some (bD (ver+1) (bs++[UInt8.ofNat c])))]:=by
 have hbd':=hbd.symm;refine iB.w mixed Tryz.call297 Tryz.func297 rfl (je.1 _ _ _ (by cbv)) (je.2 _ _ (by cbv)) (obs:=[bB el 0 1 ver bs,bD ver bs]) (args:=[.p 0 0 0, .v (.i .u8 (IntKind.u8.wrap (c:Int)))]) (fs:=[some (some (bB el 0 1 (ver+1) (bs++[UInt8.ofNat c]))),some (some (bD (ver+1) (bs++[UInt8.ofNat c])))]) (j:=none) (nw:=none) (v:= .v .if0) (ns:=[b,d]) (obsA:=[bB el b d ver bs,bD ver bs]) rfl ?_ (by simp) (by simp[hbd]) rfl (by simp[aQ,au.aF,AV.aF,AV.aF.renL,cq,ax,hbd',bF,bB,bD]) (by simp[aQ,AV.aF,AV.aF.renL,cq,hbd']) (by simp[AV.aF,AV.aF.renL]) (by simp[eK,outs,au.aF,AV.aF,AV.aF.renL,ax,gb,bF,bB,bD])
 simp only[go_sem,seval,bF,bB,bD];repeat' first|simp only[go_sem,seval,bZ,bR,true_or,or_true,false_or,or_false,ae,ga,dS,fL,fh,fj,dT,nu,oe,fB,fQ,cJ,aB,AV.aF,AV.aF.renL,ax,bF,bB,bD,bm,q9,l8,cK]|(refine bC (Rb el 0 1 _ ver bs oC) (by simp[aj,bF,bB,bD]) ?_)|refine sB ?_|apply xX<;>intro hc|refine⟨oD,?_⟩|exact oD|fail
theorem wsF (el:TypeId) (hl:liesAt Tryz.prog Tryz.prog.depth el (2/Tryz.prog.cellsOf el) 0 351 1=true) (b nm:Nat) (s:Bytes) (h0:s.length≠0) (hs:s.length<1099511627776):iB Tryz.prog 296 nm [(b,bF el)] [.p b 0 0, .v (.s s)] (.tup [.v (.i .i64 (s:Bytes).length), .v .if0]) [(nm,some (bD 0 s)),(b,some (bB el b nm 0 s))]:=by
 have hbd':True:=trivial;refine iB.w mixed Tryz.call296 Tryz.func296 rfl (je.1 _ _ _ (by cbv)) (je.2 _ _ (by cbv)) (obs:=[bF el]) (args:=[.p 0 0 0, .v (.s s)]) (fs:=[some (some (bB el 0 1 0 s))]) (j:=some 1010) (nw:=(some (bD 0 s))) (v:= .tup [.v (.i .i64 (s:Bytes).length), .v .if0]) (ns:=[b]) (obsA:=[bF el]) rfl ?_ (by simp) (by simp) rfl (by simp[aQ,au.aF,AV.aF,AV.aF.renL,cq,ax,hbd',bF,bB,bD]) (by simp[aQ,AV.aF,AV.aF.renL,cq,hbd']) (by simp[AV.aF,AV.aF.renL]) (by simp[eK,outs,au.aF,AV.aF,AV.aF.renL,ax,gb,bF,bB,bD])
 simp only[go_sem,seval,bF,bB,bD];repeat' first|simp only[go_sem,seval,bZ,bR,true_or,or_true,false_or,or_false,ae,ga,dS,fL,fh,fj,dT,nu,oe,fB,fQ,cJ,aB,AV.aF,AV.aF.renL,ax,bF,bB,bD,bS,h0]|(refine bC (Rc el hl 0 _) (by simp[aj,bF,bB,bD]) ?_)|refine sB ?_|apply xX<;>intro hc|refine⟨oD,?_⟩|exact oD|fail
theorem Za (el:TypeId) (b d nm ver:Nat) (bs s:Bytes) (hbd:b≠d) (hs:bs.length+s.length<1099511627776):iB Tryz.prog 296 nm [(b,bB el b d ver bs),(d,bD ver bs)] [.p b 0 0, .v (.s s)] (.tup [.v (.i .i64 (s:Bytes).length), .v .if0]) [(b,some (bB el b d (ver+1) (bs++s))),(d,some (bD (ver+1) (bs++s)))]:=by
 have hbd':=hbd.symm;refine iB.w mixed Tryz.call296 Tryz.func296 rfl (je.1 _ _ _ (by cbv)) (je.2 _ _ (by cbv)) (obs:=[bB el 0 1 ver bs,bD ver bs]) (args:=[.p 0 0 0, .v (.s s)]) (fs:=[some (some (bB el 0 1 (ver+1) (bs++s))),some (some (bD (ver+1) (bs++s)))]) (j:=none) (nw:=none) (v:= .tup [.v (.i .i64 (s:Bytes).length), .v .if0]) (ns:=[b,d]) (obsA:=[bB el b d ver bs,bD ver bs]) rfl ?_ (by simp) (by simp[hbd]) rfl (by simp[aQ,au.aF,AV.aF,AV.aF.renL,cq,ax,hbd',bF,bB,bD]) (by simp[aQ,AV.aF,AV.aF.renL,cq,hbd']) (by simp[AV.aF,AV.aF.renL]) (by simp[eK,outs,au.aF,AV.aF,AV.aF.renL,ax,gb,bF,bB,bD])
 simp only[go_sem,seval,bF,bB,bD];repeat' first|simp only[go_sem,seval,bZ,bR,true_or,or_true,false_or,or_false,ae,ga,dS,fL,fh,fj,dT,nu,oe,fB,fQ,cJ,aB,AV.aF,AV.aF.renL,ax,bF,bB,bD,bm]|(refine bC (Rb el 0 1 _ ver bs oC) (by simp[aj,bF,bB,bD]) ?_)|refine sB ?_|apply xX<;>intro hc|refine⟨oD,?_⟩|exact oD|fail
theorem YP (el:TypeId) (b nm:Nat):iB Tryz.prog 301 nm [(b,bF el)] [.p b 0 0] (.v (.i .i64 0)) []:=by
 have hbd':True:=trivial;refine iB.w mixed Tryz.call301 Tryz.func301 rfl (je.1 _ _ _ (by cbv)) (je.2 _ _ (by cbv)) (obs:=[bF el]) (args:=[.p 0 0 0]) (fs:=[none]) (j:=none) (nw:=none) (v:= .v (.i .i64 0)) (ns:=[b]) (obsA:=[bF el]) rfl ?_ (by simp) (by simp) rfl (by simp[aQ,au.aF,AV.aF,AV.aF.renL,cq,ax,hbd',bF,bB,bD]) (by simp[aQ,AV.aF,AV.aF.renL,cq,hbd']) (by simp[AV.aF,AV.aF.renL]) (by simp[eK,outs,au.aF,AV.aF,AV.aF.renL,ax,gb,bF,bB,bD])
 simp only[go_sem,seval,bF,bB,bD];repeat' first|simp only[go_sem,seval,bZ,bR,true_or,or_true,false_or,or_false,ae,ga,dS,fL,fh,fj,dT,nu,oe,fB,fQ,cJ,aB,AV.aF,AV.aF.renL,ax,bF,bB,bD]|refine sB ?_|apply xX<;>intro hc|refine⟨oD,?_⟩|exact oD|fail
theorem YM (el:TypeId) (b d nm ver:Nat) (bs:Bytes) (hbd:b≠d):iB Tryz.prog 301 nm [(b,bB el b d ver bs),(d,bD ver bs)] [.p b 0 0] (.v (.i .i64 bs.length)) []:=by
 have hbd':=hbd.symm;refine iB.w mixed Tryz.call301 Tryz.func301 rfl (je.1 _ _ _ (by cbv)) (je.2 _ _ (by cbv)) (obs:=[bB el 0 1 ver bs,bD ver bs]) (args:=[.p 0 0 0]) (fs:=[none,none]) (j:=none) (nw:=none) (v:= .v (.i .i64 bs.length)) (ns:=[b,d]) (obsA:=[bB el b d ver bs,bD ver bs]) rfl ?_ (by simp) (by simp[hbd]) rfl (by simp[aQ,au.aF,AV.aF,AV.aF.renL,cq,ax,hbd',bF,bB,bD]) (by simp[aQ,AV.aF,AV.aF.renL,cq,hbd']) (by simp[AV.aF,AV.aF.renL]) (by simp[eK,outs,au.aF,AV.aF,AV.aF.renL,ax,gb,bF,bB,bD])
 simp only[go_sem,seval,bF,bB,bD];repeat' first|simp only[go_sem,seval,bZ,bR,true_or,or_true,false_or,or_false,ae,ga,dS,fL,fh,fj,dT,nu,oe,fB,fQ,cJ,aB,AV.aF,AV.aF.renL,ax,bF,bB,bD]|refine sB ?_|apply xX<;>intro hc|refine⟨oD,?_⟩|exact oD|fail
theorem Nr (el:TypeId) (b d nm ver:Nat) (bs:Bytes) (hbd:b≠d) (h0:bs.length≠0) (hs:bs.length<1099511627776):iB Tryz.prog 298 nm [(b,bB el b d ver bs),(d,bD ver bs)] [.p b 0 0] (.v (.s bs)) [(d,none)]:=by
 have hbd':=hbd.symm;refine iB.w mixed Tryz.call298 Tryz.func298 rfl (je.1 _ _ _ (by cbv)) (je.2 _ _ (by cbv)) (obs:=[bB el 0 1 ver bs,bD ver bs]) (args:=[.p 0 0 0]) (fs:=[none,some none]) (j:=none) (nw:=none) (v:= .v (.s bs)) (ns:=[b,d]) (obsA:=[bB el b d ver bs,bD ver bs]) rfl ?_ (by simp) (by simp[hbd]) rfl (by simp[aQ,au.aF,AV.aF,AV.aF.renL,cq,ax,hbd',bF,bB,bD]) (by simp[aQ,AV.aF,AV.aF.renL,cq,hbd']) (by simp[AV.aF,AV.aF.renL]) (by simp[eK,outs,au.aF,AV.aF,AV.aF.renL,ax,gb,bF,bB,bD])
 simp only[go_sem,seval,bF,bB,bD];repeat' first|simp only[go_sem,seval,bZ,bR,true_or,or_true,false_or,or_false,ae,ga,dS,fL,fh,fj,dT,nu,oe,fB,fQ,cJ,aB,AV.aF,AV.aF.renL,ax,bF,bB,bD,iT,EM]|refine sB ?_|apply xX<;>intro hc|refine⟨oD,?_⟩|exact oD|fail
abbrev FR:TypeId:=363
theorem lW (el:TypeId) (b d ver:Nat) (bs:Bytes) (n:Nat) (hb:b<n) (hd:d<n): ∀c∈(bB el b d ver bs).cells,c.bd n=true:=by
 intro c hc;simp[bB]at hc;rcases hc with rfl|rfl<;>simp[AV.bd,hb,hd]
theorem lZ (ver:Nat) (bs:Bytes) (n:Nat): ∀c∈(bD ver bs).cells,c.bd n=true:=by
 intro c hc;have h:=ak bs n;exact(h▸trivial: ∀y,y∈ay bs->y.bd n=true) c hc
theorem tB (b d nm ver:Nat) (bs:Bytes) (N:Nat) (hbd:b≠d) (hs:bs.length<1000000000000) (hN:N<4611686018427387904):iB Tryz.prog 302 nm [(b,bB FR b d ver bs),(d,bD ver bs)] [.p b 0 0, .v (.i .i64 (N:Int))] (.tup []) [(b,some (bB FR b d (ver+8) (bs++be 8 N))),(d,some (bD (ver+8) (bs++be 8 N)))]:=by
 have hbd':=hbd.symm;refine iB.w mixed Tryz.call302 Tryz.func302 rfl (je.1 _ _ _ (by cbv)) (je.2 _ _ (by cbv)) (obs:=[bB FR 0 1 ver bs,bD ver bs]) (args:=[.p 0 0 0, .v (.i .i64 (N:Int))]) (fs:=[some (some (bB FR 0 1 (ver+8) (bs++be 8 N))),some (some (bD (ver+8) (bs++be 8 N)))]) (j:=none) (nw:=none) (v:= .tup []) (ns:=[b,d]) (obsA:=[bB FR b d ver bs,bD ver bs]) rfl ?_ (by simp) (by simp[hbd]) rfl (by simp[aQ,au.aF,AV.aF,AV.aF.renL,cq,ax,hbd',bB,bD]) (by simp[aQ,AV.aF,AV.aF.renL,cq,hbd']) (by simp[AV.aF,AV.aF.renL]) (by simp[eK,outs,au.aF,AV.aF,AV.aF.renL,ax,gb,bB,bD])
 simp only[go_sem,seval];repeat' first|simp only[go_sem,seval,true_or,or_true,false_or,or_false,ae,ga,dS,fL,fh,fj,dT,nu,oe,fB,fQ,cJ,aB,AV.aF,AV.aF.renL,ax]|refine sB ?_|apply xX<;>intro hc|refine⟨oD,?_⟩|exact oD|fail
 refine af (α:=Nat) (fun k=>8-k) (fun k=>⟨[(0, .p 0 0 0),(1,E' N),(4, .v (.i .i64 (56-8*(k:Int))))],[(0,bB FR 0 1 (ver+k) (bs++(be 8 N).take k)),(1,bD (ver+k) (bs++(be 8 N).take k))],_⟩) (fun k=>k<=8) 0 (fun _=>an _) (aH _) ?_ ?_
 ·refine lG ?_;exact⟨lW _ _ _ _ _ _ oC oC,lZ _ _ _⟩
 ·intro k hk R hR
  by_cases h8:k<8
  ·have hlen:(bs++(be 8 N).take k).length<1099511627776:=by
    rw[bm,bU,cj];omega
   have hw:=fun nm=>ZL FR 0 1 nm (ver+k) (bs++(be 8 N).take k) (N/256^(7-k)) oC hlen
   have hgo:=hR (k+1) oO oO;rw[CN N k h8,<-eU,<-iA]at hgo;rw[eU]at hgo hw;generalize hbb:bs++(be 8 N).take k=bb at hw hgo⊢;clear hR hlen hbb;rcases(by omega:k=0\/k=1\/k=2\/k=3\/k=4\/k=5\/k=6\/k=7)with rfl|rfl|rfl|rfl|rfl|rfl|rfl|rfl
   all_goals simp only[Nat.reduceSub,Nat.reducePow,Nat.pow_zero]at hw hgo
   repeat' first|simp only[go_sem,seval,true_or,or_true,false_or,or_false,ae,ga,dS,fL,fh,fj,dT,nu,oe,fB,fQ,cJ,aB,AV.aF,AV.aF.renL,ax]|(refine bC (hw _) (by simp[aj]) ?_)|refine sB ?_|apply xX<;>intro hc|refine⟨oD,?_⟩|exact oD|fail
   all_goals (refine hgo _ ?_)
   all_goals (refine AS.Le.of (by first|decide|omega) ?_ ?_<;>simp[dM,dL,aK,aj,AV.bd,AV.bd.bdL,u8,ai,ak,ar])
   all_goals exact⟨lW _ _ _ _ _ _ oC oC,lZ _ _ _⟩
  ·have h:k=8:=by omega
   subst h;have e8:(be 8 N).take 8=be 8 N:=cd (by rw[cj];decide)
   rw[e8];repeat' first|simp only[go_sem,seval,true_or,or_true,false_or,or_false,ae,ga,dS,fL,fh,fj,dT,nu,oe,fB,fQ,cJ,aB,AV.aF,AV.aF.renL,ax,bB,bD]|refine sB ?_|apply xX<;>intro hc|refine⟨oD,?_⟩|exact oD|fail
theorem Td (b nm:Nat) (N:Nat) (hN:N<4611686018427387904):iB Tryz.prog 302 nm [(b,bF FR)] [.p b 0 0, .v (.i .i64 (N:Int))] (.tup []) [(nm,some (bD 7 (be 8 N))),(b,some (bB FR b nm 7 (be 8 N)))]:=by
 have hbd':True:=trivial;refine iB.w mixed Tryz.call302 Tryz.func302 rfl (je.1 _ _ _ (by cbv)) (je.2 _ _ (by cbv)) (obs:=[bF FR]) (args:=[.p 0 0 0, .v (.i .i64 (N:Int))]) (fs:=[some (some (bB FR 0 1 7 (be 8 N)))]) (j:=some 1010) (nw:=some (bD 7 (be 8 N))) (v:= .tup []) (ns:=[b]) (obsA:=[bF FR]) rfl ?_ (by simp) (by simp) rfl (by simp[aQ,au.aF,AV.aF,AV.aF.renL,cq,ax,hbd',bF,bB,bD]) (by simp[aQ,AV.aF,AV.aF.renL,cq,hbd']) (by simp[AV.aF,AV.aF.renL]) (by simp[eK,outs,au.aF,AV.aF,AV.aF.renL,ax,gb,bF,bB,bD])
 simp only[go_sem,seval];have hw0:=fun nm=>XA FR G3 0 nm (N/256^7)
 simp only[Nat.reducePow]at hw0;repeat' first|simp only[go_sem,seval,true_or,or_true,false_or,or_false,ae,ga,dS,fL,fh,fj,dT,nu,oe,fB,fQ,cJ,aB,AV.aF,AV.aF.renL,ax]|(refine bC (hw0 _) (by simp[aj]) ?_)|refine sB ?_|apply xX<;>intro hc|refine⟨oD,?_⟩|exact oD|fail
 refine ah ?_;repeat' first|simp only[go_sem,seval,true_or,or_true,false_or,or_false,ae,ga,dS,fL,fh,fj,dT,nu,oe,fB,fQ,cJ,aB,AV.aF,AV.aF.renL,ax]|(refine bC (hw0 _) (by simp[aj]) ?_)|refine sB ?_|apply xX<;>intro hc|refine⟨oD,?_⟩|exact oD|fail
 have e1:[UInt8.ofNat (N/72057594037927936)]=(be 8 N).take 1:=rfl;rw[e1];refine af (α:=Nat) (fun k=>7-k) (fun k=>⟨[(0, .p 0 0 0),(1,E' N),(4, .v (.i .i64 (48-8*(k:Int))))],[(0,bB FR 0 1010 (0+k) ((be 8 N).take (k+1))),(1010,bD (0+k) ((be 8 N).take (k+1)))],1014⟩) (fun k=>k<=7) 0 (fun _=>cC rfl) (aH _) ?_ ?_
 ·refine lG ?_;exact⟨lW _ _ _ _ _ _ oC oC,lZ _ _ _⟩
 ·intro k hk R hR
  by_cases h8:k<7
  ·have hlen:((be 8 N).take (k+1)).length<1099511627776:=by
    rw[bU,cj];omega
   have hw:=fun nm=>ZL FR 0 1010 nm (0+k) ((be 8 N).take (k+1)) (N/256^(7-(k+1))) oC hlen
   have hgo:=hR (k+1) oO oO;rw[CN N (k+1) oO,<-iA]at hgo;generalize hbb:(be 8 N).take (k+1)=bb at hw hgo⊢;clear hR hlen hbb e1;rcases(by omega:k=0\/k=1\/k=2\/k=3\/k=4\/k=5\/k=6)with rfl|rfl|rfl|rfl|rfl|rfl|rfl
   all_goals simp only[Nat.reduceSub,Nat.reduceAdd,Nat.reducePow,Nat.pow_zero]at hw hgo
   repeat' first|simp only[go_sem,seval,true_or,or_true,false_or,or_false,ae,ga,dS,fL,fh,fj,dT,nu,oe,fB,fQ,cJ,aB,AV.aF,AV.aF.renL,ax,Nat.reduceAdd]|(refine bC (hw _) (by simp[aj]) ?_)|refine sB ?_|apply xX<;>intro hc|refine⟨oD,?_⟩|exact oD|fail
   all_goals (refine hgo _ ?_)
   all_goals (refine AS.Le.of (by first|decide|omega) ?_ ?_<;>simp[dM,dL,aK,aj,AV.bd,AV.bd.bdL,u8,ai,ak,ar])
   all_goals exact⟨lW _ _ _ _ _ _ oC oC,lZ _ _ _⟩
  ·have h:k=7:=by omega
   subst h;have e8:(be 8 N).take (7+1)=be 8 N:=cd (by rw[cj];decide)
   rw[e8];repeat' first|simp only[go_sem,seval,true_or,or_true,false_or,or_false,ae,ga,dS,fL,fh,fj,dT,nu,oe,fB,fQ,cJ,aB,AV.aF,AV.aF.renL,ax,bF,bB,bD]|refine sB ?_|apply xX<;>intro hc|refine⟨oD,?_⟩|exact oD|fail
theorem I6 (s:Bytes):aA Tryz.prog 396 [.s s] (.s s):=by
 refine eW Tryz.call396 Tryz.func396 ?_;exact z0
theorem JT (s:Bytes):aA Tryz.prog 300 [.s s] (.s s):=by
 refine eW Tryz.call300 Tryz.func300 ?_;exact z0
theorem JS (n:Bool) (s:Bytes) (hs:s.length<1000000):aA Tryz.prog 398 [.agg [.b n, .s s]] (.s (nH (n,s))):=by
 cases n;all_goals simp only[nH]
 refine eW Tryz.call398 Tryz.func398 ?_;repeat' first|simp only[go_sem,seval]|refine sB ?_|apply xX<;>intro hc|refine⟨oD,?_⟩|exact oD|fail
 refine eW Tryz.call398 Tryz.func398 ?_;exact z0
theorem Pl (k:Nat) {c:Int} (hc:c=IntKind.u8.wrap (k:Int)) (l more:List Bytes) (hm:more≠[]) (hn:l.length+more.length<=1000) (hb: ∀s∈l++more,s.length<=100000):aA Tryz.prog 395 [.i .u8 c, .sl (l.map .s), .sl (more.map .s), .fn (.func 396)] (.s (lD (iE k (l++more)))):=by
 subst hc;obtain⟨m0,mr,hmr⟩: ∃m0 mr,more=m0::mr:=by cases more with
  |nil=>exact absurd rfl hm
  |cons a b=>exact⟨a,b,rfl⟩
 have hml:more.length=mr.length+1:=by rw[hmr];rfl
 have w1:=fun nm=>XA FR G3 1001 nm k
 have w2:=fun nm=>tB 1001 1004 nm 0 [UInt8.ofNat k] (l.length+more.length) oC (ec (an 1) oC) oO
 have ht:=I6;have hpos: ∀ _:True,(0:Int)<(more.length:Int):=fun _=>by omega
 have g0:(more.map PV.s).getD 0 .fn0= .s m0:=by rw[hmr];rfl
 have c1: ∀x∈l.map PV.s,x.cells.length=1:=fun x hx=>by obtain⟨c,-,rfl⟩:=bw.1 hx;rfl
 refine eW Tryz.call395 Tryz.func395 ?_;repeat' first|simp only[go_sem,seval]|(refine bC (w1 _) (by simp[aj,bF]) ?_)|(refine bC (w2 _) (by simp[aj]) ?_)|refine sB ?_|apply xX<;>intro hc|refine⟨oD,?_⟩|exact oD|fail
 refine ah ?_;repeat' first|simp only[go_sem,seval,g0,hpos trivial]|refine cP ((ht _)) ?_|refine sB ?_|apply xX<;>intro hc|refine⟨oD,?_⟩|exact oD|fail
 refine⟨⟨by omega,c1⟩,?_⟩
 repeat' first|simp only[go_sem,seval]|refine cP ((ht _)) ?_|refine sB ?_|apply xX<;>intro hc|refine⟨oD,?_⟩|exact oD|fail
 refine⟨⟨c1,by omega,by omega⟩,rfl,?_⟩
 have hro:List.map AV.v (List.flatMap PV.cells (List.map PV.s l))++[AV.v (PV.s m0)]=bO PV.s (l++more.take 1):=by
  rw[hmr,bO,sI,dD,wa];rfl
 rw[hro];obtain⟨H,hH⟩: ∃H,H=UInt8.ofNat k::be 8 (l.length+more.length):=⟨_,rfl⟩;rw[<-hH];have hHl:H.length=9:=by rw[hH,List.length_cons,cj]
 have hfr:iE k (l++more)=H++cW (l++more):=by rw[hH,iE,bm];rfl
 rw[hfr];clear hro hfr w1 w2 g0 c1;refine af (α:=Nat) (fun j=>more.length-j) (fun j=>⟨[(1, .rs 1028 j 0 (l.length+1+j) 1),(3, .v (.fn (.func 396))),(9, .p 1001 0 0),(23, .v (.sl (more.map PV.s))),(24,E' more.length),(25,E' (j+1))],[(1001,bB FR 1001 1004 8 H),(1004,bD 8 H),(1028,⟨j,bO PV.s (l++more.take (j+1)),true,some 9⟩)],1032⟩) (fun j=>j+1<=more.length) 0 (fun _=>cC rfl) oO ?_ ?_
 ·refine lG ?_;exact⟨lW _ _ _ _ _ _ oC oC,lZ _ _ _,fun c hc=>eu hc⟩
 ·intro j hj R hR;have hlr:(l++more.take (j+1)).length=l.length+1+j:=by rw[bm,bU];omega
  have q0:(bO PV.s (l++more.take (j+1))).length=l.length+1+j:=by rw[de dV.s,hlr,dG]
  have q1:List.take (l.length+1+j) (bO PV.s (l++more.take (j+1)))=bO PV.s (l++more.take (j+1)):=cd oO
  by_cases hjt:j+1<more.length
  ·have e2:=getD_map PV.s more ([]:Bytes) hjt;have hgo:=hR (j+1) oO oO;rw[bu ([]:Bytes) hjt,<-eU,dh]at hgo;generalize more.getD (j+1) ([]:Bytes)=y at e2 hgo;have e3: ∀ _:True,((j:Int)+1).toNat=j+1:=fun _=>by omega
   clear hR hlr;repeat' first|simp only[go_sem,seval,q0,q1,e2,e3 trivial]|refine cP ((ht _)) ?_|refine sB ?_|apply xX<;>intro hc|refine⟨oD,?_⟩|exact oD|fail
   refine hgo _ ?_
   (refine AS.Le.of (by first|decide|omega) ?_ ?_<;>simp[dM,dL,aK,aj,AV.bd,AV.bd.bdL,u8,ai,ak,ar])
   all_goals first|omega|exact⟨lW _ _ _ _ _ _ oC oC,lZ _ _ _,by rw[q1];rfl,fun c hc=>by rcases hc with hc|⟨a,ha,rfl⟩;exact eu hc;rfl⟩
  ·have h:j+1=more.length:=by omega
   rw[h,cK]at q0 q1⊢;refine fx (aN @q0 @q1) ?_;have hP:(l++more).length=l.length+1+j:=by rw[bm];omega
   have hPb: ∀i,i<=(l++more).length->(H++cW ((l++more).take i)).length<=9+i*100008:=fun i hi=>by
    rw[bm,hHl];have h1:=qz ((l++more).take i) (n:=100000) fun s hs=>hb s (jl hs)
    rw[bU,pO hi]at h1;omega
   clear hR ht hmr hml hH hpos;rw[<-hP];rw[<-hP]at q0;generalize hPP:l++more=P at*;have hP3:P.length<=1000:=by rw[hP];omega
   refine af (α:=Nat) (fun i=>P.length-i) (fun i=>⟨[(9, .p 1001 0 0),(41, .rs 1028 j 0 P.length 1),(42,E' P.length),(43,E' i)],[(1001,bB FR 1001 1004 (8+9*i) (H++cW (P.take i))),(1004,bD (8+9*i) (H++cW (P.take i))),(1028,⟨j,bO PV.s P,true,some 9⟩)],1036⟩) (fun i=>i<=P.length) 0 (fun _=>cC rfl) (aH _) ?_ ?_
   ·(refine AS.Le.of (by first|decide|omega) ?_ ?_<;>simp[dM,dL,aK,aj,AV.bd,AV.bd.bdL,u8,ai,ak,ar])
    have e0:H++cW []=H:=jQ H;rw[e0];exact⟨rfl,lW _ _ _ _ _ _ oC oC,rfl,lZ _ _ _,fun c hc=>eu hc⟩
   ·intro i hi R hR
    by_cases hit:i<P.length
    ·have e2:=ud (f:=PV.s) (fun _=>rfl) P ([]:Bytes) hit
     have hgo:=hR (i+1) oO oO;have hbs:=hb (P.getD i []) (az [] hit);have hPi:=hPb i hi;rw[bu ([]:Bytes) hit,oM,<-eU,<-eU]at hgo;generalize P.getD i []=y at e2 hgo hbs;generalize hB:H++cW (P.take i)=B at hgo hPi⊢;have w1:=fun nm=>tB 1001 1004 nm (8+9*i) B y.length oC oO oO
     have w2:=fun nm=>Za FR 1001 1004 nm (8+9*i+8) (B++be 8 y.length) y oC (by rw[bm,cj];omega)
     simp only[show 8+9*(i+1)=8+9*i+8+1 by omega]at hgo
     clear hR hb hPb;repeat' first|simp only[go_sem,seval,q0,e2]|(refine bC (w1 _) (by simp[aj]) ?_)|(refine bC (w2 _) (by simp[aj]) ?_)|refine sB ?_|apply xX<;>intro hc|refine⟨oD,?_⟩|exact oD|fail
     refine hgo _ ?_;refine lG ?_;all_goals exact⟨lW _ _ _ _ _ _ oC oC,lZ _ _ _,fun c hc=>eu hc⟩
    ·have h:i=P.length:=by omega
     rw[h,cK];have hl2:=hPb P.length (an _);rw[cK]at hl2;have hne:H++cW P≠[]:=by intro h0;have:=congrArg List.length h0;rw[bm,hHl]at this;simp at this
     generalize H++cW P=B at hl2 hne⊢;have w3:=fun nm=>Nr FR 1001 1004 nm (8+9*P.length) B oC (fun h0=>hne (gJ.1 h0)) oO
     have hsu:=s9 (s:=B) oO;repeat' first|simp only[go_sem,seval,q0]|(refine bC (w3 _) (by simp[aj]) ?_)|refine cP hsu ?_|refine sB ?_|apply xX<;>intro hc|refine⟨oD,?_⟩|exact oD|fail
theorem Pk (k:Nat) {c:Int} (hc:c=IntKind.u8.wrap (k:Int)) (l more:List Bytes) (hm:more≠[]) (hn:l.length+more.length<=1000) (hb: ∀s∈l++more,s.length<=100000):aA Tryz.prog 299 [.i .u8 c, .sl (l.map .s), .sl (more.map .s), .fn (.func 300)] (.s (lD (iE k (l++more)))):=by
 subst hc;obtain⟨m0,mr,hmr⟩: ∃m0 mr,more=m0::mr:=by cases more with
  |nil=>exact absurd rfl hm
  |cons a b=>exact⟨a,b,rfl⟩
 have hml:more.length=mr.length+1:=by rw[hmr];rfl
 have w1:=fun nm=>XA FR G3 1001 nm k
 have w2:=fun nm=>tB 1001 1004 nm 0 [UInt8.ofNat k] (l.length+more.length) oC (ec (an 1) oC) oO
 have ht:=JT;have hpos: ∀ _:True,(0:Int)<(more.length:Int):=fun _=>by omega
 have g0:(more.map PV.s).getD 0 .fn0= .s m0:=by rw[hmr];rfl
 have c1: ∀x∈l.map PV.s,x.cells.length=1:=fun x hx=>by obtain⟨c,-,rfl⟩:=bw.1 hx;rfl
 refine eW Tryz.call299 Tryz.func299 ?_;repeat' first|simp only[go_sem,seval]|(refine bC (w1 _) (by simp[aj,bF]) ?_)|(refine bC (w2 _) (by simp[aj]) ?_)|refine sB ?_|apply xX<;>intro hc|refine⟨oD,?_⟩|exact oD|fail
 refine ah ?_;repeat' first|simp only[go_sem,seval,g0,hpos trivial]|refine cP ((ht _)) ?_|refine sB ?_|apply xX<;>intro hc|refine⟨oD,?_⟩|exact oD|fail
 refine⟨⟨by omega,c1⟩,?_⟩
 repeat' first|simp only[go_sem,seval]|refine cP ((ht _)) ?_|refine sB ?_|apply xX<;>intro hc|refine⟨oD,?_⟩|exact oD|fail
 refine⟨⟨c1,by omega,by omega⟩,rfl,?_⟩
 have hro:List.map AV.v (List.flatMap PV.cells (List.map PV.s l))++[AV.v (PV.s m0)]=bO PV.s (l++more.take 1):=by
  rw[hmr,bO,sI,dD,wa];rfl
 rw[hro];obtain⟨H,hH⟩: ∃H,H=UInt8.ofNat k::be 8 (l.length+more.length):=⟨_,rfl⟩;rw[<-hH];have hHl:H.length=9:=by rw[hH,List.length_cons,cj]
 have hfr:iE k (l++more)=H++cW (l++more):=by rw[hH,iE,bm];rfl
 rw[hfr];clear hro hfr w1 w2 g0 c1;refine af (α:=Nat) (fun j=>more.length-j) (fun j=>⟨[(1, .rs 1028 j 0 (l.length+1+j) 1),(3, .v (.fn (.func 300))),(9, .p 1001 0 0),(23, .v (.sl (more.map PV.s))),(24,E' more.length),(25,E' (j+1))],[(1001,bB FR 1001 1004 8 H),(1004,bD 8 H),(1028,⟨j,bO PV.s (l++more.take (j+1)),true,some 9⟩)],1032⟩) (fun j=>j+1<=more.length) 0 (fun _=>cC rfl) oO ?_ ?_
 ·refine lG ?_;exact⟨lW _ _ _ _ _ _ oC oC,lZ _ _ _,fun c hc=>eu hc⟩
 ·intro j hj R hR;have hlr:(l++more.take (j+1)).length=l.length+1+j:=by rw[bm,bU];omega
  have q0:(bO PV.s (l++more.take (j+1))).length=l.length+1+j:=by rw[de dV.s,hlr,dG]
  have q1:List.take (l.length+1+j) (bO PV.s (l++more.take (j+1)))=bO PV.s (l++more.take (j+1)):=cd oO
  by_cases hjt:j+1<more.length
  ·have e2:=getD_map PV.s more ([]:Bytes) hjt;have hgo:=hR (j+1) oO oO;rw[bu ([]:Bytes) hjt,<-eU,dh]at hgo;generalize more.getD (j+1) ([]:Bytes)=y at e2 hgo;have e3: ∀ _:True,((j:Int)+1).toNat=j+1:=fun _=>by omega
   clear hR hlr;repeat' first|simp only[go_sem,seval,q0,q1,e2,e3 trivial]|refine cP ((ht _)) ?_|refine sB ?_|apply xX<;>intro hc|refine⟨oD,?_⟩|exact oD|fail
   refine hgo _ ?_
   (refine AS.Le.of (by first|decide|omega) ?_ ?_<;>simp[dM,dL,aK,aj,AV.bd,AV.bd.bdL,u8,ai,ak,ar])
   all_goals first|omega|exact⟨lW _ _ _ _ _ _ oC oC,lZ _ _ _,by rw[q1];rfl,fun c hc=>by rcases hc with hc|⟨a,ha,rfl⟩;exact eu hc;rfl⟩
  ·have h:j+1=more.length:=by omega
   rw[h,cK]at q0 q1⊢;refine fx (aN @q0 @q1) ?_;have hP:(l++more).length=l.length+1+j:=by rw[bm];omega
   have hPb: ∀i,i<=(l++more).length->(H++cW ((l++more).take i)).length<=9+i*100008:=fun i hi=>by
    rw[bm,hHl];have h1:=qz ((l++more).take i) (n:=100000) fun s hs=>hb s (jl hs)
    rw[bU,pO hi]at h1;omega
   clear hR ht hmr hml hH hpos;rw[<-hP];rw[<-hP]at q0;generalize hPP:l++more=P at*;have hP3:P.length<=1000:=by rw[hP];omega
   refine af (α:=Nat) (fun i=>P.length-i) (fun i=>⟨[(9, .p 1001 0 0),(41, .rs 1028 j 0 P.length 1),(42,E' P.length),(43,E' i)],[(1001,bB FR 1001 1004 (8+9*i) (H++cW (P.take i))),(1004,bD (8+9*i) (H++cW (P.take i))),(1028,⟨j,bO PV.s P,true,some 9⟩)],1036⟩) (fun i=>i<=P.length) 0 (fun _=>cC rfl) (aH _) ?_ ?_
   ·(refine AS.Le.of (by first|decide|omega) ?_ ?_<;>simp[dM,dL,aK,aj,AV.bd,AV.bd.bdL,u8,ai,ak,ar])
    have e0:H++cW []=H:=jQ H;rw[e0];exact⟨rfl,lW _ _ _ _ _ _ oC oC,rfl,lZ _ _ _,fun c hc=>eu hc⟩
   ·intro i hi R hR
    by_cases hit:i<P.length
    ·have e2:=ud (f:=PV.s) (fun _=>rfl) P ([]:Bytes) hit
     have hgo:=hR (i+1) oO oO;have hbs:=hb (P.getD i []) (az [] hit);have hPi:=hPb i hi;rw[bu ([]:Bytes) hit,oM,<-eU,<-eU]at hgo;generalize P.getD i []=y at e2 hgo hbs;generalize hB:H++cW (P.take i)=B at hgo hPi⊢;have w1:=fun nm=>tB 1001 1004 nm (8+9*i) B y.length oC oO oO
     have w2:=fun nm=>Za FR 1001 1004 nm (8+9*i+8) (B++be 8 y.length) y oC (by rw[bm,cj];omega)
     simp only[show 8+9*(i+1)=8+9*i+8+1 by omega]at hgo
     clear hR hb hPb;repeat' first|simp only[go_sem,seval,q0,e2]|(refine bC (w1 _) (by simp[aj]) ?_)|(refine bC (w2 _) (by simp[aj]) ?_)|refine sB ?_|apply xX<;>intro hc|refine⟨oD,?_⟩|exact oD|fail
     refine hgo _ ?_;refine lG ?_;all_goals exact⟨lW _ _ _ _ _ _ oC oC,lZ _ _ _,fun c hc=>eu hc⟩
    ·have h:i=P.length:=by omega
     rw[h,cK];have hl2:=hPb P.length (an _);rw[cK]at hl2;have hne:H++cW P≠[]:=by intro h0;have:=congrArg List.length h0;rw[bm,hHl]at this;simp at this
     generalize H++cW P=B at hl2 hne⊢;have w3:=fun nm=>Nr FR 1001 1004 nm (8+9*P.length) B oC (fun h0=>hne (gJ.1 h0)) oO
     have hsu:=s9 (s:=B) oO;repeat' first|simp only[go_sem,seval,q0]|(refine bC (w3 _) (by simp[aj]) ?_)|refine cP hsu ?_|refine sB ?_|apply xX<;>intro hc|refine⟨oD,?_⟩|exact oD|fail
theorem Pj (k:Nat) {c:Int} (hc:c=IntKind.u8.wrap (k:Int)) (l:List Bytes) (n:Bool) (a:Bytes) (hn:l.length<=999) (hb: ∀s∈l++[nH (n,a)],s.length<=100000):aA Tryz.prog 397 [.i .u8 c, .sl (l.map .s), .sl [.agg [.b n, .s a]], .fn (.func 398)] (.s (lD (iE k (l++[nH (n,a)])))):=by
 subst hc;have ha:a.length<1000000:=by
  have:=hb (nH (n,a)) (by simp)
  simp only[nH,List.length_cons]at this;omega
 have w1:=fun nm=>XA FR G3 1001 nm k
 have w2:=fun nm=>tB 1001 1004 nm 0 [UInt8.ofNat k] (l.length+1) oC (ec (an 1) oC) oO
 have ht:=JS n a ha;have c1: ∀x∈l.map PV.s,x.cells.length=1:=fun x hx=>by obtain⟨c,-,rfl⟩:=bw.1 hx;rfl
 refine eW Tryz.call397 Tryz.func397 ?_;repeat' first|simp only[go_sem,seval]|(refine bC (w1 _) (by simp[aj,bF]) ?_)|(refine bC (w2 _) (by simp[aj]) ?_)|refine sB ?_|apply xX<;>intro hc|refine⟨oD,?_⟩|exact oD|fail
 refine ah ?_;refine XH @ht ?_;refine⟨⟨by omega,c1⟩,?_⟩
 refine XH @ht ?_;refine⟨⟨c1,by omega,by omega⟩,rfl,?_⟩
 refine ah ?_;refine wC ?_;have hro:List.map AV.v (List.flatMap PV.cells (List.map PV.s l))++[AV.v (PV.s (nH (n,a)))]=bO PV.s (l++[nH (n,a)]):=by
  rw[bO,sI,dD,wa];rfl
 rw[hro];obtain⟨H,hH⟩: ∃H,H=UInt8.ofNat k::be 8 (l.length+1):=⟨_,rfl⟩;rw[<-hH];have hHl:H.length=9:=by rw[hH,List.length_cons,cj]
 have hfr:iE k (l++[nH (n,a)])=H++cW (l++[nH (n,a)]):=by rw[hH,iE,bm];rfl
 rw[hfr];have hP:(l++[nH (n,a)]).length=l.length+1:=by rw[bm];rfl
 have q0:(bO PV.s (l++[nH (n,a)])).length=(l++[nH (n,a)]).length:=by rw[de dV.s,dG]
 have hPb: ∀i,i<=(l++[nH (n,a)]).length->(H++cW ((l++[nH (n,a)]).take i)).length<=9+i*100008:=fun i hi=>by
  rw[bm,hHl];have h1:=qz ((l++[nH (n,a)]).take i) (n:=100000) fun s hs=>hb s (jl hs)
  rw[bU,pO hi]at h1;omega
 clear hro hfr w1 w2 c1 hH;rw[<-hP];generalize l++[nH (n,a)]=P at*;have hP3:P.length<=1000:=by rw[hP];omega
 clear ha ht hP;refine af (α:=Nat) (fun i=>P.length-i) (fun i=>⟨[(9, .p 1001 0 0),(41, .rs 1029 0 0 P.length 1),(42,E' P.length),(43,E' i)],[(1001,bB FR 1001 1004 (8+9*i) (H++cW (P.take i))),(1004,bD (8+9*i) (H++cW (P.take i))),(1029,⟨0,bO PV.s P,true,some 9⟩)],1037⟩) (fun i=>i<=P.length) 0 (fun _=>cC rfl) (aH _) ?_ ?_
 ·(refine AS.Le.of (by first|decide|omega) ?_ ?_<;>simp[dM,dL,aK,aj,AV.bd,AV.bd.bdL,u8,ai,ak,ar])
  have e0:H++cW []=H:=jQ H;rw[e0];exact⟨rfl,lW _ _ _ _ _ _ oC oC,rfl,lZ _ _ _,fun c hc=>eu hc⟩
 ·intro i hi R hR
  by_cases hit:i<P.length
  ·have e2:=ud (f:=PV.s) (fun _=>rfl) P ([]:Bytes) hit
   have hgo:=hR (i+1) oO oO;have hbs:=hb (P.getD i []) (az [] hit);have hPi:=hPb i hi;rw[bu ([]:Bytes) hit,oM,<-eU,<-eU]at hgo;generalize P.getD i []=y at e2 hgo hbs;generalize hB:H++cW (P.take i)=B at hgo hPi⊢;have w1:=fun nm=>tB 1001 1004 nm (8+9*i) B y.length oC oO oO
   have w2:=fun nm=>Za FR 1001 1004 nm (8+9*i+8) (B++be 8 y.length) y oC (by rw[bm,cj];omega)
   simp only[show 8+9*(i+1)=8+9*i+8+1 by omega]at hgo
   clear hR hb hPb;repeat' first|simp only[go_sem,seval,q0,e2]|(refine bC (w1 _) (by simp[aj]) ?_)|(refine bC (w2 _) (by simp[aj]) ?_)|refine sB ?_|apply xX<;>intro hc|refine⟨oD,?_⟩|exact oD|fail
   refine hgo _ ?_;refine lG ?_;all_goals exact⟨lW _ _ _ _ _ _ oC oC,lZ _ _ _,fun c hc=>eu hc⟩
  ·have h:i=P.length:=by omega
   rw[h,cK];have hl2:=hPb P.length (an _);rw[cK]at hl2;have hne:H++cW P≠[]:=by intro h0;have:=congrArg List.length h0;rw[bm,hHl]at this;simp at this
   generalize H++cW P=B at hl2 hne⊢;have w3:=fun nm=>Nr FR 1001 1004 nm (8+9*P.length) B oC (fun h0=>hne (gJ.1 h0)) oO
   have hsu:=s9 (s:=B) oO;repeat' first|simp only[go_sem,seval,q0]|(refine bC (w3 _) (by simp[aj]) ?_)|refine cP hsu ?_|refine sB ?_|apply xX<;>intro hc|refine⟨oD,?_⟩|exact oD|fail
theorem x8 (k:Nat) {c:Int} (hc:c=IntKind.u8.wrap (k:Int)) (l:List Bytes) (hm:l≠[]) (hn:l.length<=1000) (hb: ∀s∈l,s.length<=100000):aA Tryz.prog 292 [.i .u8 c, .sl (l.map .s)] (.s (lD (iE k l))):=by
 have h:=Pl k hc [] l hm (by simpa using hn) (by simpa using hb)
 rw[List.nil_append,bH]at h;refine eW Tryz.call292 Tryz.func292 ?_;repeat' first|simp only[go_sem,seval]|refine cV h ?_|refine sB ?_|apply xX<;>intro hc|refine⟨oD,?_⟩|exact oD|fail
theorem QI (l:Bytes) (hl:l.length<=100000):aA Tryz.prog 182 [.s l] (.s (r5 l)):=by
 have h:=x8 78 (c:=78) rfl [l] (by simp) (by simp) (by simp;omega)
 simp only[aS,bH]at h;refine eW Tryz.call182 Tryz.func182 ?_;exact z1 @h
theorem vI (st l d:Bytes) (h1:st.length<=100000) (h2:l.length<=100000) (h3:d.length<=100000):aA Tryz.prog 181 [.s st, .s l, .s d] (.s (jv st l d)):=by
 have h:=x8 65 (c:=65) rfl [st,l,d] (by simp) (by simp) (by intro s hs;simp at hs;rcases hs with rfl|rfl|rfl<;>assumption)
 simp only[aS,bH]at h;refine eW Tryz.call181 Tryz.func181 ?_;exact z1 @h
theorem oY (st l:Bytes) (xs:List Bytes) (h1:st.length<=100000) (h2:l.length<=100000) (h0:xs≠[]) (hn:xs.length<=900) (h3: ∀x∈xs,x.length<=100000):aA Tryz.prog 185 [.s st, .s l, .sl (xs.map .s)] (.s (jH st l xs)):=by
 have h:=Pk 76 (c:=76) rfl [st,l] xs h0 (by simp;omega) (by intro s hs;simp at hs;rcases hs with rfl|rfl|hs<;>first|assumption|exact h3 s hs)
 simp only[aS,bH]at h;refine eW Tryz.call185 Tryz.func185 ?_;exact z1 @h
theorem Ns (st l:Bytes) (n:Bool) (a:Bytes) (h1:st.length<=100000) (h2:l.length<=100000) (h3:a.length<=99999):aA Tryz.prog 293 [.s st, .s l, .sl [.agg [.b n, .s a]]] (.s (FX st l [(n,a)])):=by
 have h:=Pj 73 (c:=73) rfl [st,l] n a (by simp) (by intro s hs;simp at hs;rcases hs with rfl|rfl|rfl<;>first|assumption|(simp[nH];omega))
 simp only[aS,bH]at h;refine eW Tryz.call293 Tryz.func293 ?_;exact z1 @h
theorem jV:18446744073709551616+18446744073709551616<dw:=by decide+kernel
theorem Ry {a b m:Nat} (ha:a<m) (hb:b<m) (hm:m<18446744073709551616):aA Tryz.prog 254 [N a,N b,N m] (N ((a+b)%m)):=by
 have hW:=jV;have h1:=uW (a:=m) (b:=b) oO oO;have h2:=rh (a:=a) (b:=m-b) oO oO
 by_cases hge:m-b<=a
 ·have h3:=uW (a:=a) (b:=m-b) hge oO;have h4: ∀ _:True,(0:Int)<=aU a (m-b):=fun _=>jW.2 hge
  have h5: ∀ _:True,decide (aU a (m-b)>=0)=true:=fun _=>decide_eq_true (h4 trivial)
  have e:(a+b)%m=a-(m-b):=by rw[show a+b=(a-(m-b))+m by omega,Nat.add_mod_right,aV oO]
  rw[e];generalize aU a (m-b)=cm at*;refine eW Tryz.call254 Tryz.func254 ?_;exact JJ (h5 trivial) @h1 @h2 @h3
 ·have h3:=Oq (a:=a) (b:=b) oO;have h4: ∀ _:True,¬(0:Int)<=aU a (m-b):=fun _ h=>hge (jW.1 h)
  have h5: ∀ _:True,decide (aU a (m-b)>=0)=false:=fun _=>decide_eq_false (h4 trivial)
  rw[aV oO];generalize aU a (m-b)=cm at*;refine eW Tryz.call254 Tryz.func254 ?_;exact JJ (h5 trivial) @h1 @h2 @h3
theorem zT {a b m:Nat} (ha:a<18446744073709551616) (hb:b<18446744073709551616) (hm:m<18446744073709551616) (h0:0<m):aA Tryz.prog 149 [N a,N b,N m] (.tup [N ((a+b)%m),E 0]):=by
 have hc:=fun nm=>AG nm (aO a) (aO b) (aO m)
 rw[wX ha (vN hb) hm h0]at hc;have hp:=Ry (a:=a%m) (b:=b%m) (m:=m) (aD _ h0) (aD _ h0) hm;rw[<-jN]at hp;refine eW Tryz.call149 Tryz.func149 ?_;repeat' first|simp only[go_sem,seval]|(refine bC (hc _) (by simp) ?_)|refine cP (kz ha hm h0) ?_|refine cP (kz hb hm h0) ?_|refine cP hp ?_|refine sB ?_|apply xX<;>intro hc|refine⟨oD,?_⟩|exact oD|fail
abbrev SB:TypeId:=351
theorem zk (st b:Bytes) (hs:st.length<=100000) (vb:aa b=true) (b0:b≠[]) (lb:b.length<=8):aA Tryz.prog 186 [.s st, .s b] (.tup [N (kC st b),E 0]):=by
 have hv:=aJ b;rw[vb]at hv;have hbb:(b==([]:Bytes))=false:=by simpa using b0
 have w1:=fun nm=>YP SB 1007 nm
 have w2:=fun nm=>Td 1014 nm 0 oC
 have w3:=fun nm=>Nr FR 1014 1016 nm 7 (be 8 0) oC oC oC
 have hp:=x8 67 (c:=67) rfl [st,be 8 0] (by simp) (by simp) (by intro s hs';simp at hs';rcases hs' with rfl|rfl;exact hs;simp[cj])
 simp only[aS,bH]at hp;have hp:aA Tryz.prog 292 [.i .u8 67, .sl [.s st, .s (be 8 0)]] (.s (yI st)):=hp;have hcl:=FW st;have htr:kC st b=num ((yI st).take (b.length+8))%num b:=rfl;rw[htr];generalize yI st=code at*;have w4:=fun nm=>wsF SB V6 1007 nm code oO oO
 have w5:=fun nm=>YM SB 1007 1022 nm 0 code oC
 have w6:=fun nm=>Nr SB 1007 1022 nm 0 code oC oO oO
 have hd1: ∀ _:True,decide ((0:Int)<(b.length:Int)+8)=true:=fun _=>by simp;omega
 refine eW Tryz.call186 Tryz.func186 ?_;refine zr @hbb @hv ?_;refine ah ?_;repeat' first|simp only[go_sem,seval,hbb,hd1 trivial]|(refine bC (w1 _) (by simp[aj,bF]) ?_)|(refine bC (w2 _) (by simp[aj,bF]) ?_)|(refine bC (w3 _) (by simp[aj]) ?_)|(refine bC (w4 _) (by simp[aj,bF]) ?_)|refine cP hp ?_|refine sB ?_|apply xX<;>intro hc|refine⟨oD,?_⟩|exact oD|fail
 refine ah ?_;have hd2: ∀ _:True,decide ((32:Int)<(b.length:Int)+8)=false:=fun _=>by simp;omega
 have ht8: ∀ _:True,((b.length:Int)+8).toNat=b.length+8:=fun _=>by omega
 rw[hcl]at w5;repeat' first|simp only[go_sem,seval,hcl,hd2 trivial,ht8 trivial]|(refine bC (w5 _) (by simp[aj]) ?_)|(refine bC (w6 _) (by simp[aj]) ?_)|refine sB ?_|apply xX<;>intro hc|refine⟨oD,?_⟩|exact oD|fail
 have hll:(code.take (b.length+8)).length<=32:=by rw[bU];omega
 generalize code.take (b.length+8)=l at hll⊢;have hm:=dY lb;have hm0:0<num b:=by
  rcases j5 (num b)with h|h
  ·exact absurd (by have:=eV vb;rw[h]at this;injection this with h1;exact h1.symm) b0
  ·exact h
 have hN:(.s b:PV)=N (num b):=(eV vb).symm;rw[hN];generalize num b=m at*;have h256:aA Tryz.prog 70 [.i .u64 256] (N 256):=kf 256 oC;clear w1 w2 w3 w4 w5 w6 hp hd1 hd2 ht8 hv;refine af (α:=Nat) (fun i=>l.length-i) (fun i=>⟨[(1, .v (N m)),(9, .v (N (num (l.take i)%m))),(37, .v (.sl (l.map u8))),(38,E' l.length),(39,E' i)],[],_⟩) (fun i=>i<=l.length) 0 (fun _=>an _) (aH _) ?_ ?_
 ·(refine AS.Le.of (by first|decide|omega) ?_ ?_<;>simp[dM,dL,aK,aj,AV.bd,AV.bd.bdL,u8,ai,ak,ar])
  all_goals (rw[show num []=0 from rfl,Nat.zero_mod];rfl)
 ·intro i hi R hR
  by_cases hit:i<l.length
  ·have e2:=getD_map u8 l 0 hit;have hgo:=hR (i+1) oO oO;rw[jZ hit]at hgo;have hc:(l.getD i 0).toNat<256:=(l.getD i 0).toNat_lt;have hou:aA Tryz.prog 70 [.i .u64 ((l.getD i 0).toNat:Nat)] (N (l.getD i 0).toNat):=kf _ oO;have w1: ∀ _:True,IntKind.u64.wrap (((l.getD i 0).toNat:Nat):Int)=(((l.getD i 0).toNat:Nat):Int):=fun _=>by rw[zp];omega
   generalize (l.getD i 0)=y at*;generalize num (l.take i)=x at*;have hx:x%m<m:=aD _ hm0;have hx2:x%m*256%m<m:=aD _ hm0;have h1:=oJ (a:=x%m) (b:=256) (m:=m) oO oC hm hm0;have h2:=zT (a:=x%m*256%m) (b:=y.toNat) (m:=m) oO oO hm hm0;have e:(x%m*256%m+y.toNat)%m=(x*256+y.toNat)%m:=by
    rw[jN,dq,<-jN,jN (x%m*256),gL,<-jN]
   rw[e]at h2;clear hR hi e;repeat' first|simp only[go_sem,seval,e2,w1 trivial]|refine cP h256 ?_|refine cP h1 ?_|refine cP h2 ?_|refine cP hou ?_|refine sB ?_|apply xX<;>intro hc|refine⟨oD,?_⟩|exact oD|fail
   all_goals (refine hgo _ ?_)
   (refine AS.Le.of (by first|decide|omega) ?_ ?_<;>simp[dM,dL,aK,aj,AV.bd,AV.bd.bdL,u8,ai,ak,ar])
   all_goals first|omega|skip
  ·have h:i=l.length:=by omega
   rw[h,cK];exact z0
end Go.Proofs.YtfdjchnefpefbaaGreatDoor
namespace Go.Proofs.YtfdjchnefpefbaaGreatDoor
open Go Go.Dom Go.Num
set_option maxRecDepth 100000
set_option maxHeartbeats 16000000
theorem Y7 {a b m:Nat} (h0:0<m):(((a:Int)-b)%m).toNat=if b%m=0 then a%m else(a%m+(m-b%m))%m:=by
 have h1:((a:Int)-b)%m=(((a%m:Nat):Int)-((b%m:Nat):Int))%m:=by rw[Int.natCast_emod,Int.natCast_emod,<-Int.sub_emod]
 have hb:=aD b h0;rw[h1];split
 ·rename_i h;rw[h,show(((a%m:Nat):Int)-((0:Nat):Int))=((a%m:Nat):Int) by omega,<-Int.natCast_emod,Int.toNat_natCast,dq]
 ·rw[<-Int.add_emod_right,show(((a%m:Nat):Int)-((b%m:Nat):Int)+(m:Int))=((a%m+(m-b%m):Nat):Int) by omega,<-Int.natCast_emod,Int.toNat_natCast]
theorem G6 {a b m:Nat} (ha:a<18446744073709551616) (hb:b<18446744073709551616) (hm:m<18446744073709551616) (h0:0<m):aA Tryz.prog 353 [N a,N b,N m] (.tup [N (((a:Int)-b)%m).toNat,E 0]):=by
 have hW:=jV;have hc:=fun nm=>AG nm (aO a) (aO b) (aO m)
 rw[wX ha (vN hb) hm h0]at hc;have r1:=kz ha hm h0;have r2:=kz hb hm h0;have hlb:=aD b h0;rw[Y7 h0]
 by_cases hz:b%m=0
 ·rw[if_pos hz];rw[hz]at r2;have z0:(aO 0==([]:Bytes))=true:=by decide
  refine eW Tryz.call353 Tryz.func353 ?_;repeat' first|simp only[go_sem,seval,z0]|(refine bC (hc _) (by simp) ?_)|refine cP r1 ?_|refine cP r2 ?_|refine sB ?_|apply xX<;>intro hc|refine⟨oD,?_⟩|exact oD|fail
 ·rw[if_neg hz];have hs:=uW (a:=m) (b:=b%m) oO oO;have hp:=Ry (a:=a%m) (b:=m-b%m) (m:=m) (aD _ h0) oO hm;have en:(aO (b%m)==([]:Bytes))=false:=rG oO;refine eW Tryz.call353 Tryz.func353 ?_;repeat' first|simp only[go_sem,seval,en]|(refine bC (hc _) (by simp) ?_)|refine cP r1 ?_|refine cP r2 ?_|refine cP hs ?_|refine cP hp ?_|refine sB ?_|apply xX<;>intro hc|refine⟨oD,?_⟩|exact oD|fail
end Go.Proofs.YtfdjchnefpefbaaGreatDoor
