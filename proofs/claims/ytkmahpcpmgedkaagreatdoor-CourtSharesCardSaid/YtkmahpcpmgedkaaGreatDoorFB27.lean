/- Part of the proof. -/
import Derived.Test.YtkmahpcpmgedkaaGreatDoorFB25
import Derived.Test.YtkmahpcpmgedkaaGreatDoorFB26
set_option linter.all false
set_option maxHeartbeats 16000000
set_option maxRecDepth 100000
namespace Go.Proofs.Tryz
open Go Go.Dom
theorem NI:Zr prog 445:=by
 intro v w;have h1:(Tryz.f445.name== "runtime.NumGoroutine")=false:=by kernel_rfl
 have h2:Tryz.f445.body.isNone=true:=by kernel_rfl
 have h3:(Extern.findNext Tryz.f445).isNone=true:=by kernel_rfl
 have h4:Extern.find Tryz.f445=some Extern.AbiNoEscape.same:=by kernel_rfl
 have h3':Extern.findNext Tryz.f445=none:=by simpa using h3
 simp only[callFunc,bU,run_program,Result.andThen,func445,h1,h2,h3',h4,au,bm,an];rfl
def bF (el:TypeId):aF:=⟨0,[.v .p0, .sn],false,some el⟩
def bS (el:TypeId) (b:Nat):aF:=⟨0,[.p b 0 0, .sn],false,some el⟩
def bB (el:TypeId) (b d ver:Nat) (bs:Bytes):aF:=⟨0,[.p b 0 0, .rs d ver 0 bs.length 1],false,some el⟩
def bD (ver:Nat) (bs:Bytes):aF:=⟨ver,aG bs,true,some 5⟩
theorem Gz (l:Bytes):(∀y,y∈aG l->y= .v (.i .u8 (y.byte.toNat:Int)))=True:=JG l
theorem XC:liesAt prog prog.depth 336 (2/prog.cellsOf 336) 0 336 1=true:=by kernel_rfl
theorem IP:liesAt prog prog.depth 348 (2/prog.cellsOf 348) 0 336 1=true:=by kernel_rfl
theorem b1 (c:Nat):[AV.v (.i .u8 (IntKind.u8.wrap (c:Int)))]=aG [UInt8.ofNat c]:=rfl
theorem Td (el:TypeId) (hl:liesAt prog prog.depth el (2/prog.cellsOf el) 0 336 1=true) (b nm:Nat):mw prog 386 nm [(b,bF el)] [.p b 0 0] (.tup []) [(b,some (bS el b))]:=by
 have hbd':True:=trivial;refine mw.w mixed call386 func386 rfl (nf.1 _ _ _ (by cbv)) (nf.2 _ _ (by cbv)) (obs:=[bF el]) (args:=[.p 0 0 0]) (fs:=[some (some (bS el 0))]) (j:=none) (nw:=none) (v:= .tup []) (ns:=[b]) (obsA:=[bF el]) rfl ?_ (by simp) (by simp) rfl (by simp[bz,aF.aY,AV.aY,AV.aY.renL,dP,aM,hbd',bF,bS,bB,bD]) (by simp[bz,AV.aY,AV.aY.renL,dP,hbd']) (by simp[AV.aY,AV.aY.renL]) (by simp[gY,outs,aF.aY,AV.aY,AV.aY.renL,aM,kC,bF,bS,bB,bD])
 simp only[go_sem,seval,bF,bS,bB,bD];repeat' first|simp only[go_sem,seval,ca,bQ,true_or,or_true,false_or,or_false,aj,kB,fK,jo,ic,ie,fM,rm,rZ,iG,jO,eV,aU,AV.aY,AV.aY.renL,aM,bF,bB,bD,bS,hl]|refine PJ NI ?_|refine oE ?_|apply xX<;>intro hc
theorem Tc (el:TypeId) (b d nm ver:Nat) (bs:Bytes) (hbd:b≠d):mw prog 386 nm [(b,bB el b d ver bs),(d,bD ver bs)] [.p b 0 0] (.tup []) []:=by
 have hbd':=hbd.symm;refine mw.w mixed call386 func386 rfl (nf.1 _ _ _ (by cbv)) (nf.2 _ _ (by cbv)) (obs:=[bB el 0 1 ver bs,bD ver bs]) (args:=[.p 0 0 0]) (fs:=[none,none]) (j:=none) (nw:=none) (v:= .tup []) (ns:=[b,d]) (obsA:=[bB el b d ver bs,bD ver bs]) rfl ?_ (by simp) (by simp[hbd]) rfl (by simp[bz,aF.aY,AV.aY,AV.aY.renL,dP,aM,hbd',bF,bB,bD]) (by simp[bz,AV.aY,AV.aY.renL,dP,hbd']) (by simp[AV.aY,AV.aY.renL]) (by simp[gY,outs,aF.aY,AV.aY,AV.aY.renL,aM,kC,bF,bB,bD])
 simp only[go_sem,seval,bF,bB,bD];repeat' first|simp only[go_sem,seval,ca,bQ,true_or,or_true,false_or,or_false,aj,kB,fK,jo,ic,ie,fM,rm,rZ,iG,jO,eV,aU,AV.aY,AV.aY.renL,aM,bF,bB,bD]|refine oE ?_|apply xX<;>intro hc
theorem Zh (el:TypeId) (hl:liesAt prog prog.depth el (2/prog.cellsOf el) 0 336 1=true) (b nm:Nat) (c:Nat):mw prog 272 nm [(b,bF el)] [.p b 0 0, .v (.i .u8 (IntKind.u8.wrap (c:Int)))] (.v .if0) [(nm,some (bD 0 [UInt8.ofNat c])),(b,some (bB el b nm 0 [UInt8.ofNat c]))]:=by
 have hbd':True:=trivial;refine mw.w mixed call272 func272 rfl (nf.1 _ _ _ (by cbv)) (nf.2 _ _ (by cbv)) (obs:=[bF el]) (args:=[.p 0 0 0, .v (.i .u8 (IntKind.u8.wrap (c:Int)))]) (fs:=[some (some (bB el 0 1 0 [UInt8.ofNat c]))]) (j:=some 1010) (nw:=(some (bD 0 [UInt8.ofNat c]))) (v:= .v .if0) (ns:=[b]) (obsA:=[bF el]) rfl ?_ (by simp) (by simp) rfl (by simp[bz,aF.aY,AV.aY,AV.aY.renL,dP,aM,hbd',bF,bB,bD]) (by simp[bz,AV.aY,AV.aY.renL,dP,hbd']) (by simp[AV.aY,AV.aY.renL]) (by simp[gY,outs,aF.aY,AV.aY,AV.aY.renL,aM,kC,bF,bB,bD])
 simp only[go_sem,seval,bF,bB,bD];repeat' first|simp only[go_sem,seval,ca,bQ,true_or,or_true,false_or,or_false,aj,kB,fK,jo,ic,ie,fM,rm,rZ,iG,jO,eV,aU,AV.aY,AV.aY.renL,aM,bF,bB,bD,bS]|(refine cd (Td el hl 0 _) (by simp[az,bF,bB,bD]) ?_)|refine oE ?_|apply xX<;>intro hc
 all_goals first|rfl|exact b1 c|skip
theorem wbB (el:TypeId) (b d nm ver:Nat) (bs:Bytes) (c:Nat) (hbd:b≠d) (hs:bs.length<1099511627776):mw prog 272 nm [(b,bB el b d ver bs),(d,bD ver bs)] [.p b 0 0, .v (.i .u8 (IntKind.u8.wrap (c:Int)))] (.v .if0) [(b,some (bB el b d (ver+1) (bs++[UInt8.ofNat c]))),(d,some (bD (ver+1) (bs++[UInt8.ofNat c])))]:=by
 have hbd':=hbd.symm;refine mw.w mixed call272 func272 rfl (nf.1 _ _ _ (by cbv)) (nf.2 _ _ (by cbv)) (obs:=[bB el 0 1 ver bs,bD ver bs]) (args:=[.p 0 0 0, .v (.i .u8 (IntKind.u8.wrap (c:Int)))]) (fs:=[some (some (bB el 0 1 (ver+1) (bs++[UInt8.ofNat c]))),some (some (bD (ver+1) (bs++[UInt8.ofNat c])))]) (j:=none) (nw:=none) (v:= .v .if0) (ns:=[b,d]) (obsA:=[bB el b d ver bs,bD ver bs]) rfl ?_ (by simp) (by simp[hbd]) rfl (by simp[bz,aF.aY,AV.aY,AV.aY.renL,dP,aM,hbd',bF,bB,bD]) (by simp[bz,AV.aY,AV.aY.renL,dP,hbd']) (by simp[AV.aY,AV.aY.renL]) (by simp[gY,outs,aF.aY,AV.aY,AV.aY.renL,aM,kC,bF,bB,bD])
 simp only[go_sem,seval,bF,bB,bD];repeat' first|simp only[go_sem,seval,ca,bQ,true_or,or_true,false_or,or_false,aj,kB,fK,jo,ic,ie,fM,rm,rZ,iG,jO,eV,aU,AV.aY,AV.aY.renL,aM,bF,bB,bD,bJ,sW,nC,ct]|(refine cd (Tc el 0 1 _ ver bs oC) (by simp[az,bF,bB,bD]) ?_)|refine oE ?_|apply xX<;>intro hc
theorem wsF (el:TypeId) (hl:liesAt prog prog.depth el (2/prog.cellsOf el) 0 336 1=true) (b nm:Nat) (s:Bytes) (h0:s.length≠0) (hs:s.length<1099511627776):mw prog 271 nm [(b,bF el)] [.p b 0 0, .v (.s s)] (.tup [.v (.i .i64 (s:Bytes).length), .v .if0]) [(nm,some (bD 0 s)),(b,some (bB el b nm 0 s))]:=by
 have hbd':True:=trivial;refine mw.w mixed call271 func271 rfl (nf.1 _ _ _ (by cbv)) (nf.2 _ _ (by cbv)) (obs:=[bF el]) (args:=[.p 0 0 0, .v (.s s)]) (fs:=[some (some (bB el 0 1 0 s))]) (j:=some 1010) (nw:=(some (bD 0 s))) (v:= .tup [.v (.i .i64 (s:Bytes).length), .v .if0]) (ns:=[b]) (obsA:=[bF el]) rfl ?_ (by simp) (by simp) rfl (by simp[bz,aF.aY,AV.aY,AV.aY.renL,dP,aM,hbd',bF,bB,bD]) (by simp[bz,AV.aY,AV.aY.renL,dP,hbd']) (by simp[AV.aY,AV.aY.renL]) (by simp[gY,outs,aF.aY,AV.aY,AV.aY.renL,aM,kC,bF,bB,bD])
 simp only[go_sem,seval,bF,bB,bD];repeat' first|simp only[go_sem,seval,ca,bQ,true_or,or_true,false_or,or_false,aj,kB,fK,jo,ic,ie,fM,rm,rZ,iG,jO,eV,aU,AV.aY,AV.aY.renL,aM,bF,bB,bD,bS,h0]|(refine cd (Td el hl 0 _) (by simp[az,bF,bB,bD]) ?_)|refine oE ?_|apply xX<;>intro hc
theorem wsB (el:TypeId) (b d nm ver:Nat) (bs s:Bytes) (hbd:b≠d) (hs:bs.length+s.length<1099511627776):mw prog 271 nm [(b,bB el b d ver bs),(d,bD ver bs)] [.p b 0 0, .v (.s s)] (.tup [.v (.i .i64 (s:Bytes).length), .v .if0]) [(b,some (bB el b d (ver+1) (bs++s))),(d,some (bD (ver+1) (bs++s)))]:=by
 have hbd':=hbd.symm;refine mw.w mixed call271 func271 rfl (nf.1 _ _ _ (by cbv)) (nf.2 _ _ (by cbv)) (obs:=[bB el 0 1 ver bs,bD ver bs]) (args:=[.p 0 0 0, .v (.s s)]) (fs:=[some (some (bB el 0 1 (ver+1) (bs++s))),some (some (bD (ver+1) (bs++s)))]) (j:=none) (nw:=none) (v:= .tup [.v (.i .i64 (s:Bytes).length), .v .if0]) (ns:=[b,d]) (obsA:=[bB el b d ver bs,bD ver bs]) rfl ?_ (by simp) (by simp[hbd]) rfl (by simp[bz,aF.aY,AV.aY,AV.aY.renL,dP,aM,hbd',bF,bB,bD]) (by simp[bz,AV.aY,AV.aY.renL,dP,hbd']) (by simp[AV.aY,AV.aY.renL]) (by simp[gY,outs,aF.aY,AV.aY,AV.aY.renL,aM,kC,bF,bB,bD])
 simp only[go_sem,seval,bF,bB,bD];repeat' first|simp only[go_sem,seval,ca,bQ,true_or,or_true,false_or,or_false,aj,kB,fK,jo,ic,ie,fM,rm,rZ,iG,jO,eV,aU,AV.aY,AV.aY.renL,aM,bF,bB,bD,bJ]|(refine cd (Tc el 0 1 _ ver bs oC) (by simp[az,bF,bB,bD]) ?_)|refine oE ?_|apply xX<;>intro hc
theorem aag (el:TypeId) (b nm:Nat):mw prog 276 nm [(b,bF el)] [.p b 0 0] (.v (.i .i64 0)) []:=by
 have hbd':True:=trivial;refine mw.w mixed call276 func276 rfl (nf.1 _ _ _ (by cbv)) (nf.2 _ _ (by cbv)) (obs:=[bF el]) (args:=[.p 0 0 0]) (fs:=[none]) (j:=none) (nw:=none) (v:= .v (.i .i64 0)) (ns:=[b]) (obsA:=[bF el]) rfl ?_ (by simp) (by simp) rfl (by simp[bz,aF.aY,AV.aY,AV.aY.renL,dP,aM,hbd',bF,bB,bD]) (by simp[bz,AV.aY,AV.aY.renL,dP,hbd']) (by simp[AV.aY,AV.aY.renL]) (by simp[gY,outs,aF.aY,AV.aY,AV.aY.renL,aM,kC,bF,bB,bD])
 simp only[go_sem,seval,bF,bB,bD];repeat' first|simp only[go_sem,seval,ca,bQ,true_or,or_true,false_or,or_false,aj,kB,fK,jo,ic,ie,fM,rm,rZ,iG,jO,eV,aU,AV.aY,AV.aY.renL,aM,bF,bB,bD]|refine oE ?_|apply xX<;>intro hc
theorem aaf (el:TypeId) (b d nm ver:Nat) (bs:Bytes) (hbd:b≠d):mw prog 276 nm [(b,bB el b d ver bs),(d,bD ver bs)] [.p b 0 0] (.v (.i .i64 bs.length)) []:=by
 have hbd':=hbd.symm;refine mw.w mixed call276 func276 rfl (nf.1 _ _ _ (by cbv)) (nf.2 _ _ (by cbv)) (obs:=[bB el 0 1 ver bs,bD ver bs]) (args:=[.p 0 0 0]) (fs:=[none,none]) (j:=none) (nw:=none) (v:= .v (.i .i64 bs.length)) (ns:=[b,d]) (obsA:=[bB el b d ver bs,bD ver bs]) rfl ?_ (by simp) (by simp[hbd]) rfl (by simp[bz,aF.aY,AV.aY,AV.aY.renL,dP,aM,hbd',bF,bB,bD]) (by simp[bz,AV.aY,AV.aY.renL,dP,hbd']) (by simp[AV.aY,AV.aY.renL]) (by simp[gY,outs,aF.aY,AV.aY,AV.aY.renL,aM,kC,bF,bB,bD])
 simp only[go_sem,seval,bF,bB,bD];repeat' first|simp only[go_sem,seval,ca,bQ,true_or,or_true,false_or,or_false,aj,kB,fK,jo,ic,ie,fM,rm,rZ,iG,jO,eV,aU,AV.aY,AV.aY.renL,aM,bF,bB,bD]|refine oE ?_|apply xX<;>intro hc
theorem O5 (el:TypeId) (b d nm ver:Nat) (bs:Bytes) (hbd:b≠d) (h0:bs.length≠0) (hs:bs.length<1099511627776):mw prog 273 nm [(b,bB el b d ver bs),(d,bD ver bs)] [.p b 0 0] (.v (.s bs)) [(d,none)]:=by
 have hbd':=hbd.symm;refine mw.w mixed call273 func273 rfl (nf.1 _ _ _ (by cbv)) (nf.2 _ _ (by cbv)) (obs:=[bB el 0 1 ver bs,bD ver bs]) (args:=[.p 0 0 0]) (fs:=[none,some none]) (j:=none) (nw:=none) (v:= .v (.s bs)) (ns:=[b,d]) (obsA:=[bB el b d ver bs,bD ver bs]) rfl ?_ (by simp) (by simp[hbd]) rfl (by simp[bz,aF.aY,AV.aY,AV.aY.renL,dP,aM,hbd',bF,bB,bD]) (by simp[bz,AV.aY,AV.aY.renL,dP,hbd']) (by simp[AV.aY,AV.aY.renL]) (by simp[gY,outs,aF.aY,AV.aY,AV.aY.renL,aM,kC,bF,bB,bD])
 simp only[go_sem,seval,bF,bB,bD];repeat' first|simp only[go_sem,seval,ca,bQ,true_or,or_true,false_or,or_false,aj,kB,fK,jo,ic,ie,fM,rm,rZ,iG,jO,eV,aU,AV.aY,AV.aY.renL,aM,bF,bB,bD,jD,Gz]|refine oE ?_|apply xX<;>intro hc
abbrev FR:TypeId:=348
theorem ny (el:TypeId) (b d ver:Nat) (bs:Bytes) (n:Nat) (hb:b<n) (hd:d<n): ∀c∈(bB el b d ver bs).cells,c.bd n=true:=by
 intro c hc;simp[bB]at hc;rcases hc with rfl|rfl<;>simp[AV.bd,hb,hd]
theorem nA (ver:Nat) (bs:Bytes) (n:Nat): ∀c∈(bD ver bs).cells,c.bd n=true:=by
 intro c hc;have h:=ax bs n;exact(h▸trivial: ∀y,y∈aG bs->y.bd n=true) c hc
theorem vF (b d nm ver:Nat) (bs:Bytes) (N:Nat) (hbd:b≠d) (hs:bs.length<1000000000000) (hN:N<4611686018427387904):mw prog 277 nm [(b,bB FR b d ver bs),(d,bD ver bs)] [.p b 0 0, .v (.i .i64 (N:Int))] (.tup []) [(b,some (bB FR b d (ver+8) (bs++be 8 N))),(d,some (bD (ver+8) (bs++be 8 N)))]:=by
 have hbd':=hbd.symm;refine mw.w mixed call277 func277 rfl (nf.1 _ _ _ (by cbv)) (nf.2 _ _ (by cbv)) (obs:=[bB FR 0 1 ver bs,bD ver bs]) (args:=[.p 0 0 0, .v (.i .i64 (N:Int))]) (fs:=[some (some (bB FR 0 1 (ver+8) (bs++be 8 N))),some (some (bD (ver+8) (bs++be 8 N)))]) (j:=none) (nw:=none) (v:= .tup []) (ns:=[b,d]) (obsA:=[bB FR b d ver bs,bD ver bs]) rfl ?_ (by simp) (by simp[hbd]) rfl (by simp[bz,aF.aY,AV.aY,AV.aY.renL,dP,aM,hbd',bB,bD]) (by simp[bz,AV.aY,AV.aY.renL,dP,hbd']) (by simp[AV.aY,AV.aY.renL]) (by simp[gY,outs,aF.aY,AV.aY,AV.aY.renL,aM,kC,bB,bD])
 simp only[go_sem,seval];repeat' first|simp only[go_sem,seval,true_or,or_true,false_or,or_false,aj,kB,fK,jo,ic,ie,fM,rm,rZ,iG,jO,eV,aU,AV.aY,AV.aY.renL,aM]|refine oE ?_|apply xX<;>intro hc
 refine af (α:=Nat) (fun k=>8-k) (fun k=>⟨[(0, .p 0 0 0),(1,E' N),(4, .v (.i .i64 (56-8*(k:Int))))],[(0,bB FR 0 1 (ver+k) (bs++(be 8 N).take k)),(1,bD (ver+k) (bs++(be 8 N).take k))],_⟩) (fun k=>k<=8) 0 (fun _=>ay _) (aJ _) ?_ ?_
 ·refine lG ?_;exact⟨ny _ _ _ _ _ _ oC oC,nA _ _ _⟩
 ·intro k hk R hR
  by_cases h8:k<8
  ·have hlen:(bs++(be 8 N).take k).length<1099511627776:=by
    rw[bJ,bV,cv];omega
   have hw:=fun nm=>wbB FR 0 1 nm (ver+k) (bs++(be 8 N).take k) (N/256^(7-k)) oC hlen
   have hgo:=hR (k+1) oO oO;rw[Ew N k h8,<-fw,<-ji]at hgo;rw[fw]at hgo hw;generalize hbb:bs++(be 8 N).take k=bb at hw hgo⊢;clear hR hlen hbb;rcases(by omega:k=0\/k=1\/k=2\/k=3\/k=4\/k=5\/k=6\/k=7)with rfl|rfl|rfl|rfl|rfl|rfl|rfl|rfl
   all_goals simp only[Nat.reduceSub,Nat.reducePow,Nat.pow_zero]at hw hgo
   repeat' first|simp only[go_sem,seval,true_or,or_true,false_or,or_false,aj,kB,fK,jo,ic,ie,fM,rm,rZ,iG,jO,eV,aU,AV.aY,AV.aY.renL,aM]|(refine cd (hw _) (by simp[az]) ?_)|refine oE ?_|apply xX<;>intro hc
   all_goals (refine hgo _ ?_)
   all_goals (refine AS.Le.of (by first|decide|omega) ?_ ?_<;>simp[dy,dx,aO,az,AV.bd,AV.bd.bdL,u8,ar,ax,aA])
   all_goals exact⟨ny _ _ _ _ _ _ oC oC,nA _ _ _⟩
  ·have h:k=8:=oO;subst h;have e8:(be 8 N).take 8=be 8 N:=cb (by rw[cv];decide)
   rw[e8];repeat' first|simp only[go_sem,seval,true_or,or_true,false_or,or_false,aj,kB,fK,jo,ic,ie,fM,rm,rZ,iG,jO,eV,aU,AV.aY,AV.aY.renL,aM,bB,bD]|refine oE ?_|apply xX<;>intro hc
theorem UU (b nm:Nat) (N:Nat) (hN:N<4611686018427387904):mw prog 277 nm [(b,bF FR)] [.p b 0 0, .v (.i .i64 (N:Int))] (.tup []) [(nm,some (bD 7 (be 8 N))),(b,some (bB FR b nm 7 (be 8 N)))]:=by
 have hbd':True:=trivial;refine mw.w mixed call277 func277 rfl (nf.1 _ _ _ (by cbv)) (nf.2 _ _ (by cbv)) (obs:=[bF FR]) (args:=[.p 0 0 0, .v (.i .i64 (N:Int))]) (fs:=[some (some (bB FR 0 1 7 (be 8 N)))]) (j:=some 1010) (nw:=some (bD 7 (be 8 N))) (v:= .tup []) (ns:=[b]) (obsA:=[bF FR]) rfl ?_ (by simp) (by simp) rfl (by simp[bz,aF.aY,AV.aY,AV.aY.renL,dP,aM,hbd',bF,bB,bD]) (by simp[bz,AV.aY,AV.aY.renL,dP,hbd']) (by simp[AV.aY,AV.aY.renL]) (by simp[gY,outs,aF.aY,AV.aY,AV.aY.renL,aM,kC,bF,bB,bD])
 simp only[go_sem,seval];have hw0:=fun nm=>Zh FR IP 0 nm (N/256^7)
 simp only[Nat.reducePow]at hw0;repeat' first|simp only[go_sem,seval,true_or,or_true,false_or,or_false,aj,kB,fK,jo,ic,ie,fM,rm,rZ,iG,jO,eV,aU,AV.aY,AV.aY.renL,aM]|(refine cd (hw0 _) (by simp[az]) ?_)|refine oE ?_|apply xX<;>intro hc
 refine ai ?_;repeat' first|simp only[go_sem,seval,true_or,or_true,false_or,or_false,aj,kB,fK,jo,ic,ie,fM,rm,rZ,iG,jO,eV,aU,AV.aY,AV.aY.renL,aM]|(refine cd (hw0 _) (by simp[az]) ?_)|refine oE ?_|apply xX<;>intro hc
 have e1:[UInt8.ofNat (N/72057594037927936)]=(be 8 N).take 1:=rfl;rw[e1];refine af (α:=Nat) (fun k=>7-k) (fun k=>⟨[(0, .p 0 0 0),(1,E' N),(4, .v (.i .i64 (48-8*(k:Int))))],[(0,bB FR 0 1010 (0+k) ((be 8 N).take (k+1))),(1010,bD (0+k) ((be 8 N).take (k+1)))],1014⟩) (fun k=>k<=7) 0 (fun _=>bZ rfl) (aJ _) ?_ ?_
 ·refine lG ?_;exact⟨ny _ _ _ _ _ _ oC oC,nA _ _ _⟩
 ·intro k hk R hR
  by_cases h8:k<7
  ·have hlen:((be 8 N).take (k+1)).length<1099511627776:=by
    rw[bV,cv];omega
   have hw:=fun nm=>wbB FR 0 1010 nm (0+k) ((be 8 N).take (k+1)) (N/256^(7-(k+1))) oC hlen
   have hgo:=hR (k+1) oO oO;rw[Ew N (k+1) oO,<-ji]at hgo;generalize hbb:(be 8 N).take (k+1)=bb at hw hgo⊢;clear hR hlen hbb e1;rcases(by omega:k=0\/k=1\/k=2\/k=3\/k=4\/k=5\/k=6)with rfl|rfl|rfl|rfl|rfl|rfl|rfl
   all_goals simp only[Nat.reduceSub,Nat.reduceAdd,Nat.reducePow,Nat.pow_zero]at hw hgo
   repeat' first|simp only[go_sem,seval,true_or,or_true,false_or,or_false,aj,kB,fK,jo,ic,ie,fM,rm,rZ,iG,jO,eV,aU,AV.aY,AV.aY.renL,aM,Nat.reduceAdd]|(refine cd (hw _) (by simp[az]) ?_)|refine oE ?_|apply xX<;>intro hc
   all_goals (refine hgo _ ?_)
   all_goals (refine AS.Le.of (by first|decide|omega) ?_ ?_<;>simp[dy,dx,aO,az,AV.bd,AV.bd.bdL,u8,ar,ax,aA])
   all_goals exact⟨ny _ _ _ _ _ _ oC oC,nA _ _ _⟩
  ·have h:k=7:=oO;subst h;have e8:(be 8 N).take (7+1)=be 8 N:=cb (by rw[cv];decide)
   rw[e8];repeat' first|simp only[go_sem,seval,true_or,or_true,false_or,or_false,aj,kB,fK,jo,ic,ie,fM,rm,rZ,iG,jO,eV,aU,AV.aY,AV.aY.renL,aM,bF,bB,bD]|refine oE ?_|apply xX<;>intro hc
theorem KC (s:Bytes):aD 382 [.s s] (.s s):=by
 refine eW call382 func382 ?_;exact z0
theorem LJ (s:Bytes):aD 275 [.s s] (.s s):=by
 refine eW call275 func275 ?_;exact z0
theorem LI (n:Bool) (s:Bytes) (hs:s.length<1000000):aD 384 [.agg [.b n, .s s]] (.s (ni (n,s))):=by
 cases n;all_goals simp only[ni]
 refine eW call384 func384 ?_;repeat' first|simp only[go_sem,seval]|refine oE ?_|apply xX<;>intro hc
 refine eW call384 func384 ?_;exact z0
theorem Q7 (k:Nat) {c:Int} (hc:c=IntKind.u8.wrap (k:Int)) (l more:List Bytes) (hm:more≠[]) (hn:l.length+more.length<=1000) (hb: ∀s∈l++more,s.length<=100000):aD 381 [.i .u8 c, .sl (l.map .s), .sl (more.map .s), .fn (.func 382)] (.s (me (iP k (l++more)))):=by
 subst hc;obtain⟨m0,mr,hmr⟩: ∃m0 mr,more=m0::mr:=by cases more with
  |nil=>exact aW rfl hm
  |cons a b=>exact⟨a,b,rfl⟩
 have hml:more.length=mr.length+1:=by rw[hmr];rfl
 have w1:=fun nm=>Zh FR IP 1001 nm k
 have w2:=fun nm=>vF 1001 1004 nm 0 [UInt8.ofNat k] (l.length+more.length) oC (fh (ay 1) oC) oO
 have ht:=KC;have hpos: ∀ _:True,(0:Int)<(more.length:Int):=fun _=>oO
 have g0:(more.map PV.s).getD 0 .fn0= .s m0:=by rw[hmr];rfl
 have c1: ∀x∈l.map PV.s,x.cells.length=1:=fun x hx=>by obtain⟨c,-,rfl⟩:=bG.1 hx;rfl
 refine eW call381 func381 ?_;repeat' first|simp only[go_sem,seval]|(refine cd (w1 _) (by simp[az,bF]) ?_)|(refine cd (w2 _) (by simp[az]) ?_)|refine oE ?_|apply xX<;>intro hc
 refine ai ?_;repeat' first|simp only[go_sem,seval,g0,hpos oT]|refine cP ((ht _)) ?_|refine oE ?_|apply xX<;>intro hc
 refine⟨⟨oO,c1⟩,?_⟩;repeat' first|simp only[go_sem,seval]|refine cP ((ht _)) ?_|refine oE ?_|apply xX<;>intro hc
 refine⟨⟨c1,oO,oO⟩,rfl,?_⟩;have hro:List.map AV.v (List.flatMap PV.cells (List.map PV.s l))++[AV.v (PV.s m0)]=bj PV.s (l++more.take 1):=by
  rw[hmr,bj,uR,jh,xW];rfl
 rw[hro];obtain⟨H,hH⟩: ∃H,H=UInt8.ofNat k::be 8 (l.length+more.length):=⟨_,rfl⟩;rw[<-hH];have hHl:H.length=9:=by rw[hH,List.length_cons,cv]
 have hfr:iP k (l++more)=H++de (l++more):=by rw[hH,iP,bJ];rfl
 rw[hfr];clear hro hfr w1 w2 g0 c1;refine af (α:=Nat) (fun j=>more.length-j) (fun j=>⟨[(1, .rs 1028 j 0 (l.length+1+j) 1),(3, .v (.fn (.func 382))),(9, .p 1001 0 0),(23, .v (.sl (more.map PV.s))),(24,E' more.length),(25,E' (j+1))],[(1001,bB FR 1001 1004 8 H),(1004,bD 8 H),(1028,⟨j,bj PV.s (l++more.take (j+1)),true,some 9⟩)],1032⟩) (fun j=>j+1<=more.length) 0 (fun _=>bZ rfl) oO ?_ ?_
 ·refine lG ?_;exact⟨ny _ _ _ _ _ _ oC oC,nA _ _ _,fun c hc=>cR hc⟩
 ·intro j hj R hR;have hlr:(l++more.take (j+1)).length=l.length+1+j:=by rw[bJ,bV];omega
  have q0:(bj PV.s (l++more.take (j+1))).length=l.length+1+j:=by rw[cz dY.s,hlr,dN]
  have q1:List.take (l.length+1+j) (bj PV.s (l++more.take (j+1)))=bj PV.s (l++more.take (j+1)):=cb oO
  by_cases hjt:j+1<more.length
  ·have e2:=getD_map PV.s more ([]:Bytes) hjt;have hgo:=hR (j+1) oO oO;rw[aQ ([]:Bytes) hjt,<-fw,cf]at hgo;generalize more.getD (j+1) ([]:Bytes)=y at e2 hgo;have e3: ∀ _:True,((j:Int)+1).toNat=j+1:=fun _=>oO
   clear hR hlr;repeat' first|simp only[go_sem,seval,q0,q1,e2,e3 oT]|refine cP ((ht _)) ?_|refine oE ?_|apply xX<;>intro hc
   refine hgo _ ?_
   (refine AS.Le.of (by first|decide|omega) ?_ ?_<;>simp[dy,dx,aO,az,AV.bd,AV.bd.bdL,u8,ar,ax,aA])
   all_goals first|omega|exact⟨ny _ _ _ _ _ _ oC oC,nA _ _ _,by rw[q1];rfl,fun c hc=>by rcases hc with hc|⟨a,ha,rfl⟩;exact cR hc;rfl⟩
  ·have h:j+1=more.length:=oO;rw[h,ct]at q0 q1⊢;refine dH (aN @q0 @q1) ?_;have hP:(l++more).length=l.length+1+j:=by rw[bJ];omega
   have hPb: ∀i,i<=(l++more).length->(H++de ((l++more).take i)).length<=9+i*100008:=fun i hi=>by
    rw[bJ,hHl];have h1:=pc ((l++more).take i) (n:=100000) fun s hs=>hb s (jA hs)
    rw[bV,pz hi]at h1;omega
   clear hR ht hmr hml hH hpos;rw[<-hP];rw[<-hP]at q0;generalize hPP:l++more=P at*;have hP3:P.length<=1000:=by rw[hP];omega
   refine af (α:=Nat) (fun i=>P.length-i) (fun i=>⟨[(9, .p 1001 0 0),(41, .rs 1028 j 0 P.length 1),(42,E' P.length),(43,E' i)],[(1001,bB FR 1001 1004 (8+9*i) (H++de (P.take i))),(1004,bD (8+9*i) (H++de (P.take i))),(1028,⟨j,bj PV.s P,true,some 9⟩)],1036⟩) (fun i=>i<=P.length) 0 (fun _=>bZ rfl) (aJ _) ?_ ?_
   ·(refine AS.Le.of (by first|decide|omega) ?_ ?_<;>simp[dy,dx,aO,az,AV.bd,AV.bd.bdL,u8,ar,ax,aA])
    have e0:H++de []=H:=kf H;rw[e0];exact⟨rfl,ny _ _ _ _ _ _ oC oC,rfl,nA _ _ _,fun c hc=>cR hc⟩
   ·intro i hi R hR
    by_cases hit:i<P.length
    ·have e2:=wq (f:=PV.s) (fun _=>rfl) P ([]:Bytes) hit
     have hgo:=hR (i+1) oO oO;have hbs:=hb (P.getD i []) (aq [] hit);have hPi:=hPb i hi;rw[aQ ([]:Bytes) hit,nJ,<-fw,<-fw]at hgo;generalize P.getD i []=y at e2 hgo hbs;generalize hB:H++de (P.take i)=B at hgo hPi⊢;have w1:=fun nm=>vF 1001 1004 nm (8+9*i) B y.length oC oO oO
     have w2:=fun nm=>wsB FR 1001 1004 nm (8+9*i+8) (B++be 8 y.length) y oC (by rw[bJ,cv];omega)
     simp only[show 8+9*(i+1)=8+9*i+8+1 by omega]at hgo
     clear hR hb hPb;repeat' first|simp only[go_sem,seval,q0,e2]|(refine cd (w1 _) (by simp[az]) ?_)|(refine cd (w2 _) (by simp[az]) ?_)|refine oE ?_|apply xX<;>intro hc
     refine hgo _ ?_;refine lG ?_;all_goals exact⟨ny _ _ _ _ _ _ oC oC,nA _ _ _,fun c hc=>cR hc⟩
    ·have h:i=P.length:=oO;rw[h,ct];have hl2:=hPb P.length (ay _);rw[ct]at hl2;have hne:H++de P≠[]:=by intro h0;have:=congrArg List.length h0;rw[bJ,hHl]at this;simp at this
     generalize H++de P=B at hl2 hne⊢;have w3:=fun nm=>O5 FR 1001 1004 nm (8+9*P.length) B oC (fun h0=>hne (gS.1 h0)) oO
     have hsu:=vf (s:=B) oO;repeat' first|simp only[go_sem,seval,q0]|(refine cd (w3 _) (by simp[az]) ?_)|refine cP hsu ?_|refine oE ?_|apply xX<;>intro hc
theorem Q6 (k:Nat) {c:Int} (hc:c=IntKind.u8.wrap (k:Int)) (l more:List Bytes) (hm:more≠[]) (hn:l.length+more.length<=1000) (hb: ∀s∈l++more,s.length<=100000):aD 274 [.i .u8 c, .sl (l.map .s), .sl (more.map .s), .fn (.func 275)] (.s (me (iP k (l++more)))):=by
 subst hc;obtain⟨m0,mr,hmr⟩: ∃m0 mr,more=m0::mr:=by cases more with
  |nil=>exact aW rfl hm
  |cons a b=>exact⟨a,b,rfl⟩
 have hml:more.length=mr.length+1:=by rw[hmr];rfl
 have w1:=fun nm=>Zh FR IP 1001 nm k
 have w2:=fun nm=>vF 1001 1004 nm 0 [UInt8.ofNat k] (l.length+more.length) oC (fh (ay 1) oC) oO
 have ht:=LJ;have hpos: ∀ _:True,(0:Int)<(more.length:Int):=fun _=>oO
 have g0:(more.map PV.s).getD 0 .fn0= .s m0:=by rw[hmr];rfl
 have c1: ∀x∈l.map PV.s,x.cells.length=1:=fun x hx=>by obtain⟨c,-,rfl⟩:=bG.1 hx;rfl
 refine eW call274 func274 ?_;repeat' first|simp only[go_sem,seval]|(refine cd (w1 _) (by simp[az,bF]) ?_)|(refine cd (w2 _) (by simp[az]) ?_)|refine oE ?_|apply xX<;>intro hc
 refine ai ?_;repeat' first|simp only[go_sem,seval,g0,hpos oT]|refine cP ((ht _)) ?_|refine oE ?_|apply xX<;>intro hc
 refine⟨⟨oO,c1⟩,?_⟩;repeat' first|simp only[go_sem,seval]|refine cP ((ht _)) ?_|refine oE ?_|apply xX<;>intro hc
 refine⟨⟨c1,oO,oO⟩,rfl,?_⟩;have hro:List.map AV.v (List.flatMap PV.cells (List.map PV.s l))++[AV.v (PV.s m0)]=bj PV.s (l++more.take 1):=by
  rw[hmr,bj,uR,jh,xW];rfl
 rw[hro];obtain⟨H,hH⟩: ∃H,H=UInt8.ofNat k::be 8 (l.length+more.length):=⟨_,rfl⟩;rw[<-hH];have hHl:H.length=9:=by rw[hH,List.length_cons,cv]
 have hfr:iP k (l++more)=H++de (l++more):=by rw[hH,iP,bJ];rfl
 rw[hfr];clear hro hfr w1 w2 g0 c1;refine af (α:=Nat) (fun j=>more.length-j) (fun j=>⟨[(1, .rs 1028 j 0 (l.length+1+j) 1),(3, .v (.fn (.func 275))),(9, .p 1001 0 0),(23, .v (.sl (more.map PV.s))),(24,E' more.length),(25,E' (j+1))],[(1001,bB FR 1001 1004 8 H),(1004,bD 8 H),(1028,⟨j,bj PV.s (l++more.take (j+1)),true,some 9⟩)],1032⟩) (fun j=>j+1<=more.length) 0 (fun _=>bZ rfl) oO ?_ ?_
 ·refine lG ?_;exact⟨ny _ _ _ _ _ _ oC oC,nA _ _ _,fun c hc=>cR hc⟩
 ·intro j hj R hR;have hlr:(l++more.take (j+1)).length=l.length+1+j:=by rw[bJ,bV];omega
  have q0:(bj PV.s (l++more.take (j+1))).length=l.length+1+j:=by rw[cz dY.s,hlr,dN]
  have q1:List.take (l.length+1+j) (bj PV.s (l++more.take (j+1)))=bj PV.s (l++more.take (j+1)):=cb oO
  by_cases hjt:j+1<more.length
  ·have e2:=getD_map PV.s more ([]:Bytes) hjt;have hgo:=hR (j+1) oO oO;rw[aQ ([]:Bytes) hjt,<-fw,cf]at hgo;generalize more.getD (j+1) ([]:Bytes)=y at e2 hgo;have e3: ∀ _:True,((j:Int)+1).toNat=j+1:=fun _=>oO
   clear hR hlr;repeat' first|simp only[go_sem,seval,q0,q1,e2,e3 oT]|refine cP ((ht _)) ?_|refine oE ?_|apply xX<;>intro hc
   refine hgo _ ?_
   (refine AS.Le.of (by first|decide|omega) ?_ ?_<;>simp[dy,dx,aO,az,AV.bd,AV.bd.bdL,u8,ar,ax,aA])
   all_goals first|omega|exact⟨ny _ _ _ _ _ _ oC oC,nA _ _ _,by rw[q1];rfl,fun c hc=>by rcases hc with hc|⟨a,ha,rfl⟩;exact cR hc;rfl⟩
  ·have h:j+1=more.length:=oO;rw[h,ct]at q0 q1⊢;refine dH (aN @q0 @q1) ?_;have hP:(l++more).length=l.length+1+j:=by rw[bJ];omega
   have hPb: ∀i,i<=(l++more).length->(H++de ((l++more).take i)).length<=9+i*100008:=fun i hi=>by
    rw[bJ,hHl];have h1:=pc ((l++more).take i) (n:=100000) fun s hs=>hb s (jA hs)
    rw[bV,pz hi]at h1;omega
   clear hR ht hmr hml hH hpos;rw[<-hP];rw[<-hP]at q0;generalize hPP:l++more=P at*;have hP3:P.length<=1000:=by rw[hP];omega
   refine af (α:=Nat) (fun i=>P.length-i) (fun i=>⟨[(9, .p 1001 0 0),(41, .rs 1028 j 0 P.length 1),(42,E' P.length),(43,E' i)],[(1001,bB FR 1001 1004 (8+9*i) (H++de (P.take i))),(1004,bD (8+9*i) (H++de (P.take i))),(1028,⟨j,bj PV.s P,true,some 9⟩)],1036⟩) (fun i=>i<=P.length) 0 (fun _=>bZ rfl) (aJ _) ?_ ?_
   ·(refine AS.Le.of (by first|decide|omega) ?_ ?_<;>simp[dy,dx,aO,az,AV.bd,AV.bd.bdL,u8,ar,ax,aA])
    have e0:H++de []=H:=kf H;rw[e0];exact⟨rfl,ny _ _ _ _ _ _ oC oC,rfl,nA _ _ _,fun c hc=>cR hc⟩
   ·intro i hi R hR
    by_cases hit:i<P.length
    ·have e2:=wq (f:=PV.s) (fun _=>rfl) P ([]:Bytes) hit
     have hgo:=hR (i+1) oO oO;have hbs:=hb (P.getD i []) (aq [] hit);have hPi:=hPb i hi;rw[aQ ([]:Bytes) hit,nJ,<-fw,<-fw]at hgo;generalize P.getD i []=y at e2 hgo hbs;generalize hB:H++de (P.take i)=B at hgo hPi⊢;have w1:=fun nm=>vF 1001 1004 nm (8+9*i) B y.length oC oO oO
     have w2:=fun nm=>wsB FR 1001 1004 nm (8+9*i+8) (B++be 8 y.length) y oC (by rw[bJ,cv];omega)
     simp only[show 8+9*(i+1)=8+9*i+8+1 by omega]at hgo
     clear hR hb hPb;repeat' first|simp only[go_sem,seval,q0,e2]|(refine cd (w1 _) (by simp[az]) ?_)|(refine cd (w2 _) (by simp[az]) ?_)|refine oE ?_|apply xX<;>intro hc
     refine hgo _ ?_;refine lG ?_;all_goals exact⟨ny _ _ _ _ _ _ oC oC,nA _ _ _,fun c hc=>cR hc⟩
    ·have h:i=P.length:=oO;rw[h,ct];have hl2:=hPb P.length (ay _);rw[ct]at hl2;have hne:H++de P≠[]:=by intro h0;have:=congrArg List.length h0;rw[bJ,hHl]at this;simp at this
     generalize H++de P=B at hl2 hne⊢;have w3:=fun nm=>O5 FR 1001 1004 nm (8+9*P.length) B oC (fun h0=>hne (gS.1 h0)) oO
     have hsu:=vf (s:=B) oO;repeat' first|simp only[go_sem,seval,q0]|(refine cd (w3 _) (by simp[az]) ?_)|refine cP hsu ?_|refine oE ?_|apply xX<;>intro hc
theorem Q5 (k:Nat) {c:Int} (hc:c=IntKind.u8.wrap (k:Int)) (l:List Bytes) (n:Bool) (a:Bytes) (hn:l.length<=999) (hb: ∀s∈l++[ni (n,a)],s.length<=100000):aD 383 [.i .u8 c, .sl (l.map .s), .sl [.agg [.b n, .s a]], .fn (.func 384)] (.s (me (iP k (l++[ni (n,a)])))):=by
 subst hc;have ha:a.length<1000000:=by
  have:=hb (ni (n,a)) (by simp)
  simp only[ni,List.length_cons]at this;omega
 have w1:=fun nm=>Zh FR IP 1001 nm k
 have w2:=fun nm=>vF 1001 1004 nm 0 [UInt8.ofNat k] (l.length+1) oC (fh (ay 1) oC) oO
 have ht:=LI n a ha;have c1: ∀x∈l.map PV.s,x.cells.length=1:=fun x hx=>by obtain⟨c,-,rfl⟩:=bG.1 hx;rfl
 refine eW call383 func383 ?_;repeat' first|simp only[go_sem,seval]|(refine cd (w1 _) (by simp[az,bF]) ?_)|(refine cd (w2 _) (by simp[az]) ?_)|refine oE ?_|apply xX<;>intro hc
 refine ai ?_;refine Zk @ht ?_;refine⟨⟨oO,c1⟩,?_⟩;refine Zk @ht ?_;refine⟨⟨c1,oO,oO⟩,rfl,?_⟩;refine ai ?_;refine xB ?_;have hro:List.map AV.v (List.flatMap PV.cells (List.map PV.s l))++[AV.v (PV.s (ni (n,a)))]=bj PV.s (l++[ni (n,a)]):=by
  rw[bj,uR,jh,xW];rfl
 rw[hro];obtain⟨H,hH⟩: ∃H,H=UInt8.ofNat k::be 8 (l.length+1):=⟨_,rfl⟩;rw[<-hH];have hHl:H.length=9:=by rw[hH,List.length_cons,cv]
 have hfr:iP k (l++[ni (n,a)])=H++de (l++[ni (n,a)]):=by rw[hH,iP,bJ];rfl
 rw[hfr];have hP:(l++[ni (n,a)]).length=l.length+1:=by rw[bJ];rfl
 have q0:(bj PV.s (l++[ni (n,a)])).length=(l++[ni (n,a)]).length:=by rw[cz dY.s,dN]
 have hPb: ∀i,i<=(l++[ni (n,a)]).length->(H++de ((l++[ni (n,a)]).take i)).length<=9+i*100008:=fun i hi=>by
  rw[bJ,hHl];have h1:=pc ((l++[ni (n,a)]).take i) (n:=100000) fun s hs=>hb s (jA hs)
  rw[bV,pz hi]at h1;omega
 clear hro hfr w1 w2 c1 hH;rw[<-hP];generalize l++[ni (n,a)]=P at*;have hP3:P.length<=1000:=by rw[hP];omega
 clear ha ht hP;refine af (α:=Nat) (fun i=>P.length-i) (fun i=>⟨[(9, .p 1001 0 0),(41, .rs 1029 0 0 P.length 1),(42,E' P.length),(43,E' i)],[(1001,bB FR 1001 1004 (8+9*i) (H++de (P.take i))),(1004,bD (8+9*i) (H++de (P.take i))),(1029,⟨0,bj PV.s P,true,some 9⟩)],1037⟩) (fun i=>i<=P.length) 0 (fun _=>bZ rfl) (aJ _) ?_ ?_
 ·(refine AS.Le.of (by first|decide|omega) ?_ ?_<;>simp[dy,dx,aO,az,AV.bd,AV.bd.bdL,u8,ar,ax,aA])
  have e0:H++de []=H:=kf H;rw[e0];exact⟨rfl,ny _ _ _ _ _ _ oC oC,rfl,nA _ _ _,fun c hc=>cR hc⟩
 ·intro i hi R hR
  by_cases hit:i<P.length
  ·have e2:=wq (f:=PV.s) (fun _=>rfl) P ([]:Bytes) hit
   have hgo:=hR (i+1) oO oO;have hbs:=hb (P.getD i []) (aq [] hit);have hPi:=hPb i hi;rw[aQ ([]:Bytes) hit,nJ,<-fw,<-fw]at hgo;generalize P.getD i []=y at e2 hgo hbs;generalize hB:H++de (P.take i)=B at hgo hPi⊢;have w1:=fun nm=>vF 1001 1004 nm (8+9*i) B y.length oC oO oO
   have w2:=fun nm=>wsB FR 1001 1004 nm (8+9*i+8) (B++be 8 y.length) y oC (by rw[bJ,cv];omega)
   simp only[show 8+9*(i+1)=8+9*i+8+1 by omega]at hgo
   clear hR hb hPb;repeat' first|simp only[go_sem,seval,q0,e2]|(refine cd (w1 _) (by simp[az]) ?_)|(refine cd (w2 _) (by simp[az]) ?_)|refine oE ?_|apply xX<;>intro hc
   refine hgo _ ?_;refine lG ?_;all_goals exact⟨ny _ _ _ _ _ _ oC oC,nA _ _ _,fun c hc=>cR hc⟩
  ·have h:i=P.length:=oO;rw[h,ct];have hl2:=hPb P.length (ay _);rw[ct]at hl2;have hne:H++de P≠[]:=by intro h0;have:=congrArg List.length h0;rw[bJ,hHl]at this;simp at this
   generalize H++de P=B at hl2 hne⊢;have w3:=fun nm=>O5 FR 1001 1004 nm (8+9*P.length) B oC (fun h0=>hne (gS.1 h0)) oO
   have hsu:=vf (s:=B) oO;repeat' first|simp only[go_sem,seval,q0]|(refine cd (w3 _) (by simp[az]) ?_)|refine cP hsu ?_|refine oE ?_|apply xX<;>intro hc
