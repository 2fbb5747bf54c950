/- Part of the proof. -/
import Derived.Test.YtnhhajlcpjgkjaaGreatDoorUC23
import Derived.Test.YtnhhajlcpjgkjaaGreatDoorUC28
set_option linter.all false
set_option maxHeartbeats 16000000
set_option maxRecDepth 100000
namespace Go.Proofs.Tryz
open Go Go.Dom
theorem Mx:Y1 prog 491:=by
 intro v w;have h1:(Tryz.f491.name== "runtime.NumGoroutine")=false:=by kernel_rfl
 have h2:Tryz.f491.body.isNone=true:=by kernel_rfl
 have h3:(Extern.findNext Tryz.f491).isNone=true:=by kernel_rfl
 have h4:Extern.find Tryz.f491=some Extern.AbiNoEscape.same:=by kernel_rfl
 have h3':Extern.findNext Tryz.f491=none:=by simpa using h3
 simp only[callFunc,bu,run_program,Result.andThen,func491,h1,h2,h3',h4,az,bO,ar];rfl
def bF (el:TypeId):aH:=⟨0,[.v .p0, .sn],false,some el⟩
def bS (el:TypeId) (b:Nat):aH:=⟨0,[.p b 0 0, .sn],false,some el⟩
def bB (el:TypeId) (b d ver:Nat) (bs:Bytes):aH:=⟨0,[.p b 0 0, .rs d ver 0 bs.length 1],false,some el⟩
def bD (ver:Nat) (bs:Bytes):aH:=⟨ver,aJ bs,true,some 5⟩
theorem FF (l:Bytes):(∀y,y∈aJ l->y= .v (.i .u8 (y.byte.toNat:Int)))=True:=I0 l
theorem Xf:liesAt prog prog.depth 383 (2/prog.cellsOf 383) 0 383 1=true:=by kernel_rfl
theorem HT:liesAt prog prog.depth 395 (2/prog.cellsOf 395) 0 383 1=true:=by kernel_rfl
theorem b1 (c:Nat):[AV.v (.i .u8 (IntKind.u8.wrap (c:Int)))]=aJ [UInt8.ofNat c]:=rfl
theorem RH (el:TypeId) (hl:liesAt prog prog.depth el (2/prog.cellsOf el) 0 383 1=true) (b nm:Nat):jD prog 436 nm [(b,bF el)] [.p b 0 0] (.tup []) [(b,some (bS el b))]:=by
 have hbd':True:=trivial;refine jD.w mixed call436 func436 rfl (jJ.1 _ _ _ (by cbv)) (jJ.2 _ _ (by cbv)) (obs:=[bF el]) (args:=[.p 0 0 0]) (fs:=[some (some (bS el 0))]) (j:=none) (nw:=none) (v:= .tup []) (ns:=[b]) (obsA:=[bF el]) rfl ?_ (by simp) (by simp) rfl (by simp[aW,aH.aU,AV.aU,AV.aU.renL,dp,aK,hbd',bF,bS,bB,bD]) (by simp[aW,AV.aU,AV.aU.renL,dp,hbd']) (by simp[AV.aU,AV.aU.renL]) (by simp[fC,outs,aH.aU,AV.aU,AV.aU.renL,aK,gv,bF,bS,bB,bD])
 simp only[go_sem,seval,bF,bS,bB,bD];repeat' first|simp only[go_sem,seval,cG,cl,true_or,or_true,false_or,or_false,an,iB,eS,gY,ft,fT,eN,pc,pq,gF,ib,dI,aO,AV.aU,AV.aU.renL,aK,bF,bB,bD,bS,hl]|refine Ot Mx ?_|refine oE ?_|apply xX<;>intro hc
theorem RG (el:TypeId) (b d nm ver:Nat) (bs:Bytes) (hbd:b≠d):jD prog 436 nm [(b,bB el b d ver bs),(d,bD ver bs)] [.p b 0 0] (.tup []) []:=by
 have hbd':=hbd.symm;refine jD.w mixed call436 func436 rfl (jJ.1 _ _ _ (by cbv)) (jJ.2 _ _ (by cbv)) (obs:=[bB el 0 1 ver bs,bD ver bs]) (args:=[.p 0 0 0]) (fs:=[none,none]) (j:=none) (nw:=none) (v:= .tup []) (ns:=[b,d]) (obsA:=[bB el b d ver bs,bD ver bs]) rfl ?_ (by simp) (by simp[hbd]) rfl (by simp[aW,aH.aU,AV.aU,AV.aU.renL,dp,aK,hbd',bF,bB,bD]) (by simp[aW,AV.aU,AV.aU.renL,dp,hbd']) (by simp[AV.aU,AV.aU.renL]) (by simp[fC,outs,aH.aU,AV.aU,AV.aU.renL,aK,gv,bF,bB,bD])
 simp only[go_sem,seval,bF,bB,bD];repeat' first|simp only[go_sem,seval,cG,cl,true_or,or_true,false_or,or_false,an,iB,eS,gY,ft,fT,eN,pc,pq,gF,ib,dI,aO,AV.aU,AV.aU.renL,aK,bF,bB,bD]|refine oE ?_|apply xX<;>intro hc
theorem YU (el:TypeId) (hl:liesAt prog prog.depth el (2/prog.cellsOf el) 0 383 1=true) (b nm:Nat) (c:Nat):jD prog 337 nm [(b,bF el)] [.p b 0 0, .v (.i .u8 (IntKind.u8.wrap (c:Int)))] (.v .if0) [(nm,some (bD 0 [UInt8.ofNat c])),(b,some (bB el b nm 0 [UInt8.ofNat c]))]:=by
 have hbd':True:=trivial;refine jD.w mixed call337 func337 rfl (jJ.1 _ _ _ (by cbv)) (jJ.2 _ _ (by cbv)) (obs:=[bF el]) (args:=[.p 0 0 0, .v (.i .u8 (IntKind.u8.wrap (c:Int)))]) (fs:=[some (some (bB el 0 1 0 [UInt8.ofNat c]))]) (j:=some 1010) (nw:=(some (bD 0 [UInt8.ofNat c]))) (v:= .v .if0) (ns:=[b]) (obsA:=[bF el]) rfl ?_ (by simp) (by simp) rfl (by simp[aW,aH.aU,AV.aU,AV.aU.renL,dp,aK,hbd',bF,bB,bD]) (by simp[aW,AV.aU,AV.aU.renL,dp,hbd']) (by simp[AV.aU,AV.aU.renL]) (by simp[fC,outs,aH.aU,AV.aU,AV.aU.renL,aK,gv,bF,bB,bD])
 simp only[go_sem,seval,bF,bB,bD];repeat' first|simp only[go_sem,seval,cG,cl,true_or,or_true,false_or,or_false,an,iB,eS,gY,ft,fT,eN,pc,pq,gF,ib,dI,aO,AV.aU,AV.aU.renL,aK,bF,bB,bD,bS]|(refine bE (RH el hl 0 _) (by simp[aB,bF,bB,bD]) ?_)|refine oE ?_|apply xX<;>intro hc
 all_goals first|rfl|exact b1 c|skip
theorem wbB (el:TypeId) (b d nm ver:Nat) (bs:Bytes) (c:Nat) (hbd:b≠d) (hs:bs.length<1099511627776):jD prog 337 nm [(b,bB el b d ver bs),(d,bD ver bs)] [.p b 0 0, .v (.i .u8 (IntKind.u8.wrap (c:Int)))] (.v .if0) [(b,some (bB el b d (ver+1) (bs++[UInt8.ofNat c]))),(d,some (bD (ver+1) (bs++[UInt8.ofNat c])))]:=by
 have hbd':=hbd.symm;refine jD.w mixed call337 func337 rfl (jJ.1 _ _ _ (by cbv)) (jJ.2 _ _ (by cbv)) (obs:=[bB el 0 1 ver bs,bD ver bs]) (args:=[.p 0 0 0, .v (.i .u8 (IntKind.u8.wrap (c:Int)))]) (fs:=[some (some (bB el 0 1 (ver+1) (bs++[UInt8.ofNat c]))),some (some (bD (ver+1) (bs++[UInt8.ofNat c])))]) (j:=none) (nw:=none) (v:= .v .if0) (ns:=[b,d]) (obsA:=[bB el b d ver bs,bD ver bs]) rfl ?_ (by simp) (by simp[hbd]) rfl (by simp[aW,aH.aU,AV.aU,AV.aU.renL,dp,aK,hbd',bF,bB,bD]) (by simp[aW,AV.aU,AV.aU.renL,dp,hbd']) (by simp[AV.aU,AV.aU.renL]) (by simp[fC,outs,aH.aU,AV.aU,AV.aU.renL,aK,gv,bF,bB,bD])
 simp only[go_sem,seval,bF,bB,bD];repeat' first|simp only[go_sem,seval,cG,cl,true_or,or_true,false_or,or_false,an,iB,eS,gY,ft,fT,eN,pc,pq,gF,ib,dI,aO,AV.aU,AV.aU.renL,aK,bF,bB,bD,bY,su,mL,cg]|(refine bE (RG el 0 1 _ ver bs oC) (by simp[aB,bF,bB,bD]) ?_)|refine oE ?_|apply xX<;>intro hc
theorem wsF (el:TypeId) (hl:liesAt prog prog.depth el (2/prog.cellsOf el) 0 383 1=true) (b nm:Nat) (s:Bytes) (h0:s.length≠0) (hs:s.length<1099511627776):jD prog 336 nm [(b,bF el)] [.p b 0 0, .v (.s s)] (.tup [.v (.i .i64 (s:Bytes).length), .v .if0]) [(nm,some (bD 0 s)),(b,some (bB el b nm 0 s))]:=by
 have hbd':True:=trivial;refine jD.w mixed call336 func336 rfl (jJ.1 _ _ _ (by cbv)) (jJ.2 _ _ (by cbv)) (obs:=[bF el]) (args:=[.p 0 0 0, .v (.s s)]) (fs:=[some (some (bB el 0 1 0 s))]) (j:=some 1010) (nw:=(some (bD 0 s))) (v:= .tup [.v (.i .i64 (s:Bytes).length), .v .if0]) (ns:=[b]) (obsA:=[bF el]) rfl ?_ (by simp) (by simp) rfl (by simp[aW,aH.aU,AV.aU,AV.aU.renL,dp,aK,hbd',bF,bB,bD]) (by simp[aW,AV.aU,AV.aU.renL,dp,hbd']) (by simp[AV.aU,AV.aU.renL]) (by simp[fC,outs,aH.aU,AV.aU,AV.aU.renL,aK,gv,bF,bB,bD])
 simp only[go_sem,seval,bF,bB,bD];repeat' first|simp only[go_sem,seval,cG,cl,true_or,or_true,false_or,or_false,an,iB,eS,gY,ft,fT,eN,pc,pq,gF,ib,dI,aO,AV.aU,AV.aU.renL,aK,bF,bB,bD,bS,h0]|(refine bE (RH el hl 0 _) (by simp[aB,bF,bB,bD]) ?_)|refine oE ?_|apply xX<;>intro hc
theorem ZY (el:TypeId) (b d nm ver:Nat) (bs s:Bytes) (hbd:b≠d) (hs:bs.length+s.length<1099511627776):jD prog 336 nm [(b,bB el b d ver bs),(d,bD ver bs)] [.p b 0 0, .v (.s s)] (.tup [.v (.i .i64 (s:Bytes).length), .v .if0]) [(b,some (bB el b d (ver+1) (bs++s))),(d,some (bD (ver+1) (bs++s)))]:=by
 have hbd':=hbd.symm;refine jD.w mixed call336 func336 rfl (jJ.1 _ _ _ (by cbv)) (jJ.2 _ _ (by cbv)) (obs:=[bB el 0 1 ver bs,bD ver bs]) (args:=[.p 0 0 0, .v (.s s)]) (fs:=[some (some (bB el 0 1 (ver+1) (bs++s))),some (some (bD (ver+1) (bs++s)))]) (j:=none) (nw:=none) (v:= .tup [.v (.i .i64 (s:Bytes).length), .v .if0]) (ns:=[b,d]) (obsA:=[bB el b d ver bs,bD ver bs]) rfl ?_ (by simp) (by simp[hbd]) rfl (by simp[aW,aH.aU,AV.aU,AV.aU.renL,dp,aK,hbd',bF,bB,bD]) (by simp[aW,AV.aU,AV.aU.renL,dp,hbd']) (by simp[AV.aU,AV.aU.renL]) (by simp[fC,outs,aH.aU,AV.aU,AV.aU.renL,aK,gv,bF,bB,bD])
 simp only[go_sem,seval,bF,bB,bD];repeat' first|simp only[go_sem,seval,cG,cl,true_or,or_true,false_or,or_false,an,iB,eS,gY,ft,fT,eN,pc,pq,gF,ib,dI,aO,AV.aU,AV.aU.renL,aK,bF,bB,bD,bY]|(refine bE (RG el 0 1 _ ver bs oC) (by simp[aB,bF,bB,bD]) ?_)|refine oE ?_|apply xX<;>intro hc
theorem ZF (el:TypeId) (b nm:Nat):jD prog 341 nm [(b,bF el)] [.p b 0 0] (.v (.i .i64 0)) []:=by
 have hbd':True:=trivial;refine jD.w mixed call341 func341 rfl (jJ.1 _ _ _ (by cbv)) (jJ.2 _ _ (by cbv)) (obs:=[bF el]) (args:=[.p 0 0 0]) (fs:=[none]) (j:=none) (nw:=none) (v:= .v (.i .i64 0)) (ns:=[b]) (obsA:=[bF el]) rfl ?_ (by simp) (by simp) rfl (by simp[aW,aH.aU,AV.aU,AV.aU.renL,dp,aK,hbd',bF,bB,bD]) (by simp[aW,AV.aU,AV.aU.renL,dp,hbd']) (by simp[AV.aU,AV.aU.renL]) (by simp[fC,outs,aH.aU,AV.aU,AV.aU.renL,aK,gv,bF,bB,bD])
 simp only[go_sem,seval,bF,bB,bD];repeat' first|simp only[go_sem,seval,cG,cl,true_or,or_true,false_or,or_false,an,iB,eS,gY,ft,fT,eN,pc,pq,gF,ib,dI,aO,AV.aU,AV.aU.renL,aK,bF,bB,bD]|refine oE ?_|apply xX<;>intro hc
theorem ZE (el:TypeId) (b d nm ver:Nat) (bs:Bytes) (hbd:b≠d):jD prog 341 nm [(b,bB el b d ver bs),(d,bD ver bs)] [.p b 0 0] (.v (.i .i64 bs.length)) []:=by
 have hbd':=hbd.symm;refine jD.w mixed call341 func341 rfl (jJ.1 _ _ _ (by cbv)) (jJ.2 _ _ (by cbv)) (obs:=[bB el 0 1 ver bs,bD ver bs]) (args:=[.p 0 0 0]) (fs:=[none,none]) (j:=none) (nw:=none) (v:= .v (.i .i64 bs.length)) (ns:=[b,d]) (obsA:=[bB el b d ver bs,bD ver bs]) rfl ?_ (by simp) (by simp[hbd]) rfl (by simp[aW,aH.aU,AV.aU,AV.aU.renL,dp,aK,hbd',bF,bB,bD]) (by simp[aW,AV.aU,AV.aU.renL,dp,hbd']) (by simp[AV.aU,AV.aU.renL]) (by simp[fC,outs,aH.aU,AV.aU,AV.aU.renL,aK,gv,bF,bB,bD])
 simp only[go_sem,seval,bF,bB,bD];repeat' first|simp only[go_sem,seval,cG,cl,true_or,or_true,false_or,or_false,an,iB,eS,gY,ft,fT,eN,pc,pq,gF,ib,dI,aO,AV.aU,AV.aU.renL,aK,bF,bB,bD]|refine oE ?_|apply xX<;>intro hc
theorem NR (el:TypeId) (b d nm ver:Nat) (bs:Bytes) (hbd:b≠d) (h0:bs.length≠0) (hs:bs.length<1099511627776):jD prog 338 nm [(b,bB el b d ver bs),(d,bD ver bs)] [.p b 0 0] (.v (.s bs)) [(d,none)]:=by
 have hbd':=hbd.symm;refine jD.w mixed call338 func338 rfl (jJ.1 _ _ _ (by cbv)) (jJ.2 _ _ (by cbv)) (obs:=[bB el 0 1 ver bs,bD ver bs]) (args:=[.p 0 0 0]) (fs:=[none,some none]) (j:=none) (nw:=none) (v:= .v (.s bs)) (ns:=[b,d]) (obsA:=[bB el b d ver bs,bD ver bs]) rfl ?_ (by simp) (by simp[hbd]) rfl (by simp[aW,aH.aU,AV.aU,AV.aU.renL,dp,aK,hbd',bF,bB,bD]) (by simp[aW,AV.aU,AV.aU.renL,dp,hbd']) (by simp[AV.aU,AV.aU.renL]) (by simp[fC,outs,aH.aU,AV.aU,AV.aU.renL,aK,gv,bF,bB,bD])
 simp only[go_sem,seval,bF,bB,bD];repeat' first|simp only[go_sem,seval,cG,cl,true_or,or_true,false_or,or_false,an,iB,eS,gY,ft,fT,eN,pc,pq,gF,ib,dI,aO,AV.aU,AV.aU.renL,aK,bF,bB,bD,kI,FF]|refine oE ?_|apply xX<;>intro hc
abbrev FR:TypeId:=395
theorem mI (el:TypeId) (b d ver:Nat) (bs:Bytes) (n:Nat) (hb:b<n) (hd:d<n): ∀c∈(bB el b d ver bs).cells,c.bd n=true:=by
 intro c hc;simp[bB]at hc;rcases hc with rfl|rfl<;>simp[AV.bd,hb,hd]
theorem mJ (ver:Nat) (bs:Bytes) (n:Nat): ∀c∈(bD ver bs).cells,c.bd n=true:=by
 intro c hc;have h:=au bs n;exact(h▸trivial: ∀y,y∈aJ bs->y.bd n=true) c hc
theorem ud (b d nm ver:Nat) (bs:Bytes) (N:Nat) (hbd:b≠d) (hs:bs.length<1000000000000) (hN:N<4611686018427387904):jD prog 342 nm [(b,bB FR b d ver bs),(d,bD ver bs)] [.p b 0 0, .v (.i .i64 (N:Int))] (.tup []) [(b,some (bB FR b d (ver+8) (bs++be 8 N))),(d,some (bD (ver+8) (bs++be 8 N)))]:=by
 have hbd':=hbd.symm;refine jD.w mixed call342 func342 rfl (jJ.1 _ _ _ (by cbv)) (jJ.2 _ _ (by cbv)) (obs:=[bB FR 0 1 ver bs,bD ver bs]) (args:=[.p 0 0 0, .v (.i .i64 (N:Int))]) (fs:=[some (some (bB FR 0 1 (ver+8) (bs++be 8 N))),some (some (bD (ver+8) (bs++be 8 N)))]) (j:=none) (nw:=none) (v:= .tup []) (ns:=[b,d]) (obsA:=[bB FR b d ver bs,bD ver bs]) rfl ?_ (by simp) (by simp[hbd]) rfl (by simp[aW,aH.aU,AV.aU,AV.aU.renL,dp,aK,hbd',bB,bD]) (by simp[aW,AV.aU,AV.aU.renL,dp,hbd']) (by simp[AV.aU,AV.aU.renL]) (by simp[fC,outs,aH.aU,AV.aU,AV.aU.renL,aK,gv,bB,bD])
 simp only[go_sem,seval];repeat' first|simp only[go_sem,seval,true_or,or_true,false_or,or_false,an,iB,eS,gY,ft,fT,eN,pc,pq,gF,ib,dI,aO,AV.aU,AV.aU.renL,aK]|refine oE ?_|apply xX<;>intro hc
 refine ak (α:=Nat) (fun k=>8-k) (fun k=>⟨[(0, .p 0 0 0),(1,E' N),(4, .v (.i .i64 (56-8*(k:Int))))],[(0,bB FR 0 1 (ver+k) (bs++(be 8 N).take k)),(1,bD (ver+k) (bs++(be 8 N).take k))],_⟩) (fun k=>k<=8) 0 (fun _=>aD _) (aR _) ?_ ?_
 ·refine lG ?_;exact⟨mI _ _ _ _ _ _ oC oC,mJ _ _ _⟩
 ·intro k hk R hR
  by_cases h8:k<8
  ·have hlen:(bs++(be 8 N).take k).length<1099511627776:=by
    rw[bY,cf,cH];omega
   have hw:=fun nm=>wbB FR 0 1 nm (ver+k) (bs++(be 8 N).take k) (N/256^(7-k)) oC hlen
   have hgo:=hR (k+1) oO oO;rw[DA N k h8,<-fD,<-kT]at hgo;rw[fD]at hgo hw;generalize hbb:bs++(be 8 N).take k=bb at hw hgo⊢;clear hR hlen hbb;rcases(by omega:k=0\/k=1\/k=2\/k=3\/k=4\/k=5\/k=6\/k=7)with rfl|rfl|rfl|rfl|rfl|rfl|rfl|rfl
   all_goals simp only[Nat.reduceSub,Nat.reducePow,Nat.pow_zero]at hw hgo
   repeat' first|simp only[go_sem,seval,true_or,or_true,false_or,or_false,an,iB,eS,gY,ft,fT,eN,pc,pq,gF,ib,dI,aO,AV.aU,AV.aU.renL,aK]|(refine bE (hw _) (by simp[aB]) ?_)|refine oE ?_|apply xX<;>intro hc
   all_goals (refine hgo _ ?_)
   all_goals (refine AS.Le.of (by first|decide|omega) ?_ ?_<;>simp[dA,dz,aS,aB,AV.bd,AV.bd.bdL,u8,aq,au,aA])
   all_goals exact⟨mI _ _ _ _ _ _ oC oC,mJ _ _ _⟩
  ·have h:k=8:=oO;subst h;have e8:(be 8 N).take 8=be 8 N:=c9 (by rw[cH];decide)
   rw[e8];repeat' first|simp only[go_sem,seval,true_or,or_true,false_or,or_false,an,iB,eS,gY,ft,fT,eN,pc,pq,gF,ib,dI,aO,AV.aU,AV.aU.renL,aK,bB,bD]|refine oE ?_|apply xX<;>intro hc
theorem TI (b nm:Nat) (N:Nat) (hN:N<4611686018427387904):jD prog 342 nm [(b,bF FR)] [.p b 0 0, .v (.i .i64 (N:Int))] (.tup []) [(nm,some (bD 7 (be 8 N))),(b,some (bB FR b nm 7 (be 8 N)))]:=by
 have hbd':True:=trivial;refine jD.w mixed call342 func342 rfl (jJ.1 _ _ _ (by cbv)) (jJ.2 _ _ (by cbv)) (obs:=[bF FR]) (args:=[.p 0 0 0, .v (.i .i64 (N:Int))]) (fs:=[some (some (bB FR 0 1 7 (be 8 N)))]) (j:=some 1010) (nw:=some (bD 7 (be 8 N))) (v:= .tup []) (ns:=[b]) (obsA:=[bF FR]) rfl ?_ (by simp) (by simp) rfl (by simp[aW,aH.aU,AV.aU,AV.aU.renL,dp,aK,hbd',bF,bB,bD]) (by simp[aW,AV.aU,AV.aU.renL,dp,hbd']) (by simp[AV.aU,AV.aU.renL]) (by simp[fC,outs,aH.aU,AV.aU,AV.aU.renL,aK,gv,bF,bB,bD])
 simp only[go_sem,seval];have hw0:=fun nm=>YU FR HT 0 nm (N/256^7)
 simp only[Nat.reducePow]at hw0;repeat' first|simp only[go_sem,seval,true_or,or_true,false_or,or_false,an,iB,eS,gY,ft,fT,eN,pc,pq,gF,ib,dI,aO,AV.aU,AV.aU.renL,aK]|(refine bE (hw0 _) (by simp[aB]) ?_)|refine oE ?_|apply xX<;>intro hc
 refine aj ?_;repeat' first|simp only[go_sem,seval,true_or,or_true,false_or,or_false,an,iB,eS,gY,ft,fT,eN,pc,pq,gF,ib,dI,aO,AV.aU,AV.aU.renL,aK]|(refine bE (hw0 _) (by simp[aB]) ?_)|refine oE ?_|apply xX<;>intro hc
 have e1:[UInt8.ofNat (N/72057594037927936)]=(be 8 N).take 1:=rfl;rw[e1];refine ak (α:=Nat) (fun k=>7-k) (fun k=>⟨[(0, .p 0 0 0),(1,E' N),(4, .v (.i .i64 (48-8*(k:Int))))],[(0,bB FR 0 1010 (0+k) ((be 8 N).take (k+1))),(1010,bD (0+k) ((be 8 N).take (k+1)))],1014⟩) (fun k=>k<=7) 0 (fun _=>dF rfl) (aR _) ?_ ?_
 ·refine lG ?_;exact⟨mI _ _ _ _ _ _ oC oC,mJ _ _ _⟩
 ·intro k hk R hR
  by_cases h8:k<7
  ·have hlen:((be 8 N).take (k+1)).length<1099511627776:=by
    rw[cf,cH];omega
   have hw:=fun nm=>wbB FR 0 1010 nm (0+k) ((be 8 N).take (k+1)) (N/256^(7-(k+1))) oC hlen
   have hgo:=hR (k+1) oO oO;rw[DA N (k+1) oO,<-kT]at hgo;generalize hbb:(be 8 N).take (k+1)=bb at hw hgo⊢;clear hR hlen hbb e1;rcases(by omega:k=0\/k=1\/k=2\/k=3\/k=4\/k=5\/k=6)with rfl|rfl|rfl|rfl|rfl|rfl|rfl
   all_goals simp only[Nat.reduceSub,Nat.reduceAdd,Nat.reducePow,Nat.pow_zero]at hw hgo
   repeat' first|simp only[go_sem,seval,true_or,or_true,false_or,or_false,an,iB,eS,gY,ft,fT,eN,pc,pq,gF,ib,dI,aO,AV.aU,AV.aU.renL,aK,Nat.reduceAdd]|(refine bE (hw _) (by simp[aB]) ?_)|refine oE ?_|apply xX<;>intro hc
   all_goals (refine hgo _ ?_)
   all_goals (refine AS.Le.of (by first|decide|omega) ?_ ?_<;>simp[dA,dz,aS,aB,AV.bd,AV.bd.bdL,u8,aq,au,aA])
   all_goals exact⟨mI _ _ _ _ _ _ oC oC,mJ _ _ _⟩
  ·have h:k=7:=oO;subst h;have e8:(be 8 N).take (7+1)=be 8 N:=c9 (by rw[cH];decide)
   rw[e8];repeat' first|simp only[go_sem,seval,true_or,or_true,false_or,or_false,an,iB,eS,gY,ft,fT,eN,pc,pq,gF,ib,dI,aO,AV.aU,AV.aU.renL,aK,bF,bB,bD]|refine oE ?_|apply xX<;>intro hc
theorem JX (s:Bytes):aE 431 [.s s] (.s s):=by
 refine eW call431 func431 ?_;exact z0
theorem KB (s:Bytes):aE 340 [.s s] (.s s):=by
 refine eW call340 func340 ?_;exact z0
theorem Kz (n:Bool) (s:Bytes) (hs:s.length<1000000):aE 434 [.agg [.b n, .s s]] (.s (mF (n,s))):=by
 cases n;all_goals simp only[mF]
 refine eW call434 func434 ?_;repeat' first|simp only[go_sem,seval]|refine oE ?_|apply xX<;>intro hc
 refine eW call434 func434 ?_;exact z0
theorem PM (k:Nat) {c:Int} (hc:c=IntKind.u8.wrap (k:Int)) (l more:List Bytes) (hm:more≠[]) (hn:l.length+more.length<=1000) (hb: ∀s∈l++more,s.length<=100000):aE 430 [.i .u8 c, .sl (l.map .s), .sl (more.map .s), .fn (.func 431)] (.s (lg (iD k (l++more)))):=by
 subst hc;obtain⟨m0,mr,hmr⟩: ∃m0 mr,more=m0::mr:=by cases more with
  |nil=>exact aM rfl hm
  |cons a b=>exact⟨a,b,rfl⟩
 have hml:more.length=mr.length+1:=by rw[hmr];rfl
 have w1:=fun nm=>YU FR HT 1001 nm k
 have w2:=fun nm=>ud 1001 1004 nm 0 [UInt8.ofNat k] (l.length+more.length) oC (eu (aD 1) oC) oO
 have ht:=JX;have hpos: ∀ _:True,(0:Int)<(more.length:Int):=fun _=>oO
 have g0:(more.map PV.s).getD 0 .fn0= .s m0:=by rw[hmr];rfl
 have c1: ∀x∈l.map PV.s,x.cells.length=1:=fun x hx=>by obtain⟨c,-,rfl⟩:=cv.1 hx;rfl
 refine eW call430 func430 ?_;repeat' first|simp only[go_sem,seval]|(refine bE (w1 _) (by simp[aB,bF]) ?_)|(refine bE (w2 _) (by simp[aB]) ?_)|refine oE ?_|apply xX<;>intro hc
 refine aj ?_;repeat' first|simp only[go_sem,seval,g0,hpos oT]|refine cP ((ht _)) ?_|refine oE ?_|apply xX<;>intro hc
 refine⟨⟨oO,c1⟩,?_⟩;repeat' first|simp only[go_sem,seval]|refine cP ((ht _)) ?_|refine oE ?_|apply xX<;>intro hc
 refine⟨⟨c1,oO,oO⟩,rfl,?_⟩;have hro:List.map AV.v (List.flatMap PV.cells (List.map PV.s l))++[AV.v (PV.s m0)]=aX PV.s (l++more.take 1):=by
  rw[hmr,aX,tH,lu,oZ];rfl
 rw[hro];obtain⟨H,hH⟩: ∃H,H=UInt8.ofNat k::be 8 (l.length+more.length):=⟨_,rfl⟩;rw[<-hH];have hHl:H.length=9:=by rw[hH,List.length_cons,cH]
 have hfr:iD k (l++more)=H++de (l++more):=by rw[hH,iD,bY];rfl
 rw[hfr];clear hro hfr w1 w2 g0 c1;refine ak (α:=Nat) (fun j=>more.length-j) (fun j=>⟨[(1, .rs 1028 j 0 (l.length+1+j) 1),(3, .v (.fn (.func 431))),(9, .p 1001 0 0),(23, .v (.sl (more.map PV.s))),(24,E' more.length),(25,E' (j+1))],[(1001,bB FR 1001 1004 8 H),(1004,bD 8 H),(1028,⟨j,aX PV.s (l++more.take (j+1)),true,some 9⟩)],1032⟩) (fun j=>j+1<=more.length) 0 (fun _=>dF rfl) oO ?_ ?_
 ·refine lG ?_;exact⟨mI _ _ _ _ _ _ oC oC,mJ _ _ _,fun c hc=>cI hc⟩
 ·intro j hj R hR;have hlr:(l++more.take (j+1)).length=l.length+1+j:=by rw[bY,cf];omega
  have q0:(aX PV.s (l++more.take (j+1))).length=l.length+1+j:=by rw[cF cT.s,hlr,dK]
  have q1:List.take (l.length+1+j) (aX PV.s (l++more.take (j+1)))=aX PV.s (l++more.take (j+1)):=c9 oO
  by_cases hjt:j+1<more.length
  ·have e2:=getD_map PV.s more ([]:Bytes) hjt;have hgo:=hR (j+1) oO oO;rw[aQ ([]:Bytes) hjt,<-fD,cu]at hgo;generalize more.getD (j+1) ([]:Bytes)=y at e2 hgo;have e3: ∀ _:True,((j:Int)+1).toNat=j+1:=fun _=>oO
   clear hR hlr;repeat' first|simp only[go_sem,seval,q0,q1,e2,e3 oT]|refine cP ((ht _)) ?_|refine oE ?_|apply xX<;>intro hc
   refine hgo _ ?_
   (refine AS.Le.of (by first|decide|omega) ?_ ?_<;>simp[dA,dz,aS,aB,AV.bd,AV.bd.bdL,u8,aq,au,aA])
   all_goals first|omega|exact⟨mI _ _ _ _ _ _ oC oC,mJ _ _ _,by rw[q1];rfl,fun c hc=>by rcases hc with hc|⟨a,ha,rfl⟩;exact cI hc;rfl⟩
  ·have h:j+1=more.length:=oO;rw[h,cg]at q0 q1⊢;refine eC (aN @q0 @q1) ?_;have hP:(l++more).length=l.length+1+j:=by rw[bY];omega
   have hPb: ∀i,i<=(l++more).length->(H++de ((l++more).take i)).length<=9+i*100008:=fun i hi=>by
    rw[bY,hHl];have h1:=oz ((l++more).take i) (n:=100000) fun s hs=>hb s (kC hs)
    rw[cf,o5 hi]at h1;omega
   clear hR ht hmr hml hH hpos;rw[<-hP];rw[<-hP]at q0;generalize hPP:l++more=P at*;have hP3:P.length<=1000:=by rw[hP];omega
   refine ak (α:=Nat) (fun i=>P.length-i) (fun i=>⟨[(9, .p 1001 0 0),(41, .rs 1028 j 0 P.length 1),(42,E' P.length),(43,E' i)],[(1001,bB FR 1001 1004 (8+9*i) (H++de (P.take i))),(1004,bD (8+9*i) (H++de (P.take i))),(1028,⟨j,aX PV.s P,true,some 9⟩)],1036⟩) (fun i=>i<=P.length) 0 (fun _=>dF rfl) (aR _) ?_ ?_
   ·(refine AS.Le.of (by first|decide|omega) ?_ ?_<;>simp[dA,dz,aS,aB,AV.bd,AV.bd.bdL,u8,aq,au,aA])
    have e0:H++de []=H:=iu H;rw[e0];exact⟨rfl,mI _ _ _ _ _ _ oC oC,rfl,mJ _ _ _,fun c hc=>cI hc⟩
   ·intro i hi R hR
    by_cases hit:i<P.length
    ·have e2:=qn (f:=PV.s) (fun _=>rfl) P ([]:Bytes) hit
     have hgo:=hR (i+1) oO oO;have hbs:=hb (P.getD i []) (aC [] hit);have hPi:=hPb i hi;rw[aQ ([]:Bytes) hit,mS,<-fD,<-fD]at hgo;generalize P.getD i []=y at e2 hgo hbs;generalize hB:H++de (P.take i)=B at hgo hPi⊢;have w1:=fun nm=>ud 1001 1004 nm (8+9*i) B y.length oC oO oO
     have w2:=fun nm=>ZY FR 1001 1004 nm (8+9*i+8) (B++be 8 y.length) y oC (by rw[bY,cH];omega)
     simp only[show 8+9*(i+1)=8+9*i+8+1 by omega]at hgo
     clear hR hb hPb;repeat' first|simp only[go_sem,seval,q0,e2]|(refine bE (w1 _) (by simp[aB]) ?_)|(refine bE (w2 _) (by simp[aB]) ?_)|refine oE ?_|apply xX<;>intro hc
     refine hgo _ ?_;refine lG ?_;all_goals exact⟨mI _ _ _ _ _ _ oC oC,mJ _ _ _,fun c hc=>cI hc⟩
    ·have h:i=P.length:=oO;rw[h,cg];have hl2:=hPb P.length (aD _);rw[cg]at hl2;have hne:H++de P≠[]:=by intro h0;have:=congrArg List.length h0;rw[bY,hHl]at this;simp at this
     generalize H++de P=B at hl2 hne⊢;have w3:=fun nm=>NR FR 1001 1004 nm (8+9*P.length) B oC (fun h0=>hne (fg.1 h0)) oO
     have hsu:=tV (s:=B) oO;repeat' first|simp only[go_sem,seval,q0]|(refine bE (w3 _) (by simp[aB]) ?_)|refine cP hsu ?_|refine oE ?_|apply xX<;>intro hc
theorem PL (k:Nat) {c:Int} (hc:c=IntKind.u8.wrap (k:Int)) (l more:List Bytes) (hm:more≠[]) (hn:l.length+more.length<=1000) (hb: ∀s∈l++more,s.length<=100000):aE 339 [.i .u8 c, .sl (l.map .s), .sl (more.map .s), .fn (.func 340)] (.s (lg (iD k (l++more)))):=by
 subst hc;obtain⟨m0,mr,hmr⟩: ∃m0 mr,more=m0::mr:=by cases more with
  |nil=>exact aM rfl hm
  |cons a b=>exact⟨a,b,rfl⟩
 have hml:more.length=mr.length+1:=by rw[hmr];rfl
 have w1:=fun nm=>YU FR HT 1001 nm k
 have w2:=fun nm=>ud 1001 1004 nm 0 [UInt8.ofNat k] (l.length+more.length) oC (eu (aD 1) oC) oO
 have ht:=KB;have hpos: ∀ _:True,(0:Int)<(more.length:Int):=fun _=>oO
 have g0:(more.map PV.s).getD 0 .fn0= .s m0:=by rw[hmr];rfl
 have c1: ∀x∈l.map PV.s,x.cells.length=1:=fun x hx=>by obtain⟨c,-,rfl⟩:=cv.1 hx;rfl
 refine eW call339 func339 ?_;repeat' first|simp only[go_sem,seval]|(refine bE (w1 _) (by simp[aB,bF]) ?_)|(refine bE (w2 _) (by simp[aB]) ?_)|refine oE ?_|apply xX<;>intro hc
 refine aj ?_;repeat' first|simp only[go_sem,seval,g0,hpos oT]|refine cP ((ht _)) ?_|refine oE ?_|apply xX<;>intro hc
 refine⟨⟨oO,c1⟩,?_⟩;repeat' first|simp only[go_sem,seval]|refine cP ((ht _)) ?_|refine oE ?_|apply xX<;>intro hc
 refine⟨⟨c1,oO,oO⟩,rfl,?_⟩;have hro:List.map AV.v (List.flatMap PV.cells (List.map PV.s l))++[AV.v (PV.s m0)]=aX PV.s (l++more.take 1):=by
  rw[hmr,aX,tH,lu,oZ];rfl
 rw[hro];obtain⟨H,hH⟩: ∃H,H=UInt8.ofNat k::be 8 (l.length+more.length):=⟨_,rfl⟩;rw[<-hH];have hHl:H.length=9:=by rw[hH,List.length_cons,cH]
 have hfr:iD k (l++more)=H++de (l++more):=by rw[hH,iD,bY];rfl
 rw[hfr];clear hro hfr w1 w2 g0 c1;refine ak (α:=Nat) (fun j=>more.length-j) (fun j=>⟨[(1, .rs 1028 j 0 (l.length+1+j) 1),(3, .v (.fn (.func 340))),(9, .p 1001 0 0),(23, .v (.sl (more.map PV.s))),(24,E' more.length),(25,E' (j+1))],[(1001,bB FR 1001 1004 8 H),(1004,bD 8 H),(1028,⟨j,aX PV.s (l++more.take (j+1)),true,some 9⟩)],1032⟩) (fun j=>j+1<=more.length) 0 (fun _=>dF rfl) oO ?_ ?_
 ·refine lG ?_;exact⟨mI _ _ _ _ _ _ oC oC,mJ _ _ _,fun c hc=>cI hc⟩
 ·intro j hj R hR;have hlr:(l++more.take (j+1)).length=l.length+1+j:=by rw[bY,cf];omega
  have q0:(aX PV.s (l++more.take (j+1))).length=l.length+1+j:=by rw[cF cT.s,hlr,dK]
  have q1:List.take (l.length+1+j) (aX PV.s (l++more.take (j+1)))=aX PV.s (l++more.take (j+1)):=c9 oO
  by_cases hjt:j+1<more.length
  ·have e2:=getD_map PV.s more ([]:Bytes) hjt;have hgo:=hR (j+1) oO oO;rw[aQ ([]:Bytes) hjt,<-fD,cu]at hgo;generalize more.getD (j+1) ([]:Bytes)=y at e2 hgo;have e3: ∀ _:True,((j:Int)+1).toNat=j+1:=fun _=>oO
   clear hR hlr;repeat' first|simp only[go_sem,seval,q0,q1,e2,e3 oT]|refine cP ((ht _)) ?_|refine oE ?_|apply xX<;>intro hc
   refine hgo _ ?_
   (refine AS.Le.of (by first|decide|omega) ?_ ?_<;>simp[dA,dz,aS,aB,AV.bd,AV.bd.bdL,u8,aq,au,aA])
   all_goals first|omega|exact⟨mI _ _ _ _ _ _ oC oC,mJ _ _ _,by rw[q1];rfl,fun c hc=>by rcases hc with hc|⟨a,ha,rfl⟩;exact cI hc;rfl⟩
  ·have h:j+1=more.length:=oO;rw[h,cg]at q0 q1⊢;refine eC (aN @q0 @q1) ?_;have hP:(l++more).length=l.length+1+j:=by rw[bY];omega
   have hPb: ∀i,i<=(l++more).length->(H++de ((l++more).take i)).length<=9+i*100008:=fun i hi=>by
    rw[bY,hHl];have h1:=oz ((l++more).take i) (n:=100000) fun s hs=>hb s (kC hs)
    rw[cf,o5 hi]at h1;omega
   clear hR ht hmr hml hH hpos;rw[<-hP];rw[<-hP]at q0;generalize hPP:l++more=P at*;have hP3:P.length<=1000:=by rw[hP];omega
   refine ak (α:=Nat) (fun i=>P.length-i) (fun i=>⟨[(9, .p 1001 0 0),(41, .rs 1028 j 0 P.length 1),(42,E' P.length),(43,E' i)],[(1001,bB FR 1001 1004 (8+9*i) (H++de (P.take i))),(1004,bD (8+9*i) (H++de (P.take i))),(1028,⟨j,aX PV.s P,true,some 9⟩)],1036⟩) (fun i=>i<=P.length) 0 (fun _=>dF rfl) (aR _) ?_ ?_
   ·(refine AS.Le.of (by first|decide|omega) ?_ ?_<;>simp[dA,dz,aS,aB,AV.bd,AV.bd.bdL,u8,aq,au,aA])
    have e0:H++de []=H:=iu H;rw[e0];exact⟨rfl,mI _ _ _ _ _ _ oC oC,rfl,mJ _ _ _,fun c hc=>cI hc⟩
   ·intro i hi R hR
    by_cases hit:i<P.length
    ·have e2:=qn (f:=PV.s) (fun _=>rfl) P ([]:Bytes) hit
     have hgo:=hR (i+1) oO oO;have hbs:=hb (P.getD i []) (aC [] hit);have hPi:=hPb i hi;rw[aQ ([]:Bytes) hit,mS,<-fD,<-fD]at hgo;generalize P.getD i []=y at e2 hgo hbs;generalize hB:H++de (P.take i)=B at hgo hPi⊢;have w1:=fun nm=>ud 1001 1004 nm (8+9*i) B y.length oC oO oO
     have w2:=fun nm=>ZY FR 1001 1004 nm (8+9*i+8) (B++be 8 y.length) y oC (by rw[bY,cH];omega)
     simp only[show 8+9*(i+1)=8+9*i+8+1 by omega]at hgo
     clear hR hb hPb;repeat' first|simp only[go_sem,seval,q0,e2]|(refine bE (w1 _) (by simp[aB]) ?_)|(refine bE (w2 _) (by simp[aB]) ?_)|refine oE ?_|apply xX<;>intro hc
     refine hgo _ ?_;refine lG ?_;all_goals exact⟨mI _ _ _ _ _ _ oC oC,mJ _ _ _,fun c hc=>cI hc⟩
    ·have h:i=P.length:=oO;rw[h,cg];have hl2:=hPb P.length (aD _);rw[cg]at hl2;have hne:H++de P≠[]:=by intro h0;have:=congrArg List.length h0;rw[bY,hHl]at this;simp at this
     generalize H++de P=B at hl2 hne⊢;have w3:=fun nm=>NR FR 1001 1004 nm (8+9*P.length) B oC (fun h0=>hne (fg.1 h0)) oO
     have hsu:=tV (s:=B) oO;repeat' first|simp only[go_sem,seval,q0]|(refine bE (w3 _) (by simp[aB]) ?_)|refine cP hsu ?_|refine oE ?_|apply xX<;>intro hc
theorem PK (k:Nat) {c:Int} (hc:c=IntKind.u8.wrap (k:Int)) (l:List Bytes) (n:Bool) (a:Bytes) (hn:l.length<=999) (hb: ∀s∈l++[mF (n,a)],s.length<=100000):aE 433 [.i .u8 c, .sl (l.map .s), .sl [.agg [.b n, .s a]], .fn (.func 434)] (.s (lg (iD k (l++[mF (n,a)])))):=by
 subst hc;have ha:a.length<1000000:=by
  have:=hb (mF (n,a)) (by simp)
  simp only[mF,List.length_cons]at this;omega
 have w1:=fun nm=>YU FR HT 1001 nm k
 have w2:=fun nm=>ud 1001 1004 nm 0 [UInt8.ofNat k] (l.length+1) oC (eu (aD 1) oC) oO
 have ht:=Kz n a ha;have c1: ∀x∈l.map PV.s,x.cells.length=1:=fun x hx=>by obtain⟨c,-,rfl⟩:=cv.1 hx;rfl
 refine eW call433 func433 ?_;repeat' first|simp only[go_sem,seval]|(refine bE (w1 _) (by simp[aB,bF]) ?_)|(refine bE (w2 _) (by simp[aB]) ?_)|refine oE ?_|apply xX<;>intro hc
 refine aj ?_;refine YV @ht ?_;refine⟨⟨oO,c1⟩,?_⟩;refine YV @ht ?_;refine⟨⟨c1,oO,oO⟩,rfl,?_⟩;refine aj ?_;refine vP ?_;have hro:List.map AV.v (List.flatMap PV.cells (List.map PV.s l))++[AV.v (PV.s (mF (n,a)))]=aX PV.s (l++[mF (n,a)]):=by
  rw[aX,tH,lu,oZ];rfl
 rw[hro];obtain⟨H,hH⟩: ∃H,H=UInt8.ofNat k::be 8 (l.length+1):=⟨_,rfl⟩;rw[<-hH];have hHl:H.length=9:=by rw[hH,List.length_cons,cH]
 have hfr:iD k (l++[mF (n,a)])=H++de (l++[mF (n,a)]):=by rw[hH,iD,bY];rfl
 rw[hfr];have hP:(l++[mF (n,a)]).length=l.length+1:=by rw[bY];rfl
 have q0:(aX PV.s (l++[mF (n,a)])).length=(l++[mF (n,a)]).length:=by rw[cF cT.s,dK]
 have hPb: ∀i,i<=(l++[mF (n,a)]).length->(H++de ((l++[mF (n,a)]).take i)).length<=9+i*100008:=fun i hi=>by
  rw[bY,hHl];have h1:=oz ((l++[mF (n,a)]).take i) (n:=100000) fun s hs=>hb s (kC hs)
  rw[cf,o5 hi]at h1;omega
 clear hro hfr w1 w2 c1 hH;rw[<-hP];generalize l++[mF (n,a)]=P at*;have hP3:P.length<=1000:=by rw[hP];omega
 clear ha ht hP;refine ak (α:=Nat) (fun i=>P.length-i) (fun i=>⟨[(9, .p 1001 0 0),(41, .rs 1029 0 0 P.length 1),(42,E' P.length),(43,E' i)],[(1001,bB FR 1001 1004 (8+9*i) (H++de (P.take i))),(1004,bD (8+9*i) (H++de (P.take i))),(1029,⟨0,aX PV.s P,true,some 9⟩)],1037⟩) (fun i=>i<=P.length) 0 (fun _=>dF rfl) (aR _) ?_ ?_
 ·(refine AS.Le.of (by first|decide|omega) ?_ ?_<;>simp[dA,dz,aS,aB,AV.bd,AV.bd.bdL,u8,aq,au,aA])
  have e0:H++de []=H:=iu H;rw[e0];exact⟨rfl,mI _ _ _ _ _ _ oC oC,rfl,mJ _ _ _,fun c hc=>cI hc⟩
 ·intro i hi R hR
  by_cases hit:i<P.length
  ·have e2:=qn (f:=PV.s) (fun _=>rfl) P ([]:Bytes) hit
   have hgo:=hR (i+1) oO oO;have hbs:=hb (P.getD i []) (aC [] hit);have hPi:=hPb i hi;rw[aQ ([]:Bytes) hit,mS,<-fD,<-fD]at hgo;generalize P.getD i []=y at e2 hgo hbs;generalize hB:H++de (P.take i)=B at hgo hPi⊢;have w1:=fun nm=>ud 1001 1004 nm (8+9*i) B y.length oC oO oO
   have w2:=fun nm=>ZY FR 1001 1004 nm (8+9*i+8) (B++be 8 y.length) y oC (by rw[bY,cH];omega)
   simp only[show 8+9*(i+1)=8+9*i+8+1 by omega]at hgo
   clear hR hb hPb;repeat' first|simp only[go_sem,seval,q0,e2]|(refine bE (w1 _) (by simp[aB]) ?_)|(refine bE (w2 _) (by simp[aB]) ?_)|refine oE ?_|apply xX<;>intro hc
   refine hgo _ ?_;refine lG ?_;all_goals exact⟨mI _ _ _ _ _ _ oC oC,mJ _ _ _,fun c hc=>cI hc⟩
  ·have h:i=P.length:=oO;rw[h,cg];have hl2:=hPb P.length (aD _);rw[cg]at hl2;have hne:H++de P≠[]:=by intro h0;have:=congrArg List.length h0;rw[bY,hHl]at this;simp at this
   generalize H++de P=B at hl2 hne⊢;have w3:=fun nm=>NR FR 1001 1004 nm (8+9*P.length) B oC (fun h0=>hne (fg.1 h0)) oO
   have hsu:=tV (s:=B) oO;repeat' first|simp only[go_sem,seval,q0]|(refine bE (w3 _) (by simp[aB]) ?_)|refine cP hsu ?_|refine oE ?_|apply xX<;>intro hc
