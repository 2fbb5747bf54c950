/- Part of the proof. -/
import Derived.Test.YthlapgdhjcddkaaGreatDoorUF24
set_option linter.all false
set_option maxHeartbeats 16000000
set_option maxRecDepth 100000
namespace Go.Proofs.Tryz
open Go Go.Dom
theorem OY:EvS prog 318:=by
 intro v w;have h1:(Tryz.f318.name== "runtime.NumGoroutine")=false:=by kernel_rfl
 have h2:Tryz.f318.body.isNone=true:=by kernel_rfl
 have h3:(Extern.findNext Tryz.f318).isNone=true:=by kernel_rfl
 have h4:Extern.find Tryz.f318=some Extern.AbiNoEscape.same:=by kernel_rfl
 have h3':Extern.findNext Tryz.f318=none:=by simpa using h3
 simp only[callFunc,bI,run_program,Result.andThen,func318,h1,h2,h3',h4,aC,cE,aB];rfl
def bF (el:TypeId):aI:=⟨0,[.v .p0, .sn],false,some el⟩
def bS (el:TypeId) (b:Nat):aI:=⟨0,[.p b 0 0, .sn],false,some el⟩
def bB (el:TypeId) (b d ver:Nat) (bs:Bytes):aI:=⟨0,[.p b 0 0, .rs d ver 0 bs.length 1],false,some el⟩
def bD (ver:Nat) (bs:Bytes):aI:=⟨ver,aM bs,true,some 5⟩
theorem Ht (l:Bytes):(∀y,y∈aM l->y= .v (.i .u8 (y.byte.toNat:Int)))=True:=Kj l
theorem OG:liesAt prog prog.depth 222 (2/prog.cellsOf 222) 0 222 1=true:=by kernel_rfl
theorem F5:liesAt prog prog.depth 234 (2/prog.cellsOf 234) 0 222 1=true:=by kernel_rfl
theorem b1 (c:Nat):[AV.v (.i .u8 (IntKind.u8.wrap (c:Int)))]=aM [UInt8.ofNat c]:=rfl
theorem UP (el:TypeId) (hl:liesAt prog prog.depth el (2/prog.cellsOf el) 0 222 1=true) (b nm:Nat):jS prog 252 nm [(b,bF el)] [.p b 0 0] (.tup []) [(b,some (bS el b))]:=by
 have hbd':True:=trivial;refine jS.w mixed call252 func252 rfl (jq.1 _ _ _ (by cbv)) (jq.2 _ _ (by cbv)) (obs:=[bF el]) (args:=[.p 0 0 0]) (fs:=[some (some (bS el 0))]) (j:=none) (nw:=none) (v:= .tup []) (ns:=[b]) (obsA:=[bF el]) rfl ?_ (by simp) (by simp) rfl (by simp[bA,aI.aR,AV.aR,AV.aR.renL,dq,aG,hbd',bF,bS,bB,bD]) (by simp[bA,AV.aR,AV.aR.renL,dq,hbd']) (by simp[AV.aR,AV.aR.renL]) (by simp[fh,outs,aI.aR,AV.aR,AV.aR.renL,aG,ie,bF,bS,bB,bD])
 simp only[go_sem,seval,bF,bS,bB,bD];repeat' first|simp only[go_sem,seval,dW,dy,true_or,or_true,false_or,or_false,ar,gX,ey,gM,fp,fH,eA,nT,om,fO,gS,dE,aK,AV.aR,AV.aR.renL,aG,bF,bB,bD,bS,hl]|refine Q7 OY ?_|refine oE ?_|apply xX<;>intro hc
theorem UO (el:TypeId) (b d nm ver:Nat) (bs:Bytes) (hbd:b≠d):jS prog 252 nm [(b,bB el b d ver bs),(d,bD ver bs)] [.p b 0 0] (.tup []) []:=by
 have hbd':=hbd.symm;refine jS.w mixed call252 func252 rfl (jq.1 _ _ _ (by cbv)) (jq.2 _ _ (by cbv)) (obs:=[bB el 0 1 ver bs,bD ver bs]) (args:=[.p 0 0 0]) (fs:=[none,none]) (j:=none) (nw:=none) (v:= .tup []) (ns:=[b,d]) (obsA:=[bB el b d ver bs,bD ver bs]) rfl ?_ (by simp) (by simp[hbd]) rfl (by simp[bA,aI.aR,AV.aR,AV.aR.renL,dq,aG,hbd',bF,bB,bD]) (by simp[bA,AV.aR,AV.aR.renL,dq,hbd']) (by simp[AV.aR,AV.aR.renL]) (by simp[fh,outs,aI.aR,AV.aR,AV.aR.renL,aG,ie,bF,bB,bD])
 simp only[go_sem,seval,bF,bB,bD];repeat' first|simp only[go_sem,seval,dW,dy,true_or,or_true,false_or,or_false,ar,gX,ey,gM,fp,fH,eA,nT,om,fO,gS,dE,aK,AV.aR,AV.aR.renL,aG,bF,bB,bD]|refine oE ?_|apply xX<;>intro hc
theorem wbF (el:TypeId) (hl:liesAt prog prog.depth el (2/prog.cellsOf el) 0 222 1=true) (b nm:Nat) (c:Nat):jS prog 158 nm [(b,bF el)] [.p b 0 0, .v (.i .u8 (IntKind.u8.wrap (c:Int)))] (.v .if0) [(nm,some (bD 0 [UInt8.ofNat c])),(b,some (bB el b nm 0 [UInt8.ofNat c]))]:=by
 have hbd':True:=trivial;refine jS.w mixed call158 func158 rfl (jq.1 _ _ _ (by cbv)) (jq.2 _ _ (by cbv)) (obs:=[bF el]) (args:=[.p 0 0 0, .v (.i .u8 (IntKind.u8.wrap (c:Int)))]) (fs:=[some (some (bB el 0 1 0 [UInt8.ofNat c]))]) (j:=some 1010) (nw:=(some (bD 0 [UInt8.ofNat c]))) (v:= .v .if0) (ns:=[b]) (obsA:=[bF el]) rfl ?_ (by simp) (by simp) rfl (by simp[bA,aI.aR,AV.aR,AV.aR.renL,dq,aG,hbd',bF,bB,bD]) (by simp[bA,AV.aR,AV.aR.renL,dq,hbd']) (by simp[AV.aR,AV.aR.renL]) (by simp[fh,outs,aI.aR,AV.aR,AV.aR.renL,aG,ie,bF,bB,bD])
 simp only[go_sem,seval,bF,bB,bD];repeat' first|simp only[go_sem,seval,dW,dy,true_or,or_true,false_or,or_false,ar,gX,ey,gM,fp,fH,eA,nT,om,fO,gS,dE,aK,AV.aR,AV.aR.renL,aG,bF,bB,bD,bS]|(refine bK (UP el hl 0 _) (by simp[az,bF,bB,bD]) ?_)|refine oE ?_|apply xX<;>intro hc
 all_goals first|rfl|exact b1 c|skip
theorem YU (el:TypeId) (b d nm ver:Nat) (bs:Bytes) (c:Nat) (hbd:b≠d) (hs:bs.length<1099511627776):jS prog 158 nm [(b,bB el b d ver bs),(d,bD ver bs)] [.p b 0 0, .v (.i .u8 (IntKind.u8.wrap (c:Int)))] (.v .if0) [(b,some (bB el b d (ver+1) (bs++[UInt8.ofNat c]))),(d,some (bD (ver+1) (bs++[UInt8.ofNat c])))]:=by
 have hbd':=hbd.symm;refine jS.w mixed call158 func158 rfl (jq.1 _ _ _ (by cbv)) (jq.2 _ _ (by cbv)) (obs:=[bB el 0 1 ver bs,bD ver bs]) (args:=[.p 0 0 0, .v (.i .u8 (IntKind.u8.wrap (c:Int)))]) (fs:=[some (some (bB el 0 1 (ver+1) (bs++[UInt8.ofNat c]))),some (some (bD (ver+1) (bs++[UInt8.ofNat c])))]) (j:=none) (nw:=none) (v:= .v .if0) (ns:=[b,d]) (obsA:=[bB el b d ver bs,bD ver bs]) rfl ?_ (by simp) (by simp[hbd]) rfl (by simp[bA,aI.aR,AV.aR,AV.aR.renL,dq,aG,hbd',bF,bB,bD]) (by simp[bA,AV.aR,AV.aR.renL,dq,hbd']) (by simp[AV.aR,AV.aR.renL]) (by simp[fh,outs,aI.aR,AV.aR,AV.aR.renL,aG,ie,bF,bB,bD])
 simp only[go_sem,seval,bF,bB,bD];repeat' first|simp only[go_sem,seval,dW,dy,true_or,or_true,false_or,or_false,ar,gX,ey,gM,fp,fH,eA,nT,om,fO,gS,dE,aK,AV.aR,AV.aR.renL,aG,bF,bB,bD,bR,ui,oe,bm]|(refine bK (UO el 0 1 _ ver bs oC) (by simp[az,bF,bB,bD]) ?_)|refine oE ?_|apply xX<;>intro hc
theorem wsF (el:TypeId) (hl:liesAt prog prog.depth el (2/prog.cellsOf el) 0 222 1=true) (b nm:Nat) (s:Bytes) (h0:s.length≠0) (hs:s.length<1099511627776):jS prog 157 nm [(b,bF el)] [.p b 0 0, .v (.s s)] (.tup [.v (.i .i64 (s:Bytes).length), .v .if0]) [(nm,some (bD 0 s)),(b,some (bB el b nm 0 s))]:=by
 have hbd':True:=trivial;refine jS.w mixed call157 func157 rfl (jq.1 _ _ _ (by cbv)) (jq.2 _ _ (by cbv)) (obs:=[bF el]) (args:=[.p 0 0 0, .v (.s s)]) (fs:=[some (some (bB el 0 1 0 s))]) (j:=some 1010) (nw:=(some (bD 0 s))) (v:= .tup [.v (.i .i64 (s:Bytes).length), .v .if0]) (ns:=[b]) (obsA:=[bF el]) rfl ?_ (by simp) (by simp) rfl (by simp[bA,aI.aR,AV.aR,AV.aR.renL,dq,aG,hbd',bF,bB,bD]) (by simp[bA,AV.aR,AV.aR.renL,dq,hbd']) (by simp[AV.aR,AV.aR.renL]) (by simp[fh,outs,aI.aR,AV.aR,AV.aR.renL,aG,ie,bF,bB,bD])
 simp only[go_sem,seval,bF,bB,bD];repeat' first|simp only[go_sem,seval,dW,dy,true_or,or_true,false_or,or_false,ar,gX,ey,gM,fp,fH,eA,nT,om,fO,gS,dE,aK,AV.aR,AV.aR.renL,aG,bF,bB,bD,bS,h0]|(refine bK (UP el hl 0 _) (by simp[az,bF,bB,bD]) ?_)|refine oE ?_|apply xX<;>intro hc
theorem YV (el:TypeId) (b d nm ver:Nat) (bs s:Bytes) (hbd:b≠d) (hs:bs.length+s.length<1099511627776):jS prog 157 nm [(b,bB el b d ver bs),(d,bD ver bs)] [.p b 0 0, .v (.s s)] (.tup [.v (.i .i64 (s:Bytes).length), .v .if0]) [(b,some (bB el b d (ver+1) (bs++s))),(d,some (bD (ver+1) (bs++s)))]:=by
 have hbd':=hbd.symm;refine jS.w mixed call157 func157 rfl (jq.1 _ _ _ (by cbv)) (jq.2 _ _ (by cbv)) (obs:=[bB el 0 1 ver bs,bD ver bs]) (args:=[.p 0 0 0, .v (.s s)]) (fs:=[some (some (bB el 0 1 (ver+1) (bs++s))),some (some (bD (ver+1) (bs++s)))]) (j:=none) (nw:=none) (v:= .tup [.v (.i .i64 (s:Bytes).length), .v .if0]) (ns:=[b,d]) (obsA:=[bB el b d ver bs,bD ver bs]) rfl ?_ (by simp) (by simp[hbd]) rfl (by simp[bA,aI.aR,AV.aR,AV.aR.renL,dq,aG,hbd',bF,bB,bD]) (by simp[bA,AV.aR,AV.aR.renL,dq,hbd']) (by simp[AV.aR,AV.aR.renL]) (by simp[fh,outs,aI.aR,AV.aR,AV.aR.renL,aG,ie,bF,bB,bD])
 simp only[go_sem,seval,bF,bB,bD];repeat' first|simp only[go_sem,seval,dW,dy,true_or,or_true,false_or,or_false,ar,gX,ey,gM,fp,fH,eA,nT,om,fO,gS,dE,aK,AV.aR,AV.aR.renL,aG,bF,bB,bD,bR]|(refine bK (UO el 0 1 _ ver bs oC) (by simp[az,bF,bB,bD]) ?_)|refine oE ?_|apply xX<;>intro hc
theorem acB (el:TypeId) (b nm:Nat):jS prog 162 nm [(b,bF el)] [.p b 0 0] (.v (.i .i64 0)) []:=by
 have hbd':True:=trivial;refine jS.w mixed call162 func162 rfl (jq.1 _ _ _ (by cbv)) (jq.2 _ _ (by cbv)) (obs:=[bF el]) (args:=[.p 0 0 0]) (fs:=[none]) (j:=none) (nw:=none) (v:= .v (.i .i64 0)) (ns:=[b]) (obsA:=[bF el]) rfl ?_ (by simp) (by simp) rfl (by simp[bA,aI.aR,AV.aR,AV.aR.renL,dq,aG,hbd',bF,bB,bD]) (by simp[bA,AV.aR,AV.aR.renL,dq,hbd']) (by simp[AV.aR,AV.aR.renL]) (by simp[fh,outs,aI.aR,AV.aR,AV.aR.renL,aG,ie,bF,bB,bD])
 simp only[go_sem,seval,bF,bB,bD];repeat' first|simp only[go_sem,seval,dW,dy,true_or,or_true,false_or,or_false,ar,gX,ey,gM,fp,fH,eA,nT,om,fO,gS,dE,aK,AV.aR,AV.aR.renL,aG,bF,bB,bD]|refine oE ?_|apply xX<;>intro hc
theorem acA (el:TypeId) (b d nm ver:Nat) (bs:Bytes) (hbd:b≠d):jS prog 162 nm [(b,bB el b d ver bs),(d,bD ver bs)] [.p b 0 0] (.v (.i .i64 bs.length)) []:=by
 have hbd':=hbd.symm;refine jS.w mixed call162 func162 rfl (jq.1 _ _ _ (by cbv)) (jq.2 _ _ (by cbv)) (obs:=[bB el 0 1 ver bs,bD ver bs]) (args:=[.p 0 0 0]) (fs:=[none,none]) (j:=none) (nw:=none) (v:= .v (.i .i64 bs.length)) (ns:=[b,d]) (obsA:=[bB el b d ver bs,bD ver bs]) rfl ?_ (by simp) (by simp[hbd]) rfl (by simp[bA,aI.aR,AV.aR,AV.aR.renL,dq,aG,hbd',bF,bB,bD]) (by simp[bA,AV.aR,AV.aR.renL,dq,hbd']) (by simp[AV.aR,AV.aR.renL]) (by simp[fh,outs,aI.aR,AV.aR,AV.aR.renL,aG,ie,bF,bB,bD])
 simp only[go_sem,seval,bF,bB,bD];repeat' first|simp only[go_sem,seval,dW,dy,true_or,or_true,false_or,or_false,ar,gX,ey,gM,fp,fH,eA,nT,om,fO,gS,dE,aK,AV.aR,AV.aR.renL,aG,bF,bB,bD]|refine oE ?_|apply xX<;>intro hc
theorem It (el:TypeId) (b d nm ver:Nat) (bs:Bytes) (hbd:b≠d) (h0:bs.length≠0) (hs:bs.length<1099511627776):jS prog 159 nm [(b,bB el b d ver bs),(d,bD ver bs)] [.p b 0 0] (.v (.s bs)) [(d,none)]:=by
 have hbd':=hbd.symm;refine jS.w mixed call159 func159 rfl (jq.1 _ _ _ (by cbv)) (jq.2 _ _ (by cbv)) (obs:=[bB el 0 1 ver bs,bD ver bs]) (args:=[.p 0 0 0]) (fs:=[none,some none]) (j:=none) (nw:=none) (v:= .v (.s bs)) (ns:=[b,d]) (obsA:=[bB el b d ver bs,bD ver bs]) rfl ?_ (by simp) (by simp[hbd]) rfl (by simp[bA,aI.aR,AV.aR,AV.aR.renL,dq,aG,hbd',bF,bB,bD]) (by simp[bA,AV.aR,AV.aR.renL,dq,hbd']) (by simp[AV.aR,AV.aR.renL]) (by simp[fh,outs,aI.aR,AV.aR,AV.aR.renL,aG,ie,bF,bB,bD])
 simp only[go_sem,seval,bF,bB,bD];repeat' first|simp only[go_sem,seval,dW,dy,true_or,or_true,false_or,or_false,ar,gX,ey,gM,fp,fH,eA,nT,om,fO,gS,dE,aK,AV.aR,AV.aR.renL,aG,bF,bB,bD,mn,Ht]|refine oE ?_|apply xX<;>intro hc
abbrev FR:TypeId:=234
theorem jn (el:TypeId) (b d ver:Nat) (bs:Bytes) (n:Nat) (hb:b<n) (hd:d<n): ∀c∈(bB el b d ver bs).cells,c.bd n=true:=by
 intro c hc;simp[bB]at hc;rcases hc with rfl|rfl<;>simp[AV.bd,hb,hd]
theorem jo (ver:Nat) (bs:Bytes) (n:Nat): ∀c∈(bD ver bs).cells,c.bd n=true:=by
 intro c hc;have h:=ak bs n;exact(h▸trivial: ∀y,y∈aM bs->y.bd n=true) c hc
theorem qP (b d nm ver:Nat) (bs:Bytes) (N:Nat) (hbd:b≠d) (hs:bs.length<1000000000000) (hN:N<4611686018427387904):jS prog 163 nm [(b,bB FR b d ver bs),(d,bD ver bs)] [.p b 0 0, .v (.i .i64 (N:Int))] (.tup []) [(b,some (bB FR b d (ver+8) (bs++be 8 N))),(d,some (bD (ver+8) (bs++be 8 N)))]:=by
 have hbd':=hbd.symm;refine jS.w mixed call163 func163 rfl (jq.1 _ _ _ (by cbv)) (jq.2 _ _ (by cbv)) (obs:=[bB FR 0 1 ver bs,bD ver bs]) (args:=[.p 0 0 0, .v (.i .i64 (N:Int))]) (fs:=[some (some (bB FR 0 1 (ver+8) (bs++be 8 N))),some (some (bD (ver+8) (bs++be 8 N)))]) (j:=none) (nw:=none) (v:= .tup []) (ns:=[b,d]) (obsA:=[bB FR b d ver bs,bD ver bs]) rfl ?_ (by simp) (by simp[hbd]) rfl (by simp[bA,aI.aR,AV.aR,AV.aR.renL,dq,aG,hbd',bB,bD]) (by simp[bA,AV.aR,AV.aR.renL,dq,hbd']) (by simp[AV.aR,AV.aR.renL]) (by simp[fh,outs,aI.aR,AV.aR,AV.aR.renL,aG,ie,bB,bD])
 simp only[go_sem,seval];repeat' first|simp only[go_sem,seval,true_or,or_true,false_or,or_false,ar,gX,ey,gM,fp,fH,eA,nT,om,fO,gS,dE,aK,AV.aR,AV.aR.renL,aG]|refine oE ?_|apply xX<;>intro hc
 refine ah (α:=Nat) (fun k=>8-k) (fun k=>⟨[(0, .p 0 0 0),(1,E' N),(4, .v (.i .i64 (56-8*(k:Int))))],[(0,bB FR 0 1 (ver+k) (bs++(be 8 N).take k)),(1,bD (ver+k) (bs++(be 8 N).take k))],_⟩) (fun k=>k<=8) 0 (fun _=>aA _) (aD _) ?_ ?_
 ·refine lG ?_;exact⟨jn _ _ _ _ _ _ oC oC,jo _ _ _⟩
 ·intro k hk R hR
  by_cases h8:k<8
  ·have hlen:(bs++(be 8 N).take k).length<1099511627776:=by
    rw[bR,bQ,cX];omega
   have hw:=fun nm=>YU FR 0 1 nm (ver+k) (bs++(be 8 N).take k) (N/256^(7-k)) oC hlen
   have hgo:=hR (k+1) oO oO;rw[Fi N k h8,<-eg,<-jQ]at hgo;rw[eg]at hgo hw;generalize hbb:bs++(be 8 N).take k=bb at hw hgo⊢;clear hR hlen hbb;rcases(by omega:k=0\/k=1\/k=2\/k=3\/k=4\/k=5\/k=6\/k=7)with rfl|rfl|rfl|rfl|rfl|rfl|rfl|rfl
   all_goals simp only[Nat.reduceSub,Nat.reducePow,Nat.pow_zero]at hw hgo
   repeat' first|simp only[go_sem,seval,true_or,or_true,false_or,or_false,ar,gX,ey,gM,fp,fH,eA,nT,om,fO,gS,dE,aK,AV.aR,AV.aR.renL,aG]|(refine bK (hw _) (by simp[az]) ?_)|refine oE ?_|apply xX<;>intro hc
   all_goals (refine hgo _ ?_)
   all_goals (refine AS.Le.of (by first|decide|omega) ?_ ?_<;>simp[cU,cT,aO,az,AV.bd,AV.bd.bdL,u8,aj,ak,an])
   all_goals exact⟨jn _ _ _ _ _ _ oC oC,jo _ _ _⟩
  ·have h:k=8:=oO;subst h;have e8:(be 8 N).take 8=be 8 N:=cQ (by rw[cX];decide)
   rw[e8];repeat' first|simp only[go_sem,seval,true_or,or_true,false_or,or_false,ar,gX,ey,gM,fp,fH,eA,nT,om,fO,gS,dE,aK,AV.aR,AV.aR.renL,aG,bB,bD]|refine oE ?_|apply xX<;>intro hc
theorem WE (b nm:Nat) (N:Nat) (hN:N<4611686018427387904):jS prog 163 nm [(b,bF FR)] [.p b 0 0, .v (.i .i64 (N:Int))] (.tup []) [(nm,some (bD 7 (be 8 N))),(b,some (bB FR b nm 7 (be 8 N)))]:=by
 have hbd':True:=trivial;refine jS.w mixed call163 func163 rfl (jq.1 _ _ _ (by cbv)) (jq.2 _ _ (by cbv)) (obs:=[bF FR]) (args:=[.p 0 0 0, .v (.i .i64 (N:Int))]) (fs:=[some (some (bB FR 0 1 7 (be 8 N)))]) (j:=some 1010) (nw:=some (bD 7 (be 8 N))) (v:= .tup []) (ns:=[b]) (obsA:=[bF FR]) rfl ?_ (by simp) (by simp) rfl (by simp[bA,aI.aR,AV.aR,AV.aR.renL,dq,aG,hbd',bF,bB,bD]) (by simp[bA,AV.aR,AV.aR.renL,dq,hbd']) (by simp[AV.aR,AV.aR.renL]) (by simp[fh,outs,aI.aR,AV.aR,AV.aR.renL,aG,ie,bF,bB,bD])
 simp only[go_sem,seval];have hw0:=fun nm=>wbF FR F5 0 nm (N/256^7)
 simp only[Nat.reducePow]at hw0;repeat' first|simp only[go_sem,seval,true_or,or_true,false_or,or_false,ar,gX,ey,gM,fp,fH,eA,nT,om,fO,gS,dE,aK,AV.aR,AV.aR.renL,aG]|(refine bK (hw0 _) (by simp[az]) ?_)|refine oE ?_|apply xX<;>intro hc
 refine aq ?_;repeat' first|simp only[go_sem,seval,true_or,or_true,false_or,or_false,ar,gX,ey,gM,fp,fH,eA,nT,om,fO,gS,dE,aK,AV.aR,AV.aR.renL,aG]|(refine bK (hw0 _) (by simp[az]) ?_)|refine oE ?_|apply xX<;>intro hc
 have e1:[UInt8.ofNat (N/72057594037927936)]=(be 8 N).take 1:=rfl;rw[e1];refine ah (α:=Nat) (fun k=>7-k) (fun k=>⟨[(0, .p 0 0 0),(1,E' N),(4, .v (.i .i64 (48-8*(k:Int))))],[(0,bB FR 0 1010 (0+k) ((be 8 N).take (k+1))),(1010,bD (0+k) ((be 8 N).take (k+1)))],1014⟩) (fun k=>k<=7) 0 (fun _=>cd rfl) (aD _) ?_ ?_
 ·refine lG ?_;exact⟨jn _ _ _ _ _ _ oC oC,jo _ _ _⟩
 ·intro k hk R hR
  by_cases h8:k<7
  ·have hlen:((be 8 N).take (k+1)).length<1099511627776:=by
    rw[bQ,cX];omega
   have hw:=fun nm=>YU FR 0 1010 nm (0+k) ((be 8 N).take (k+1)) (N/256^(7-(k+1))) oC hlen
   have hgo:=hR (k+1) oO oO;rw[Fi N (k+1) oO,<-jQ]at hgo;generalize hbb:(be 8 N).take (k+1)=bb at hw hgo⊢;clear hR hlen hbb e1;rcases(by omega:k=0\/k=1\/k=2\/k=3\/k=4\/k=5\/k=6)with rfl|rfl|rfl|rfl|rfl|rfl|rfl
   all_goals simp only[Nat.reduceSub,Nat.reduceAdd,Nat.reducePow,Nat.pow_zero]at hw hgo
   repeat' first|simp only[go_sem,seval,true_or,or_true,false_or,or_false,ar,gX,ey,gM,fp,fH,eA,nT,om,fO,gS,dE,aK,AV.aR,AV.aR.renL,aG,Nat.reduceAdd]|(refine bK (hw _) (by simp[az]) ?_)|refine oE ?_|apply xX<;>intro hc
   all_goals (refine hgo _ ?_)
   all_goals (refine AS.Le.of (by first|decide|omega) ?_ ?_<;>simp[cU,cT,aO,az,AV.bd,AV.bd.bdL,u8,aj,ak,an])
   all_goals exact⟨jn _ _ _ _ _ _ oC oC,jo _ _ _⟩
  ·have h:k=7:=oO;subst h;have e8:(be 8 N).take (7+1)=be 8 N:=cQ (by rw[cX];decide)
   rw[e8];repeat' first|simp only[go_sem,seval,true_or,or_true,false_or,or_false,ar,gX,ey,gM,fp,fH,eA,nT,om,fO,gS,dE,aK,AV.aR,AV.aR.renL,aG,bF,bB,bD]|refine oE ?_|apply xX<;>intro hc
theorem Ln (s:Bytes):aH 247 [.s s] (.s s):=by
 refine eW call247 func247 ?_;exact z0
theorem Mh (s:Bytes):aH 161 [.s s] (.s s):=by
 refine eW call161 func161 ?_;exact z0
theorem Me (n:Bool) (s:Bytes) (hs:s.length<1000000):aH 250 [.agg [.b n, .s s]] (.s (nV (n,s))):=by
 cases n;all_goals simp only[nV]
 refine eW call250 func250 ?_;repeat' first|simp only[go_sem,seval]|refine oE ?_|apply xX<;>intro hc
 refine eW call250 func250 ?_;exact z0
theorem SG (k:Nat) {c:Int} (hc:c=IntKind.u8.wrap (k:Int)) (l more:List Bytes) (hm:more≠[]) (hn:l.length+more.length<=1000) (hb: ∀s∈l++more,s.length<=100000):aH 246 [.i .u8 c, .sl (l.map .s), .sl (more.map .s), .fn (.func 247)] (.s (mJ (iw k (l++more)))):=by
 subst hc;obtain⟨m0,mr,hmr⟩: ∃m0 mr,more=m0::mr:=by cases more with
  |nil=>exact aJ rfl hm
  |cons a b=>exact⟨a,b,rfl⟩
 have hml:more.length=mr.length+1:=by rw[hmr];rfl
 have w1:=fun nm=>wbF FR F5 1001 nm k
 have w2:=fun nm=>qP 1001 1004 nm 0 [UInt8.ofNat k] (l.length+more.length) oC (eR (aA 1) oC) oO
 have ht:=Ln;have hpos: ∀ _:True,(0:Int)<(more.length:Int):=fun _=>oO
 have g0:(more.map PV.s).getD 0 .fn0= .s m0:=by rw[hmr];rfl
 have c1: ∀x∈l.map PV.s,x.cells.length=1:=fun x hx=>by obtain⟨c,-,rfl⟩:=cx.1 hx;rfl
 refine eW call246 func246 ?_;repeat' first|simp only[go_sem,seval]|(refine bK (w1 _) (by simp[az,bF]) ?_)|(refine bK (w2 _) (by simp[az]) ?_)|refine oE ?_|apply xX<;>intro hc
 refine aq ?_;repeat' first|simp only[go_sem,seval,g0,hpos oT]|refine cP ((ht _)) ?_|refine oE ?_|apply xX<;>intro hc
 refine⟨⟨oO,c1⟩,?_⟩;repeat' first|simp only[go_sem,seval]|refine cP ((ht _)) ?_|refine oE ?_|apply xX<;>intro hc
 refine⟨⟨c1,oO,oO⟩,rfl,?_⟩;have hro:List.map AV.v (List.flatMap PV.cells (List.map PV.s l))++[AV.v (PV.s m0)]=aP PV.s (l++more.take 1):=by
  rw[hmr,aP,vQ,mR,jO];rfl
 rw[hro];obtain⟨H,hH⟩: ∃H,H=UInt8.ofNat k::be 8 (l.length+more.length):=⟨_,rfl⟩;rw[<-hH];have hHl:H.length=9:=by rw[hH,List.length_cons,cX]
 have hfr:iw k (l++more)=H++c9 (l++more):=by rw[hH,iw,bR];rfl
 rw[hfr];clear hro hfr w1 w2 g0 c1;refine ah (α:=Nat) (fun j=>more.length-j) (fun j=>⟨[(1, .rs 1028 j 0 (l.length+1+j) 1),(3, .v (.fn (.func 247))),(9, .p 1001 0 0),(23, .v (.sl (more.map PV.s))),(24,E' more.length),(25,E' (j+1))],[(1001,bB FR 1001 1004 8 H),(1004,bD 8 H),(1028,⟨j,aP PV.s (l++more.take (j+1)),true,some 9⟩)],1032⟩) (fun j=>j+1<=more.length) 0 (fun _=>cd rfl) oO ?_ ?_
 ·refine lG ?_;exact⟨jn _ _ _ _ _ _ oC oC,jo _ _ _,fun c hc=>bj hc⟩
 ·intro j hj R hR;have hlr:(l++more.take (j+1)).length=l.length+1+j:=by rw[bR,bQ];omega
  have q0:(aP PV.s (l++more.take (j+1))).length=l.length+1+j:=by rw[bT cH.s,hlr,dr]
  have q1:List.take (l.length+1+j) (aP PV.s (l++more.take (j+1)))=aP PV.s (l++more.take (j+1)):=cQ oO
  by_cases hjt:j+1<more.length
  ·have e2:=getD_map PV.s more ([]:Bytes) hjt;have hgo:=hR (j+1) oO oO;rw[aL ([]:Bytes) hjt,<-eg,bU]at hgo;generalize more.getD (j+1) ([]:Bytes)=y at e2 hgo;have e3: ∀ _:True,((j:Int)+1).toNat=j+1:=fun _=>oO
   clear hR hlr;repeat' first|simp only[go_sem,seval,q0,q1,e2,e3 oT]|refine cP ((ht _)) ?_|refine oE ?_|apply xX<;>intro hc
   refine hgo _ ?_
   (refine AS.Le.of (by first|decide|omega) ?_ ?_<;>simp[cU,cT,aO,az,AV.bd,AV.bd.bdL,u8,aj,ak,an])
   all_goals first|omega|exact⟨jn _ _ _ _ _ _ oC oC,jo _ _ _,by rw[q1];rfl,fun c hc=>by rcases hc with hc|⟨a,ha,rfl⟩;exact bj hc;rfl⟩
  ·have h:j+1=more.length:=oO;rw[h,bm]at q0 q1⊢;refine dw (aN @q0 @q1) ?_;have hP:(l++more).length=l.length+1+j:=by rw[bR];omega
   have hPb: ∀i,i<=(l++more).length->(H++c9 ((l++more).take i)).length<=9+i*100008:=fun i hi=>by
    rw[bR,hHl];have h1:=nJ ((l++more).take i) (n:=100000) fun s hs=>hb s (kG hs)
    rw[bQ,oS hi]at h1;omega
   clear hR ht hmr hml hH hpos;rw[<-hP];rw[<-hP]at q0;generalize hPP:l++more=P at*;have hP3:P.length<=1000:=by rw[hP];omega
   refine ah (α:=Nat) (fun i=>P.length-i) (fun i=>⟨[(9, .p 1001 0 0),(41, .rs 1028 j 0 P.length 1),(42,E' P.length),(43,E' i)],[(1001,bB FR 1001 1004 (8+9*i) (H++c9 (P.take i))),(1004,bD (8+9*i) (H++c9 (P.take i))),(1028,⟨j,aP PV.s P,true,some 9⟩)],1036⟩) (fun i=>i<=P.length) 0 (fun _=>cd rfl) (aD _) ?_ ?_
   ·(refine AS.Le.of (by first|decide|omega) ?_ ?_<;>simp[cU,cT,aO,az,AV.bd,AV.bd.bdL,u8,aj,ak,an])
    have e0:H++c9 []=H:=j6 H;rw[e0];exact⟨rfl,jn _ _ _ _ _ _ oC oC,rfl,jo _ _ _,fun c hc=>bj hc⟩
   ·intro i hi R hR
    by_cases hit:i<P.length
    ·have e2:=wY (f:=PV.s) (fun _=>rfl) P ([]:Bytes) hit
     have hgo:=hR (i+1) oO oO;have hbs:=hb (P.getD i []) (ai [] hit);have hPi:=hPb i hi;rw[aL ([]:Bytes) hit,mC,<-eg,<-eg]at hgo;generalize P.getD i []=y at e2 hgo hbs;generalize hB:H++c9 (P.take i)=B at hgo hPi⊢;have w1:=fun nm=>qP 1001 1004 nm (8+9*i) B y.length oC oO oO
     have w2:=fun nm=>YV FR 1001 1004 nm (8+9*i+8) (B++be 8 y.length) y oC (by rw[bR,cX];omega)
     simp only[show 8+9*(i+1)=8+9*i+8+1 by omega]at hgo
     clear hR hb hPb;repeat' first|simp only[go_sem,seval,q0,e2]|(refine bK (w1 _) (by simp[az]) ?_)|(refine bK (w2 _) (by simp[az]) ?_)|refine oE ?_|apply xX<;>intro hc
     refine hgo _ ?_;refine lG ?_;all_goals exact⟨jn _ _ _ _ _ _ oC oC,jo _ _ _,fun c hc=>bj hc⟩
    ·have h:i=P.length:=oO;rw[h,bm];have hl2:=hPb P.length (aA _);rw[bm]at hl2;have hne:H++c9 P≠[]:=by intro h0;have:=congrArg List.length h0;rw[bR,hHl]at this;simp at this
     generalize H++c9 P=B at hl2 hne⊢;have w3:=fun nm=>It FR 1001 1004 nm (8+9*P.length) B oC (fun h0=>hne (dt.1 h0)) oO
     have hsu:=sZ (s:=B) oO;repeat' first|simp only[go_sem,seval,q0]|(refine bK (w3 _) (by simp[az]) ?_)|refine cP hsu ?_|refine oE ?_|apply xX<;>intro hc
theorem SF (k:Nat) {c:Int} (hc:c=IntKind.u8.wrap (k:Int)) (l more:List Bytes) (hm:more≠[]) (hn:l.length+more.length<=1000) (hb: ∀s∈l++more,s.length<=100000):aH 160 [.i .u8 c, .sl (l.map .s), .sl (more.map .s), .fn (.func 161)] (.s (mJ (iw k (l++more)))):=by
 subst hc;obtain⟨m0,mr,hmr⟩: ∃m0 mr,more=m0::mr:=by cases more with
  |nil=>exact aJ rfl hm
  |cons a b=>exact⟨a,b,rfl⟩
 have hml:more.length=mr.length+1:=by rw[hmr];rfl
 have w1:=fun nm=>wbF FR F5 1001 nm k
 have w2:=fun nm=>qP 1001 1004 nm 0 [UInt8.ofNat k] (l.length+more.length) oC (eR (aA 1) oC) oO
 have ht:=Mh;have hpos: ∀ _:True,(0:Int)<(more.length:Int):=fun _=>oO
 have g0:(more.map PV.s).getD 0 .fn0= .s m0:=by rw[hmr];rfl
 have c1: ∀x∈l.map PV.s,x.cells.length=1:=fun x hx=>by obtain⟨c,-,rfl⟩:=cx.1 hx;rfl
 refine eW call160 func160 ?_;repeat' first|simp only[go_sem,seval]|(refine bK (w1 _) (by simp[az,bF]) ?_)|(refine bK (w2 _) (by simp[az]) ?_)|refine oE ?_|apply xX<;>intro hc
 refine aq ?_;repeat' first|simp only[go_sem,seval,g0,hpos oT]|refine cP ((ht _)) ?_|refine oE ?_|apply xX<;>intro hc
 refine⟨⟨oO,c1⟩,?_⟩;repeat' first|simp only[go_sem,seval]|refine cP ((ht _)) ?_|refine oE ?_|apply xX<;>intro hc
 refine⟨⟨c1,oO,oO⟩,rfl,?_⟩;have hro:List.map AV.v (List.flatMap PV.cells (List.map PV.s l))++[AV.v (PV.s m0)]=aP PV.s (l++more.take 1):=by
  rw[hmr,aP,vQ,mR,jO];rfl
 rw[hro];obtain⟨H,hH⟩: ∃H,H=UInt8.ofNat k::be 8 (l.length+more.length):=⟨_,rfl⟩;rw[<-hH];have hHl:H.length=9:=by rw[hH,List.length_cons,cX]
 have hfr:iw k (l++more)=H++c9 (l++more):=by rw[hH,iw,bR];rfl
 rw[hfr];clear hro hfr w1 w2 g0 c1;refine ah (α:=Nat) (fun j=>more.length-j) (fun j=>⟨[(1, .rs 1028 j 0 (l.length+1+j) 1),(3, .v (.fn (.func 161))),(9, .p 1001 0 0),(23, .v (.sl (more.map PV.s))),(24,E' more.length),(25,E' (j+1))],[(1001,bB FR 1001 1004 8 H),(1004,bD 8 H),(1028,⟨j,aP PV.s (l++more.take (j+1)),true,some 9⟩)],1032⟩) (fun j=>j+1<=more.length) 0 (fun _=>cd rfl) oO ?_ ?_
 ·refine lG ?_;exact⟨jn _ _ _ _ _ _ oC oC,jo _ _ _,fun c hc=>bj hc⟩
 ·intro j hj R hR;have hlr:(l++more.take (j+1)).length=l.length+1+j:=by rw[bR,bQ];omega
  have q0:(aP PV.s (l++more.take (j+1))).length=l.length+1+j:=by rw[bT cH.s,hlr,dr]
  have q1:List.take (l.length+1+j) (aP PV.s (l++more.take (j+1)))=aP PV.s (l++more.take (j+1)):=cQ oO
  by_cases hjt:j+1<more.length
  ·have e2:=getD_map PV.s more ([]:Bytes) hjt;have hgo:=hR (j+1) oO oO;rw[aL ([]:Bytes) hjt,<-eg,bU]at hgo;generalize more.getD (j+1) ([]:Bytes)=y at e2 hgo;have e3: ∀ _:True,((j:Int)+1).toNat=j+1:=fun _=>oO
   clear hR hlr;repeat' first|simp only[go_sem,seval,q0,q1,e2,e3 oT]|refine cP ((ht _)) ?_|refine oE ?_|apply xX<;>intro hc
   refine hgo _ ?_
   (refine AS.Le.of (by first|decide|omega) ?_ ?_<;>simp[cU,cT,aO,az,AV.bd,AV.bd.bdL,u8,aj,ak,an])
   all_goals first|omega|exact⟨jn _ _ _ _ _ _ oC oC,jo _ _ _,by rw[q1];rfl,fun c hc=>by rcases hc with hc|⟨a,ha,rfl⟩;exact bj hc;rfl⟩
  ·have h:j+1=more.length:=oO;rw[h,bm]at q0 q1⊢;refine dw (aN @q0 @q1) ?_;have hP:(l++more).length=l.length+1+j:=by rw[bR];omega
   have hPb: ∀i,i<=(l++more).length->(H++c9 ((l++more).take i)).length<=9+i*100008:=fun i hi=>by
    rw[bR,hHl];have h1:=nJ ((l++more).take i) (n:=100000) fun s hs=>hb s (kG hs)
    rw[bQ,oS hi]at h1;omega
   clear hR ht hmr hml hH hpos;rw[<-hP];rw[<-hP]at q0;generalize hPP:l++more=P at*;have hP3:P.length<=1000:=by rw[hP];omega
   refine ah (α:=Nat) (fun i=>P.length-i) (fun i=>⟨[(9, .p 1001 0 0),(41, .rs 1028 j 0 P.length 1),(42,E' P.length),(43,E' i)],[(1001,bB FR 1001 1004 (8+9*i) (H++c9 (P.take i))),(1004,bD (8+9*i) (H++c9 (P.take i))),(1028,⟨j,aP PV.s P,true,some 9⟩)],1036⟩) (fun i=>i<=P.length) 0 (fun _=>cd rfl) (aD _) ?_ ?_
   ·(refine AS.Le.of (by first|decide|omega) ?_ ?_<;>simp[cU,cT,aO,az,AV.bd,AV.bd.bdL,u8,aj,ak,an])
    have e0:H++c9 []=H:=j6 H;rw[e0];exact⟨rfl,jn _ _ _ _ _ _ oC oC,rfl,jo _ _ _,fun c hc=>bj hc⟩
   ·intro i hi R hR
    by_cases hit:i<P.length
    ·have e2:=wY (f:=PV.s) (fun _=>rfl) P ([]:Bytes) hit
     have hgo:=hR (i+1) oO oO;have hbs:=hb (P.getD i []) (ai [] hit);have hPi:=hPb i hi;rw[aL ([]:Bytes) hit,mC,<-eg,<-eg]at hgo;generalize P.getD i []=y at e2 hgo hbs;generalize hB:H++c9 (P.take i)=B at hgo hPi⊢;have w1:=fun nm=>qP 1001 1004 nm (8+9*i) B y.length oC oO oO
     have w2:=fun nm=>YV FR 1001 1004 nm (8+9*i+8) (B++be 8 y.length) y oC (by rw[bR,cX];omega)
     simp only[show 8+9*(i+1)=8+9*i+8+1 by omega]at hgo
     clear hR hb hPb;repeat' first|simp only[go_sem,seval,q0,e2]|(refine bK (w1 _) (by simp[az]) ?_)|(refine bK (w2 _) (by simp[az]) ?_)|refine oE ?_|apply xX<;>intro hc
     refine hgo _ ?_;refine lG ?_;all_goals exact⟨jn _ _ _ _ _ _ oC oC,jo _ _ _,fun c hc=>bj hc⟩
    ·have h:i=P.length:=oO;rw[h,bm];have hl2:=hPb P.length (aA _);rw[bm]at hl2;have hne:H++c9 P≠[]:=by intro h0;have:=congrArg List.length h0;rw[bR,hHl]at this;simp at this
     generalize H++c9 P=B at hl2 hne⊢;have w3:=fun nm=>It FR 1001 1004 nm (8+9*P.length) B oC (fun h0=>hne (dt.1 h0)) oO
     have hsu:=sZ (s:=B) oO;repeat' first|simp only[go_sem,seval,q0]|(refine bK (w3 _) (by simp[az]) ?_)|refine cP hsu ?_|refine oE ?_|apply xX<;>intro hc
theorem SE (k:Nat) {c:Int} (hc:c=IntKind.u8.wrap (k:Int)) (l:List Bytes) (n:Bool) (a:Bytes) (hn:l.length<=999) (hb: ∀s∈l++[nV (n,a)],s.length<=100000):aH 249 [.i .u8 c, .sl (l.map .s), .sl [.agg [.b n, .s a]], .fn (.func 250)] (.s (mJ (iw k (l++[nV (n,a)])))):=by
 subst hc;have ha:a.length<1000000:=by
  have:=hb (nV (n,a)) (by simp)
  simp only[nV,List.length_cons]at this;omega
 have w1:=fun nm=>wbF FR F5 1001 nm k
 have w2:=fun nm=>qP 1001 1004 nm 0 [UInt8.ofNat k] (l.length+1) oC (eR (aA 1) oC) oO
 have ht:=Me n a ha;have c1: ∀x∈l.map PV.s,x.cells.length=1:=fun x hx=>by obtain⟨c,-,rfl⟩:=cx.1 hx;rfl
 refine eW call249 func249 ?_;repeat' first|simp only[go_sem,seval]|(refine bK (w1 _) (by simp[az,bF]) ?_)|(refine bK (w2 _) (by simp[az]) ?_)|refine oE ?_|apply xX<;>intro hc
 refine aq ?_;refine zx1 @ht ?_;refine⟨⟨oO,c1⟩,?_⟩;refine zx1 @ht ?_;refine⟨⟨c1,oO,oO⟩,rfl,?_⟩;refine aq ?_;refine ye ?_;have hro:List.map AV.v (List.flatMap PV.cells (List.map PV.s l))++[AV.v (PV.s (nV (n,a)))]=aP PV.s (l++[nV (n,a)]):=by
  rw[aP,vQ,mR,jO];rfl
 rw[hro];obtain⟨H,hH⟩: ∃H,H=UInt8.ofNat k::be 8 (l.length+1):=⟨_,rfl⟩;rw[<-hH];have hHl:H.length=9:=by rw[hH,List.length_cons,cX]
 have hfr:iw k (l++[nV (n,a)])=H++c9 (l++[nV (n,a)]):=by rw[hH,iw,bR];rfl
 rw[hfr];have hP:(l++[nV (n,a)]).length=l.length+1:=by rw[bR];rfl
 have q0:(aP PV.s (l++[nV (n,a)])).length=(l++[nV (n,a)]).length:=by rw[bT cH.s,dr]
 have hPb: ∀i,i<=(l++[nV (n,a)]).length->(H++c9 ((l++[nV (n,a)]).take i)).length<=9+i*100008:=fun i hi=>by
  rw[bR,hHl];have h1:=nJ ((l++[nV (n,a)]).take i) (n:=100000) fun s hs=>hb s (kG hs)
  rw[bQ,oS hi]at h1;omega
 clear hro hfr w1 w2 c1 hH;rw[<-hP];generalize l++[nV (n,a)]=P at*;have hP3:P.length<=1000:=by rw[hP];omega
 clear ha ht hP;refine ah (α:=Nat) (fun i=>P.length-i) (fun i=>⟨[(9, .p 1001 0 0),(41, .rs 1029 0 0 P.length 1),(42,E' P.length),(43,E' i)],[(1001,bB FR 1001 1004 (8+9*i) (H++c9 (P.take i))),(1004,bD (8+9*i) (H++c9 (P.take i))),(1029,⟨0,aP PV.s P,true,some 9⟩)],1037⟩) (fun i=>i<=P.length) 0 (fun _=>cd rfl) (aD _) ?_ ?_
 ·(refine AS.Le.of (by first|decide|omega) ?_ ?_<;>simp[cU,cT,aO,az,AV.bd,AV.bd.bdL,u8,aj,ak,an])
  have e0:H++c9 []=H:=j6 H;rw[e0];exact⟨rfl,jn _ _ _ _ _ _ oC oC,rfl,jo _ _ _,fun c hc=>bj hc⟩
 ·intro i hi R hR
  by_cases hit:i<P.length
  ·have e2:=wY (f:=PV.s) (fun _=>rfl) P ([]:Bytes) hit
   have hgo:=hR (i+1) oO oO;have hbs:=hb (P.getD i []) (ai [] hit);have hPi:=hPb i hi;rw[aL ([]:Bytes) hit,mC,<-eg,<-eg]at hgo;generalize P.getD i []=y at e2 hgo hbs;generalize hB:H++c9 (P.take i)=B at hgo hPi⊢;have w1:=fun nm=>qP 1001 1004 nm (8+9*i) B y.length oC oO oO
   have w2:=fun nm=>YV FR 1001 1004 nm (8+9*i+8) (B++be 8 y.length) y oC (by rw[bR,cX];omega)
   simp only[show 8+9*(i+1)=8+9*i+8+1 by omega]at hgo
   clear hR hb hPb;repeat' first|simp only[go_sem,seval,q0,e2]|(refine bK (w1 _) (by simp[az]) ?_)|(refine bK (w2 _) (by simp[az]) ?_)|refine oE ?_|apply xX<;>intro hc
   refine hgo _ ?_;refine lG ?_;all_goals exact⟨jn _ _ _ _ _ _ oC oC,jo _ _ _,fun c hc=>bj hc⟩
  ·have h:i=P.length:=oO;rw[h,bm];have hl2:=hPb P.length (aA _);rw[bm]at hl2;have hne:H++c9 P≠[]:=by intro h0;have:=congrArg List.length h0;rw[bR,hHl]at this;simp at this
   generalize H++c9 P=B at hl2 hne⊢;have w3:=fun nm=>It FR 1001 1004 nm (8+9*P.length) B oC (fun h0=>hne (dt.1 h0)) oO
   have hsu:=sZ (s:=B) oO;repeat' first|simp only[go_sem,seval,q0]|(refine bK (w3 _) (by simp[az]) ?_)|refine cP hsu ?_|refine oE ?_|apply xX<;>intro hc
