/-
  Part of the proof, part Y21. Own work.
-/
import Derived.Test.YtmledjfbgjnknaaGreatDoorChecked
import Derived.KernelRfl
import Derived.Test.YtmledjfbgjnknaaGreatDoorY20
import Derived.Lib.Bytealg
import Derived.Lib.Mul64
import Derived.Lib.ItoaNum
set_option linter.all false
namespace Go.Proofs.YtmledjfbgjnknaaGreatDoor
open Go Go.Dom
set_option maxRecDepth 100000
theorem mixed:Tryz.prog.follows .mixedOrders=true:=by kernel_rfl
def tab_deBruijn32tab:List Int:=[0,1,28,2,29,14,24,3,30,22,20,15,25,17,4,8,31,27,13,23,21,19,16,7,26,12,18,6,11,5,10,9]
def tab_deBruijn64tab:List Int:=[0,1,56,2,57,49,28,3,61,58,42,50,38,29,17,4,62,47,59,36,45,43,51,22,53,39,33,30,24,18,12,5,63,55,48,27,60,41,37,16,46,35,44,21,52,32,23,11,54,26,40,15,34,20,31,10,25,14,19,9,13,8,7,6]
def tab_uint64pow10:List Int:=[1,10,100,1000,10000,100000,1000000,10000000,100000000,1000000000,10000000000,100000000000,1000000000000,10000000000000,100000000000000,1000000000000000,10000000000000000,100000000000000000,1000000000000000000,10000000000000000000]
instance tabs:Tabs Tryz.prog:=⟨[(5,tab_deBruijn32tab.map fun n=>(.u8,n)),(0,tab_deBruijn64tab.map fun n=>(.u8,n)),(4,tab_uint64pow10.map fun n=>(.u64,n))],[(53,[0,1])],by
 intro q hq;simp only[List.mem_singleton]at hq;subst hq;kernel_rfl⟩
noncomputable def ty0:{l:List (Option TypeInfo)//(List.range' 0 16).map Tryz.prog.info?=l}:=⟨_,by conv=>lhs;reduce⟩
noncomputable def ty1:{l:List (Option TypeInfo)//(List.range' 16 16).map Tryz.prog.info?=l}:=⟨_,by conv=>lhs;reduce⟩
noncomputable def ty2:{l:List (Option TypeInfo)//(List.range' 32 16).map Tryz.prog.info?=l}:=⟨_,by conv=>lhs;reduce⟩
noncomputable def ty3:{l:List (Option TypeInfo)//(List.range' 48 16).map Tryz.prog.info?=l}:=⟨_,by conv=>lhs;reduce⟩
noncomputable def ty4:{l:List (Option TypeInfo)//(List.range' 64 16).map Tryz.prog.info?=l}:=⟨_,by conv=>lhs;reduce⟩
noncomputable def ty5:{l:List (Option TypeInfo)//(List.range' 80 16).map Tryz.prog.info?=l}:=⟨_,by conv=>lhs;reduce⟩
noncomputable def ty6:{l:List (Option TypeInfo)//(List.range' 96 16).map Tryz.prog.info?=l}:=⟨_,by conv=>lhs;reduce⟩
noncomputable def ty7:{l:List (Option TypeInfo)//(List.range' 112 16).map Tryz.prog.info?=l}:=⟨_,by conv=>lhs;reduce⟩
noncomputable def ty8:{l:List (Option TypeInfo)//(List.range' 128 16).map Tryz.prog.info?=l}:=⟨_,by conv=>lhs;reduce⟩
noncomputable def ty9:{l:List (Option TypeInfo)//(List.range' 144 16).map Tryz.prog.info?=l}:=⟨_,by conv=>lhs;reduce⟩
noncomputable def ty10:{l:List (Option TypeInfo)//(List.range' 160 16).map Tryz.prog.info?=l}:=⟨_,by conv=>lhs;reduce⟩
noncomputable def ty11:{l:List (Option TypeInfo)//(List.range' 176 16).map Tryz.prog.info?=l}:=⟨_,by conv=>lhs;reduce⟩
noncomputable def ty12:{l:List (Option TypeInfo)//(List.range' 192 16).map Tryz.prog.info?=l}:=⟨_,by conv=>lhs;reduce⟩
noncomputable def ty13:{l:List (Option TypeInfo)//(List.range' 208 16).map Tryz.prog.info?=l}:=⟨_,by conv=>lhs;reduce⟩
noncomputable def ty14:{l:List (Option TypeInfo)//(List.range' 224 16).map Tryz.prog.info?=l}:=⟨_,by conv=>lhs;reduce⟩
noncomputable def ty15:{l:List (Option TypeInfo)//(List.range' 240 16).map Tryz.prog.info?=l}:=⟨_,by conv=>lhs;reduce⟩
noncomputable def ty16:{l:List (Option TypeInfo)//(List.range' 256 16).map Tryz.prog.info?=l}:=⟨_,by conv=>lhs;reduce⟩
noncomputable def ty17:{l:List (Option TypeInfo)//(List.range' 272 16).map Tryz.prog.info?=l}:=⟨_,by conv=>lhs;reduce⟩
noncomputable def ty18:{l:List (Option TypeInfo)//(List.range' 288 16).map Tryz.prog.info?=l}:=⟨_,by conv=>lhs;reduce⟩
noncomputable def ty19:{l:List (Option TypeInfo)//(List.range' 304 16).map Tryz.prog.info?=l}:=⟨_,by conv=>lhs;reduce⟩
noncomputable def ty20:{l:List (Option TypeInfo)//(List.range' 320 16).map Tryz.prog.info?=l}:=⟨_,by conv=>lhs;reduce⟩
noncomputable def ty21:{l:List (Option TypeInfo)//(List.range' 336 16).map Tryz.prog.info?=l}:=⟨_,by conv=>lhs;reduce⟩
noncomputable def ty22:{l:List (Option TypeInfo)//(List.range' 352 16).map Tryz.prog.info?=l}:=⟨_,by conv=>lhs;reduce⟩
noncomputable def ty23:{l:List (Option TypeInfo)//(List.range' 368 16).map Tryz.prog.info?=l}:=⟨_,by conv=>lhs;reduce⟩
noncomputable def ty24:{l:List (Option TypeInfo)//(List.range' 384 16).map Tryz.prog.info?=l}:=⟨_,by conv=>lhs;reduce⟩
noncomputable def ty25:{l:List (Option TypeInfo)//(List.range' 400 16).map Tryz.prog.info?=l}:=⟨_,by conv=>lhs;reduce⟩
noncomputable def ty26:{l:List (Option TypeInfo)//(List.range' 416 16).map Tryz.prog.info?=l}:=⟨_,by conv=>lhs;reduce⟩
noncomputable def ty27:{l:List (Option TypeInfo)//(List.range' 432 16).map Tryz.prog.info?=l}:=⟨_,by conv=>lhs;reduce⟩
noncomputable def ty28:{l:List (Option TypeInfo)//(List.range' 448 16).map Tryz.prog.info?=l}:=⟨_,by conv=>lhs;reduce⟩
noncomputable def ty29:{l:List (Option TypeInfo)//(List.range' 464 16).map Tryz.prog.info?=l}:=⟨_,by conv=>lhs;reduce⟩
noncomputable def ty30:{l:List (Option TypeInfo)//(List.range' 480 3).map Tryz.prog.info?=l}:=⟨_,by conv=>lhs;reduce⟩
noncomputable def tyL (t:Nat):Option TypeInfo:=if t<483 then(if t<240 then if t<112 then if t<48 then if t<16 then ty0.1.getD (t-0) none else if t<32 then ty1.1.getD (t-16) none else ty2.1.getD (t-32) none else if t<80 then if t<64 then ty3.1.getD (t-48) none else ty4.1.getD (t-64) none else if t<96 then ty5.1.getD (t-80) none else ty6.1.getD (t-96) none else if t<176 then if t<144 then if t<128 then ty7.1.getD (t-112) none else ty8.1.getD (t-128) none else if t<160 then ty9.1.getD (t-144) none else ty10.1.getD (t-160) none else if t<208 then if t<192 then ty11.1.getD (t-176) none else ty12.1.getD (t-192) none else if t<224 then ty13.1.getD (t-208) none else ty14.1.getD (t-224) none else if t<368 then if t<304 then if t<272 then if t<256 then ty15.1.getD (t-240) none else ty16.1.getD (t-256) none else if t<288 then ty17.1.getD (t-272) none else ty18.1.getD (t-288) none else if t<336 then if t<320 then ty19.1.getD (t-304) none else ty20.1.getD (t-320) none else if t<352 then ty21.1.getD (t-336) none else ty22.1.getD (t-352) none else if t<432 then if t<400 then if t<384 then ty23.1.getD (t-368) none else ty24.1.getD (t-384) none else if t<416 then ty25.1.getD (t-400) none else ty26.1.getD (t-416) none else if t<464 then if t<448 then ty27.1.getD (t-432) none else ty28.1.getD (t-448) none else if t<480 then ty29.1.getD (t-464) none else ty30.1.getD (t-480) none)else Tryz.prog.info? t
theorem tyE:tyL=Tryz.prog.info?:=by
 funext t;unfold tyL
 repeat' split
 ·exact chunk_get ty0.2 (by omega) (by omega)
 ·exact chunk_get ty1.2 (by omega) (by omega)
 ·exact chunk_get ty2.2 (by omega) (by omega)
 ·exact chunk_get ty3.2 (by omega) (by omega)
 ·exact chunk_get ty4.2 (by omega) (by omega)
 ·exact chunk_get ty5.2 (by omega) (by omega)
 ·exact chunk_get ty6.2 (by omega) (by omega)
 ·exact chunk_get ty7.2 (by omega) (by omega)
 ·exact chunk_get ty8.2 (by omega) (by omega)
 ·exact chunk_get ty9.2 (by omega) (by omega)
 ·exact chunk_get ty10.2 (by omega) (by omega)
 ·exact chunk_get ty11.2 (by omega) (by omega)
 ·exact chunk_get ty12.2 (by omega) (by omega)
 ·exact chunk_get ty13.2 (by omega) (by omega)
 ·exact chunk_get ty14.2 (by omega) (by omega)
 ·exact chunk_get ty15.2 (by omega) (by omega)
 ·exact chunk_get ty16.2 (by omega) (by omega)
 ·exact chunk_get ty17.2 (by omega) (by omega)
 ·exact chunk_get ty18.2 (by omega) (by omega)
 ·exact chunk_get ty19.2 (by omega) (by omega)
 ·exact chunk_get ty20.2 (by omega) (by omega)
 ·exact chunk_get ty21.2 (by omega) (by omega)
 ·exact chunk_get ty22.2 (by omega) (by omega)
 ·exact chunk_get ty23.2 (by omega) (by omega)
 ·exact chunk_get ty24.2 (by omega) (by omega)
 ·exact chunk_get ty25.2 (by omega) (by omega)
 ·exact chunk_get ty26.2 (by omega) (by omega)
 ·exact chunk_get ty27.2 (by omega) (by omega)
 ·exact chunk_get ty28.2 (by omega) (by omega)
 ·exact chunk_get ty29.2 (by omega) (by omega)
 ·exact chunk_get ty30.2 (by omega) (by omega)
 ·rfl
theorem tyC:(∀nt c sc,compI Tryz.prog tyL nt c=some sc→comp Tryz.prog nt c=some sc)∧ ∀l rs,compResI tyL l=some rs→compRes Tryz.prog l=some rs:=by
 rw[tyE,compI_eq,compResI_eq];exact⟨fun _ _ _ h=>h,fun _ _ h=>h⟩
theorem eW {f:FuncId} {fn:Func} {sc:SC} {rs:List SRes} (hent:Enters Tryz.prog f f) (hfn:Tryz.prog.funcs[f]?=some fn) {args:List PV} {r:PV} (h:CW Tryz.prog (RetQ rs r) sc [] ⟨ent 0 args,[],1000⟩) (hb:fn.body.isSome=true:=by exact rfl) (hc:compI Tryz.prog tyL fn.ntmps (fn.body.getD .skip)=some sc:=by cbv) (hr:compResI tyL fn.results.toList=some rs:=by cbv) (hlen:Nat.ble args.length fn.ntmps=true:=by exact rfl):EvP Tryz.prog f args r:=EvP.w mixed hent hfn hb (tyC.1 _ _ _ hc) (tyC.2 _ _ hr) hlen h
theorem u8z {c:UInt8} (h:(c.toNat:Int)=0):c=0:=UInt8.toNat_inj.1 (by simpa using h)
theorem u8nz {c:UInt8} (h:(c.toNat:Int)≠0):c≠0:=fun e=>by subst e;simp at h
abbrev E (n:Int):PV:= .i .i64 n
theorem byte_u8 (c:UInt8):(u8 c).byte=c:=by simp[u8,PV.byte]
theorem bytes_u8 (l:Bytes):(l.map u8).map PV.byte=l:=by induction l<;>simp_all[byte_u8]
theorem isByte_u8 {l:Bytes} {y:PV} (h:y∈l.map u8):y.isByte:=by
 obtain⟨c,_,rfl⟩:=List.mem_map.1 h;trivial
theorem cells_u8 {l:Bytes} {y:PV} (h:y∈l.map u8):y.cells.length=1:=by
 obtain⟨c,_,rfl⟩:=List.mem_map.1 h;rfl
theorem validN_eq (a:Bytes):validN a=(decide ((a.length:Int)≤128)&&(((a.length:Int)==0)||(((a.getD 0 0).toNat:Int) !=0))):=by
 unfold validN;have h1:decide ((a.length:Int)≤128)=decide (a.length≤128):=by simp;omega
 have h2:((a.length:Int)==0)=(a.length==0):=by rw[Bool.eq_iff_iff];simp only[beq_iff_eq];omega
 have h3:(((a.getD 0 0).toNat:Int) !=0)=(a.headD 0 !=0):=by
  cases a with
  |nil=>rfl
  |cons x r=>
   have:x.toNat=0↔x=0:=by
    constructor
    ·intro h;exact UInt8.toNat_inj.1 h
    ·intro h;subst h;rfl
   rw[Bool.eq_iff_iff];simp[this]
 rw[h1,h2,h3]
theorem natValid (a:Bytes):EvP Tryz.prog 20 [.s a] (.b (validN a)):=by
 rw[validN_eq];refine eW Tryz.call20 Tryz.func20 ?_;repeat' first|simp only[go_sem,seval]|refine sB ?_|(first|apply pX|apply bX)<;>intro hc|refine⟨oD,?_⟩|exact oD|fail
 all_goals simp_all
 all_goals omega
theorem trimmed_ok (l:Bytes):EvP Tryz.prog 101 [.sl (l.map u8)] (.s (trimB l)):=by
 refine eW Tryz.call101 Tryz.func101 ?_;simp only[go_sem,seval];refine loop_run (α:=Bytes) List.length (fun x=>⟨[(0, .v (.sl (x.map u8)))],[],_⟩) (fun x=>trimB x=trimB l) l (fun _=>Nat.le_refl _) rfl ?_ ?_
 ·refine AS.Le.of (Nat.le_refl _) ⟨rfl,rfl,trivial⟩ trivial
 ·intro x hx R hR
  cases x with
  |nil=>
   repeat' first|simp only[go_sem,seval]|refine sB ?_|(first|apply pX|apply bX)<;>intro hc|refine⟨oD,?_⟩|exact oD|fail
   rw[←hx];rfl
  |cons c r=>
   repeat' first|simp only[go_sem,seval]|refine sB ?_|(first|apply pX|apply bX)<;>intro hc|refine⟨oD,?_⟩|exact oD|fail
   ·refine⟨⟨by omega,fun x hx=>cells_u8 hx⟩,hR r ?_ (Nat.lt_succ_self _) _ (AS.Le.of (by decide) ⟨rfl,rfl,trivial⟩ trivial)⟩
    rw[←hx,trimB,if_pos (u8z hc)]
   ·refine⟨fun y hy=>isByte_u8 hy,?_⟩
    rw[←hx,trimB,if_neg (u8nz hc)];rw[bytes_u8]
theorem fitting_ok (a:Bytes):EvP Tryz.prog 203 [.s a] (.tup [.s (if a.length≤128 then a else[]),E (if a.length≤128 then 0 else 5)]):=by
 refine eW Tryz.call203 Tryz.func203 ?_;repeat' first|simp only[go_sem,seval]|refine sB ?_|(first|apply pX|apply bX)<;>intro hc|refine⟨oD,?_⟩|exact oD|fail
 ·have h: ¬a.length≤128:=by omega
  simp[h]
 ·have h:a.length≤128:=by omega
  simp[h]
theorem digit_ok (a:Bytes) (i:Nat) (ha:a.length<4611686018427387904):EvP Tryz.prog 213 [.s a,E i] (E ((num a/256^i%256:Nat):Int)):=by
 refine eW Tryz.call213 Tryz.func213 ?_;repeat' first|simp only[go_sem,seval]|refine sB ?_|(first|apply pX|apply bX)<;>intro hc|refine⟨oD,?_⟩|exact oD|fail
 ·rw[num_digit0 a (by omega)];rfl
 ·have h:=num_digit a (i:=i) (by omega)
  rw[←h,show((a.length:Int)-1-(i:Int)).toNat=a.length-1-i by omega]
  have:=(a.getD (a.length-1-i) 0).toNat_lt;rw[IntWalk.i64_in _ (by omega)]
theorem isNaN_ok (x:Int):EvP Tryz.prog 402 [E x] (.b false):=by
 refine eW Tryz.call402 Tryz.func402 ?_;simp only[go_sem,seval];simp
theorem cmpInt_ok (x y:Int):EvP Tryz.prog 324 [E x,E y] (E (if x<y then-1 else if y<x then 1 else 0)):=by
 refine eW Tryz.call324 Tryz.func324 ?_;repeat' first|simp only[go_sem,seval]|refine cP (isNaN_ok _) ?_|refine sB ?_|(first|apply pX|apply bX)<;>intro hc|refine⟨oD,?_⟩|exact oD|fail
 all_goals (simp_all<;>omega)
theorem cmpstring (a b:Bytes):EvX Tryz.prog 442 [.s a, .s b] (E (Lib.compareBytes a b)):=by
 intro rd vs w hv;obtain⟨x,us,rfl,hx,hv⟩:=hv.uncons;obtain⟨y,us,rfl,hy,hv⟩:=hv.uncons;obtain rfl:=hv.nil_inv
 cases hx;cases hy
 have h1:(Tryz.f442.name== "runtime.NumGoroutine")=false:=by kernel_rfl
 have h2:Tryz.f442.body.isNone=true:=by kernel_rfl
 have h3:(Extern.findNext Tryz.f442).isNone=true:=by kernel_rfl
 have h4:Extern.find Tryz.f442=some Extern.BytealgCompare.compare:=by kernel_rfl
 have h3':Extern.findNext Tryz.f442=none:=by simpa using h3
 refine⟨.int .i64 (Lib.compareBytes a b),?_, .i _ _⟩;simp only[callFunc,Sem.run_bind,run_program,Result.andThen,Tryz.func442,h1,h2,h3',h4,if_true,Bool.false_eq_true,if_false];have:=Lib.run_compareString (P:=Tryz.prog) ⟨a.toArray⟩ ⟨b.toArray⟩ w;simp only[List.toList_toArray]at this;simp[this]
theorem bytealgCmp_ok (a b:Bytes):EvP Tryz.prog 403 [.s a, .s b] (E (Lib.compareBytes a b)):=by
 refine eW Tryz.call403 Tryz.func403 ?_;repeat' first|simp only[go_sem,seval]|(refine CR_ext (cmpstring _ _) rfl ?_)|refine sB ?_|(first|apply pX|apply bX)<;>intro hc|refine⟨oD,?_⟩|exact oD|fail
theorem stringsCmp_ok (a b:Bytes):EvP Tryz.prog 325 [.s a, .s b] (E (Lib.compareBytes a b)):=by
 refine eW Tryz.call325 Tryz.func325 ?_;repeat' first|simp only[go_sem,seval]|refine cP (bytealgCmp_ok _ _) ?_|refine sB ?_|(first|apply pX|apply bX)<;>intro hc|refine⟨oD,?_⟩|exact oD|fail
def cmpN (a b:Nat):Int:=if a<b then-1 else if b<a then 1 else 0
theorem compareBytes_num: ∀{a b:Bytes},a.length=b.length→Lib.compareBytes a b=cmpN (num a) (num b)
 |[],[],_=>rfl
 |x::r,y::s,h=>by
  have hl:r.length=s.length:=by simpa using h
  have ih:=compareBytes_num hl;have h1:=num_cons_lt x y hl;have h2:=num_cons_lt y x hl.symm;have e1:x<y↔x.toNat<y.toNat:=UInt8.lt_iff_toNat_lt;have e2:y<x↔y.toNat<x.toNat:=UInt8.lt_iff_toNat_lt;simp only[Lib.compareBytes,cmpN,h1,h2,e1,e2,ih];rcases Nat.lt_trichotomy x.toNat y.toNat with h|h|h
  ·simp[h]
  ·have:x=y:=UInt8.toNat_inj.1 h;subst this;simp
  ·have hne: ¬x=y:=fun e=>by subst e;omega
   simp[h,Nat.lt_asymm h,hne]
theorem compare_ok {a b:Bytes} (ha:Canon a) (hb:Canon b):EvP Tryz.prog 200 [.s a, .s b] (E (cmpN (num a) (num b))):=by
 refine eW Tryz.call200 Tryz.func200 ?_;repeat' first|simp only[go_sem,seval]|refine cP (cmpInt_ok _ _) ?_|refine cP (stringsCmp_ok _ _) ?_|refine sB ?_|(first|apply pX|apply bX)<;>intro hc|refine⟨oD,?_⟩|exact oD|fail
 ·congr 1;refine compareBytes_num ?_
  split at hc
  ·simp at hc
  ·split at hc
   ·simp at hc
   ·omega
 ·congr 1;unfold cmpN
  split at hc
  ·have:=canon_len_lt (a:=a) hb (by omega)
   simp_all
  ·split at hc
   ·have:=canon_len_lt (a:=b) ha (by omega)
    rename_i g1 g2;rw[if_neg g1,if_pos g2,if_neg (by omega),if_pos (by omega)]
   ·simp at hc
theorem Cmp_ok (a b:Bytes):EvP Tryz.prog 85 [.s a, .s b] (E (if validN a&&validN b then cmpN (num a) (num b)else 0)):=by
 refine eW Tryz.call85 Tryz.func85 ?_;repeat' first|simp only[go_sem,seval]|refine cP (natValid _) ?_|(refine CR_pure (compare_ok (canon_of (by assumption)) (canon_of (by assumption))) rfl ?_)|refine sB ?_|(first|apply pX|apply bX)<;>intro hc|refine⟨oD,?_⟩|exact oD|fail
 all_goals simp_all
theorem num_take_succ {a:Bytes} {i:Nat} (h:i<a.length):num (a.take (i+1))=num (a.take i)*256+(a.getD i 0).toNat:=by
 rw[List.take_succ_eq_append_getElem h,num_snoc];simp[List.getD_eq_getElem?_getD,h]
theorem Small_ok (a:Bytes):EvP Tryz.prog 201 [.s a] (.tup [.i .u64 (if validN a&&decide (a.length≤8)then num a else 0), .b (validN a&&decide (a.length≤8))]):=by
 refine eW Tryz.call201 Tryz.func201 ?_;repeat' first|simp only[go_sem,seval]|refine cP (natValid _) ?_|refine sB ?_|(first|apply pX|apply bX)<;>intro hc|refine⟨oD,?_⟩|exact oD|fail
 rotate_right
 ·simp_all
 ·have: ¬a.length≤8:=by omega
  simp[this]
 ·have h8:a.length≤8:=by omega
  refine loop_run (α:=Nat) (fun i=>a.length-i) (fun i=>⟨[(0, .v (.s a)),(4, .v (.i .u64 (num (a.take i)))),(15, .v (.i .i64 a.length)),(16, .v (.i .i64 i))],[],1014⟩) (fun i=>i≤a.length) 0 (fun _=>Nat.le_refl _) (Nat.zero_le _) ?_ ?_
  ·(refine AS.Le.of (by first|decide|omega) ?_ ?_<;>simp[LeT,LeH,tget,hget,AV.bd,AV.bd.bdL,u8,bd_cellsOf,bcells_bd,icells_bd]);rfl
  ·intro i hi R hR
   by_cases hlt:i<a.length
   ·repeat' first|simp only[go_sem,seval]|refine sB ?_|(first|apply pX|apply bX)<;>intro hc|refine⟨oD,?_⟩|exact oD|fail
    refine hR (i+1) (by omega) (by omega) _ ?_
    have h1:=num_take_succ hlt;have h2:num (a.take i)<72057594037927936:=by
     refine Nat.lt_of_lt_of_le (num_lt _) (Nat.le_trans (Nat.pow_le_pow_right (by decide) (?_: _≤7)) (by decide))
     simp;omega
    have h3:=(a.getD i 0).toNat_lt;rw[show((num (a.take i):Int)*256)=((num (a.take i)*256:Nat):Int) by simp]
    rw[IntWalk.u64_in _ (by omega),IntWalk.u64_in _ (by omega),iOrN .u64 rfl (by show _<18446744073709551616;omega) (by show _<18446744073709551616;omega),orAdd (k:=8) (by omega)]
    (refine AS.Le.of (by first|decide|omega) ?_ ?_<;>simp[LeT,LeH,tget,hget,AV.bd,AV.bd.bdL,u8,bd_cellsOf,bcells_bd,icells_bd])
    rw[h1];simp
   ·repeat' first|simp only[go_sem,seval]|refine sB ?_|(first|apply pX|apply bX)<;>intro hc|refine⟨oD,?_⟩|exact oD|fail
    rw[List.take_of_length_le (by omega)]
    simp[*]
theorem len8_fin: ∀x:Fin 256,([0,1,2,2,3,3,3,3,4,4,4,4,4,4,4,4,5,5,5,5,5,5,5,5,5,5,5,5,5,5,5,5,6,6,6,6,6,6,6,6,6,6,6,6,6,6,6,6,6,6,6,6,6,6,6,6,6,6,6,6,6,6,6,6,7,7,7,7,7,7,7,7,7,7,7,7,7,7,7,7,7,7,7,7,7,7,7,7,7,7,7,7,7,7,7,7,7,7,7,7,7,7,7,7,7,7,7,7,7,7,7,7,7,7,7,7,7,7,7,7,7,7,7,7,7,7,7,7,8,8,8,8,8,8,8,8,8,8,8,8,8,8,8,8,8,8,8,8,8,8,8,8,8,8,8,8,8,8,8,8,8,8,8,8,8,8,8,8,8,8,8,8,8,8,8,8,8,8,8,8,8,8,8,8,8,8,8,8,8,8,8,8,8,8,8,8,8,8,8,8,8,8,8,8,8,8,8,8,8,8,8,8,8,8,8,8,8,8,8,8,8,8,8,8,8,8,8,8,8,8,8,8,8,8,8,8,8,8,8,8,8,8,8,8,8,8,8,8,8,8,8,8,8,8,8,8]:Bytes).getD x.val 0=UInt8.ofNat (Lib.bitLen x.val):=by decide+kernel
theorem len8_tab {x:Nat} (h:x<256):([0,1,2,2,3,3,3,3,4,4,4,4,4,4,4,4,5,5,5,5,5,5,5,5,5,5,5,5,5,5,5,5,6,6,6,6,6,6,6,6,6,6,6,6,6,6,6,6,6,6,6,6,6,6,6,6,6,6,6,6,6,6,6,6,7,7,7,7,7,7,7,7,7,7,7,7,7,7,7,7,7,7,7,7,7,7,7,7,7,7,7,7,7,7,7,7,7,7,7,7,7,7,7,7,7,7,7,7,7,7,7,7,7,7,7,7,7,7,7,7,7,7,7,7,7,7,7,7,8,8,8,8,8,8,8,8,8,8,8,8,8,8,8,8,8,8,8,8,8,8,8,8,8,8,8,8,8,8,8,8,8,8,8,8,8,8,8,8,8,8,8,8,8,8,8,8,8,8,8,8,8,8,8,8,8,8,8,8,8,8,8,8,8,8,8,8,8,8,8,8,8,8,8,8,8,8,8,8,8,8,8,8,8,8,8,8,8,8,8,8,8,8,8,8,8,8,8,8,8,8,8,8,8,8,8,8,8,8,8,8,8,8,8,8,8,8,8,8,8,8,8,8,8,8,8,8]:Bytes).getD x 0=UInt8.ofNat (Lib.bitLen x):=len8_fin ⟨x,h⟩
theorem bitLen_lt256 {x:Nat} (h:x<256):Lib.bitLen x≤8:=Lib.bitLen_le x 8 (by decide) (by omega)
theorem len8_int {x:Nat} (h:x<256):(((UInt8.ofNat (Lib.bitLen x)).toNat:Nat):Int)=(Lib.bitLen x:Int):=by
 have:=bitLen_lt256 h;rw[UInt8.toNat_ofNat'];omega
theorem Len8_ok (x:Nat) (h:x<256):EvP Tryz.prog 334 [.i .u8 x] (E (Lib.bitLen x)):=by
 refine eW Tryz.call334 Tryz.func334 ?_;repeat' first|simp only[go_sem,seval]|refine sB ?_|(first|apply pX|apply bX)<;>intro hc|refine⟨oD,?_⟩|exact oD|fail
 rw[len8_tab h,len8_int h];have:=bitLen_lt256 h;rw[IntWalk.i64_in _ (by omega)]
theorem len_end {x y k:Nat} (hy:y<256) (hk:k≤56) (h:Lib.bitLen x=k+Lib.bitLen y) {T:Bytes} (hT: ∀x,x<256→T.getD x 0=UInt8.ofNat (Lib.bitLen x)):
  (0≤IntKind.u8.wrap (y:Int)∧IntKind.u8.wrap (y:Int)<256)∧PV.i IntKind.i64 (IntKind.i64.wrap ((k:Int)+IntKind.i64.wrap ((T.getD (IntKind.u8.wrap (y:Int)).toNat 0).toNat:Int)))=E (Lib.bitLen x):=by
 have h8:=bitLen_lt256 hy;rw[wu8b hy,Int.toNat_natCast,hT y hy,len8_int hy,IntWalk.i64_in (Lib.bitLen y:Int) (by omega),IntWalk.i64_in _ (by omega),h]
 refine⟨by omega,?_⟩
 simp
theorem Len64_ok (x:Nat) (h:x<18446744073709551616):EvP Tryz.prog 464 [.i .u64 x] (E (Lib.bitLen x)):=by
 have g8:=Lib.bitLen_shift8;have g16:=Lib.bitLen_shift16;have g32:=Lib.bitLen_shift32;refine eW Tryz.call464 Tryz.func464 ?_;repeat' first|simp only[go_sem,seval]|refine sB ?_|(first|apply pX|apply bX)<;>intro hc|refine⟨oD,?_⟩|exact oD|fail
 ·refine len_end (k:=56) (by omega) (by decide) ?_ fun _=>len8_tab
  rw[g32 x (by omega) (by omega),g16 _ (by omega) (by omega),g8 _ (by omega) (by omega)];omega
 ·refine len_end (k:=48) (by omega) (by decide) ?_ fun _=>len8_tab
  rw[g32 x (by omega) (by omega),g16 _ (by omega) (by omega)];omega
 ·refine len_end (k:=40) (by omega) (by decide) ?_ fun _=>len8_tab
  rw[g32 x (by omega) (by omega),g8 _ (by omega) (by omega)];omega
 ·refine len_end (k:=32) (by omega) (by decide) ?_ fun _=>len8_tab
  rw[g32 x (by omega) (by omega)]
 ·refine len_end (k:=24) (by omega) (by decide) ?_ fun _=>len8_tab
  rw[g16 x (by omega) (by omega),g8 _ (by omega) (by omega)];omega
 ·refine len_end (k:=16) (by omega) (by decide) ?_ fun _=>len8_tab
  rw[g16 x (by omega) (by omega)]
 ·refine len_end (k:=8) (by omega) (by decide) ?_ fun _=>len8_tab
  rw[g8 x (by omega) (by omega)]
 ·refine len_end (k:=0) (by omega) (by decide) ?_ fun _=>len8_tab
  omega
theorem LeadingZeros64_ok (x:Nat) (h:x<18446744073709551616):EvP Tryz.prog 443 [.i .u64 x] (E ((64-Lib.bitLen x:Nat):Int)):=by
 have h1:=Lib.bitLen_le x 64 (by decide) h
 refine eW Tryz.call443 Tryz.func443 ?_;repeat' first|simp only[go_sem,seval]|refine cP (Len64_ok x h) ?_|refine sB ?_|(first|apply pX|apply bX)<;>intro hc|refine⟨oD,?_⟩|exact oD|fail
 congr 1;omega
theorem Mul64_ok (x y:Nat) (hx:x<18446744073709551616) (hy:y<18446744073709551616):EvP Tryz.prog 202 [.i .u64 x, .i .u64 y] (.tup [.i .u64 (x*y/18446744073709551616:Nat), .i .u64 (x*y%18446744073709551616:Nat)]):=by
 obtain⟨h1,h2,h3,h4⟩:=Lib.mul64_hi x y hx hy;refine eW Tryz.call202 Tryz.func202 ?_;simp only[go_sem,seval,uw,mulU,mulUL,mulLU,shlU,addU,addUL,subU,subUL,subLU,andM32];have hb:=Lib.half_mul_le (a:=x/4294967296) (b:=y%4294967296) (by omega) (by omega)
 have ha:=Lib.half_mul_le (a:=x/4294967296) (b:=y/4294967296) (by omega) (by omega)
 have hc:=Lib.half_mul_le (a:=x%4294967296) (b:=y/4294967296) (by omega) (by omega)
 rw[←h4];generalize x/4294967296*(y%4294967296)=b at*;generalize x/4294967296*(y/4294967296)=a at*;generalize x%4294967296*(y/4294967296)=c at*;generalize x%4294967296*(y%4294967296)=d at*;congr 4;omega
end Go.Proofs.YtmledjfbgjnknaaGreatDoor
namespace Go.Proofs.YtmledjfbgjnknaaGreatDoor
open Go Go.Dom
set_option maxRecDepth 100000
set_option maxHeartbeats 16000000
def decN (n:Nat):Bytes:=if n<10 then[UInt8.ofNat (48+n)]else[UInt8.ofNat (48+n/10),UInt8.ofNat (48+n%10)]
theorem decN_len (n:Nat):(decN n).length≤2:=by unfold decN;split<;>simp
theorem decB: ∀n:Fin 10,List.drop n.val (List.take (n.val+1) ([48,49,50,51,52,53,54,55,56,57,97,98,99,100,101,102,103,104,105,106,107,108,109,110,111,112,113,114,115,116,117,118,119,120,121,122]:Bytes))=decN n.val:=by decide+kernel
def tab2:Bytes:=(List.range 100).flatMap fun n=>[UInt8.ofNat (48+n/10),UInt8.ofNat (48+n%10)]
theorem decC: ∀n:Fin 100,10≤n.val→List.drop (n.val*2) (List.take (n.val*2+2) tab2)=decN n.val:=by decide+kernel
theorem small_ok (n:Nat) (hn:n<100):EvP Tryz.prog 447 [.i .i64 (n:Int)] (.s (decN n)):=by
 by_cases h:n<10
 ·have hb:=decB ⟨n,h⟩;have t1: ∀ _:True,((n:Int)+1).toNat=n+1:=fun _=>by omega
  have d1: ∀ _:True,((n:Int)<10)=True:=fun _=>by simp;omega
  refine eW Tryz.call447 Tryz.func447 ?_;repeat' first|simp only[go_sem,seval,t1 trivial]|refine sB ?_|(first|apply pX|apply bX)<;>intro hc|refine⟨oD,?_⟩|exact oD|fail
  all_goals first|omega|exact congrArg PV.s hb|skip
 ·have hb:=decC ⟨n,hn⟩ (by simpa using h)
  have t1: ∀ _:True,((n:Int)*2+2).toNat=n*2+2:=fun _=>by omega
  have t2: ∀ _:True,((n:Int)*2).toNat=n*2:=fun _=>by omega
  refine eW Tryz.call447 Tryz.func447 ?_;repeat' first|simp only[go_sem,seval,t1 trivial,t2 trivial]|refine sB ?_|(first|apply pX|apply bX)<;>intro hc|refine⟨oD,?_⟩|exact oD|fail
  all_goals first|omega|exact congrArg PV.s hb|skip
theorem Itoa_ok (n:Nat) (hn:n<100):EvP Tryz.prog 240 [.i .i64 (n:Int)] (.s (decN n)):=by
 have h:=small_ok n hn;have hF:EvP Tryz.prog 421 [.i .i64 (n:Int), .i .i64 10] (.s (decN n)):=by
  refine eW Tryz.call421 Tryz.func421 ?_;repeat' first|simp only[go_sem,seval]|refine cP h ?_|refine sB ?_|(first|apply pX|apply bX)<;>intro hc|refine⟨oD,?_⟩|exact oD|fail
 have hI:EvP Tryz.prog 353 [.i .i64 (n:Int)] (.s (decN n)):=by
  refine eW Tryz.call353 Tryz.func353 ?_;repeat' first|simp only[go_sem,seval]|refine cP hF ?_|refine sB ?_|(first|apply pX|apply bX)<;>intro hc|refine⟨oD,?_⟩|exact oD|fail
 refine eW Tryz.call240 Tryz.func240 ?_;repeat' first|simp only[go_sem,seval]|refine cP hI ?_|refine sB ?_|(first|apply pX|apply bX)<;>intro hc|refine⟨oD,?_⟩|exact oD|fail
end Go.Proofs.YtmledjfbgjnknaaGreatDoor
