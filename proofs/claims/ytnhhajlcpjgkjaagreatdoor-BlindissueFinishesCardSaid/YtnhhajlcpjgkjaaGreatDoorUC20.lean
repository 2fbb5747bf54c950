/- Part of the proof. -/
import Derived.Test.YtnhhajlcpjgkjaaGreatDoorChecked
import Derived.KernelRfl
import Derived.Test.YtnhhajlcpjgkjaaGreatDoorUC18
import Derived.Lib.Bytealg
import Derived.Lib.Mul64
import Derived.Lib.TrailingZeros
import Derived.Test.YtnhhajlcpjgkjaaGreatDoorUC19
set_option linter.all false
set_option maxHeartbeats 4000000
set_option maxRecDepth 100000
namespace Go.Proofs.Tryz
open Go Go.Dom
variable {x:Nat}
theorem mixed:prog.follows .mixedOrders=true:=by kernel_rfl
def mX:List Int:=[0,1,28,2,29,14,24,3,30,22,20,15,25,17,4,8,31,27,13,23,21,19,16,7,26,12,18,6,11,5,10,9]
def mY:List Int:=[0,1,56,2,57,49,28,3,61,58,42,50,38,29,17,4,62,47,59,36,45,43,51,22,53,39,33,30,24,18,12,5,63,55,48,27,60,41,37,16,46,35,44,21,52,32,23,11,54,26,40,15,34,20,31,10,25,14,19,9,13,8,7,6]
def pg:List Int:=[1,10,100,1000,10000,100000,1000000,10000000,100000000,1000000000,10000000000,100000000000,1000000000000,10000000000000,100000000000000,1000000000000000,10000000000000000,100000000000000000,1000000000000000000,10000000000000000000]
instance aaU:cE prog:=⟨[(5,mX.map fun n=>(.u8,n)),(1,mY.map fun n=>(.u8,n)),(4,pg.map fun n=>(.u64,n))],[(94,[0,1]),(62,[1,1,1]),(52,[1,1])],by
 intro q hq;simp only[cd,il,or_false]at hq;rcases hq with rfl|rfl|rfl<;>kernel_rfl⟩
noncomputable def ty0:{l:List (Option TypeInfo)//(List.range' 0 16).map prog.info?=l}:=⟨_,by conv=>lhs;reduce⟩
noncomputable def ty1:{l:List (Option TypeInfo)//(List.range' 16 16).map prog.info?=l}:=⟨_,by conv=>lhs;reduce⟩
noncomputable def ty2:{l:List (Option TypeInfo)//(List.range' 32 16).map prog.info?=l}:=⟨_,by conv=>lhs;reduce⟩
noncomputable def ty3:{l:List (Option TypeInfo)//(List.range' 48 16).map prog.info?=l}:=⟨_,by conv=>lhs;reduce⟩
noncomputable def ty4:{l:List (Option TypeInfo)//(List.range' 64 16).map prog.info?=l}:=⟨_,by conv=>lhs;reduce⟩
noncomputable def ty5:{l:List (Option TypeInfo)//(List.range' 80 16).map prog.info?=l}:=⟨_,by conv=>lhs;reduce⟩
noncomputable def ty6:{l:List (Option TypeInfo)//(List.range' 96 16).map prog.info?=l}:=⟨_,by conv=>lhs;reduce⟩
noncomputable def ty7:{l:List (Option TypeInfo)//(List.range' 112 16).map prog.info?=l}:=⟨_,by conv=>lhs;reduce⟩
noncomputable def ty8:{l:List (Option TypeInfo)//(List.range' 128 16).map prog.info?=l}:=⟨_,by conv=>lhs;reduce⟩
noncomputable def ty9:{l:List (Option TypeInfo)//(List.range' 144 16).map prog.info?=l}:=⟨_,by conv=>lhs;reduce⟩
noncomputable def X1:{l:List (Option TypeInfo)//(List.range' 160 16).map prog.info?=l}:=⟨_,by conv=>lhs;reduce⟩
noncomputable def X2:{l:List (Option TypeInfo)//(List.range' 176 16).map prog.info?=l}:=⟨_,by conv=>lhs;reduce⟩
noncomputable def X3:{l:List (Option TypeInfo)//(List.range' 192 16).map prog.info?=l}:=⟨_,by conv=>lhs;reduce⟩
noncomputable def X4:{l:List (Option TypeInfo)//(List.range' 208 16).map prog.info?=l}:=⟨_,by conv=>lhs;reduce⟩
noncomputable def X5:{l:List (Option TypeInfo)//(List.range' 224 16).map prog.info?=l}:=⟨_,by conv=>lhs;reduce⟩
noncomputable def X6:{l:List (Option TypeInfo)//(List.range' 240 16).map prog.info?=l}:=⟨_,by conv=>lhs;reduce⟩
noncomputable def X7:{l:List (Option TypeInfo)//(List.range' 256 16).map prog.info?=l}:=⟨_,by conv=>lhs;reduce⟩
noncomputable def X8:{l:List (Option TypeInfo)//(List.range' 272 16).map prog.info?=l}:=⟨_,by conv=>lhs;reduce⟩
noncomputable def X9:{l:List (Option TypeInfo)//(List.range' 288 16).map prog.info?=l}:=⟨_,by conv=>lhs;reduce⟩
noncomputable def Ya:{l:List (Option TypeInfo)//(List.range' 304 16).map prog.info?=l}:=⟨_,by conv=>lhs;reduce⟩
noncomputable def Yb:{l:List (Option TypeInfo)//(List.range' 320 16).map prog.info?=l}:=⟨_,by conv=>lhs;reduce⟩
noncomputable def Yc:{l:List (Option TypeInfo)//(List.range' 336 16).map prog.info?=l}:=⟨_,by conv=>lhs;reduce⟩
noncomputable def Yd:{l:List (Option TypeInfo)//(List.range' 352 16).map prog.info?=l}:=⟨_,by conv=>lhs;reduce⟩
noncomputable def Ye:{l:List (Option TypeInfo)//(List.range' 368 16).map prog.info?=l}:=⟨_,by conv=>lhs;reduce⟩
noncomputable def Yf:{l:List (Option TypeInfo)//(List.range' 384 16).map prog.info?=l}:=⟨_,by conv=>lhs;reduce⟩
noncomputable def Yg:{l:List (Option TypeInfo)//(List.range' 400 16).map prog.info?=l}:=⟨_,by conv=>lhs;reduce⟩
noncomputable def Yh:{l:List (Option TypeInfo)//(List.range' 416 16).map prog.info?=l}:=⟨_,by conv=>lhs;reduce⟩
noncomputable def Yi:{l:List (Option TypeInfo)//(List.range' 432 16).map prog.info?=l}:=⟨_,by conv=>lhs;reduce⟩
noncomputable def Yj:{l:List (Option TypeInfo)//(List.range' 448 16).map prog.info?=l}:=⟨_,by conv=>lhs;reduce⟩
noncomputable def Yk:{l:List (Option TypeInfo)//(List.range' 464 16).map prog.info?=l}:=⟨_,by conv=>lhs;reduce⟩
noncomputable def Yl:{l:List (Option TypeInfo)//(List.range' 480 16).map prog.info?=l}:=⟨_,by conv=>lhs;reduce⟩
noncomputable def Ym:{l:List (Option TypeInfo)//(List.range' 496 16).map prog.info?=l}:=⟨_,by conv=>lhs;reduce⟩
noncomputable def Yn:{l:List (Option TypeInfo)//(List.range' 512 16).map prog.info?=l}:=⟨_,by conv=>lhs;reduce⟩
noncomputable def Yo:{l:List (Option TypeInfo)//(List.range' 528 5).map prog.info?=l}:=⟨_,by conv=>lhs;reduce⟩
noncomputable def VQ (t:Nat):Option TypeInfo:=if t<533 then(if t<272 then if t<128 then if t<64 then if t<32 then if t<16 then ty0.1.getD (t-0) none else ty1.1.getD (t-16) none else if t<48 then ty2.1.getD (t-32) none else ty3.1.getD (t-48) none else if t<96 then if t<80 then ty4.1.getD (t-64) none else ty5.1.getD (t-80) none else if t<112 then ty6.1.getD (t-96) none else ty7.1.getD (t-112) none else if t<192 then if t<160 then if t<144 then ty8.1.getD (t-128) none else ty9.1.getD (t-144) none else if t<176 then X1.1.getD (t-160) none else X2.1.getD (t-176) none else if t<224 then if t<208 then X3.1.getD (t-192) none else X4.1.getD (t-208) none else if t<240 then X5.1.getD (t-224) none else if t<256 then X6.1.getD (t-240) none else X7.1.getD (t-256) none else if t<400 then if t<336 then if t<304 then if t<288 then X8.1.getD (t-272) none else X9.1.getD (t-288) none else if t<320 then Ya.1.getD (t-304) none else Yb.1.getD (t-320) none else if t<368 then if t<352 then Yc.1.getD (t-336) none else Yd.1.getD (t-352) none else if t<384 then Ye.1.getD (t-368) none else Yf.1.getD (t-384) none else if t<464 then if t<432 then if t<416 then Yg.1.getD (t-400) none else Yh.1.getD (t-416) none else if t<448 then Yi.1.getD (t-432) none else Yj.1.getD (t-448) none else if t<496 then if t<480 then Yk.1.getD (t-464) none else Yl.1.getD (t-480) none else if t<512 then Ym.1.getD (t-496) none else if t<528 then Yn.1.getD (t-512) none else Yo.1.getD (t-528) none)else prog.info? t
theorem tyE:VQ=prog.info?:=by
 funext t;unfold VQ
 repeat' split
 ·exact bT ty0.2 (by omega) (by omega)
 ·exact bT ty1.2 (by omega) (by omega)
 ·exact bT ty2.2 (by omega) (by omega)
 ·exact bT ty3.2 (by omega) (by omega)
 ·exact bT ty4.2 (by omega) (by omega)
 ·exact bT ty5.2 (by omega) (by omega)
 ·exact bT ty6.2 (by omega) (by omega)
 ·exact bT ty7.2 (by omega) (by omega)
 ·exact bT ty8.2 (by omega) (by omega)
 ·exact bT ty9.2 (by omega) (by omega)
 ·exact bT X1.2 (by omega) (by omega)
 ·exact bT X2.2 (by omega) (by omega)
 ·exact bT X3.2 (by omega) (by omega)
 ·exact bT X4.2 (by omega) (by omega)
 ·exact bT X5.2 (by omega) (by omega)
 ·exact bT X6.2 (by omega) (by omega)
 ·exact bT X7.2 (by omega) (by omega)
 ·exact bT X8.2 (by omega) (by omega)
 ·exact bT X9.2 (by omega) (by omega)
 ·exact bT Ya.2 (by omega) (by omega)
 ·exact bT Yb.2 (by omega) (by omega)
 ·exact bT Yc.2 (by omega) (by omega)
 ·exact bT Yd.2 (by omega) (by omega)
 ·exact bT Ye.2 (by omega) (by omega)
 ·exact bT Yf.2 (by omega) (by omega)
 ·exact bT Yg.2 (by omega) (by omega)
 ·exact bT Yh.2 (by omega) (by omega)
 ·exact bT Yi.2 (by omega) (by omega)
 ·exact bT Yj.2 (by omega) (by omega)
 ·exact bT Yk.2 (by omega) (by omega)
 ·exact bT Yl.2 (by omega) (by omega)
 ·exact bT Ym.2 (by omega) (by omega)
 ·exact bT Yn.2 (by omega) (by omega)
 ·exact bT Yo.2 (by omega) (by omega)
 ·rfl
theorem jJ:(∀nt c sc,jI prog VQ nt c=some sc->comp prog nt c=some sc)/\ ∀l rs,xL VQ l=some rs->gD prog l=some rs:=by
 rw[tyE,LG,DL];exact⟨fun _ _ _ h=>h,fun _ _ h=>h⟩
abbrev aE (f:FuncId) (a:List PV) (r:PV):Prop:=p9 prog f a r
theorem eW {f:FuncId} {fn:Func} {sc:SC} {rs:List pB} (hent:Enters prog f f) (hfn:prog.funcs[f]?=some fn) {args:List PV} {r:PV} (h:CW prog (IS rs r) sc [] ⟨TJ 0 args,[],1000⟩) (hb:fn.body.isSome=true:=by exact rfl) (hc:jI prog VQ fn.ntmps (fn.body.getD .skip)=some sc:=by cbv) (hr:xL VQ fn.results.toList=some rs:=by cbv) (hlen:Nat.ble args.length fn.ntmps=true:=by exact rfl):p9 prog f args r:=p9.w mixed hent hfn hb (jJ.1 _ _ _ hc) (jJ.2 _ _ hr) hlen h
theorem u8z {c:UInt8} (h:(c.toNat:Int)=0):c=0:=jB.1 (by simpa using h)
theorem ZW {c:UInt8} (h:(c.toNat:Int)≠0):c≠0:=fun e=>by subst e;simp at h
abbrev E (n:Int):PV:= .i .i64 n
theorem PQ {l:Bytes} (h:x<l.length):(l.map u8).getD x .fn0=u8 (l.getD x 0):=by
 simp[ca,h]
theorem Po (c:UInt8):(u8 c).byte=c:=by simp[u8,PV.byte]
theorem xC (l:Bytes):(l.map u8).map PV.byte=l:=by induction l<;>simp_all[Po]
theorem uk {l:Bytes} {y:PV} (h:y∈l.map u8):y.isByte:=by
 obtain⟨c,_,rfl⟩:=cv.1 h;trivial
theorem xF {l:Bytes} {y:PV} (h:y∈l.map u8):y.cells.length=1:=by
 obtain⟨c,_,rfl⟩:=cv.1 h;rfl
theorem uR (a:Bytes):aa a=(decide ((a.length:Int)<=128)&&(((a.length:Int)==0)||(((a.getD 0 0).toNat:Int) !=0))):=by
 unfold aa;have h1:decide ((a.length:Int)<=128)=decide (a.length<=128):=by simp;omega
 have h2:((a.length:Int)==0)=(a.length==0):=by rw[dk];simp only[fV];omega
 have h3:(((a.getD 0 0).toNat:Int) !=0)=(a.headD 0 !=0):=by
  cases a with
  |nil=>rfl
  |cons x r=>
   have:x.toNat=0↔x=0:=by
    constructor
    ·intro h;exact jB.1 h
    ·intro h;subst h;rfl
   rw[dk];simp[this]
 rw[h1,h2,h3]
theorem aG (a:Bytes):aE 32 [.s a] (.b (aa a)):=by
 rw[uR];refine eW call32 func32 ?_;repeat' first|simp only[go_sem,seval]|refine oE ?_|apply xX<;>intro hc
 all_goals simp_all
 all_goals omega
theorem jW (l:Bytes):aE 135 [.sl (l.map u8)] (.s (fB l)):=by
 refine eW call135 func135 ?_;simp only[go_sem,seval];refine ak (α:=Bytes) List.length (fun x=>⟨[(0, .v (.sl (x.map u8)))],[],_⟩) (fun x=>fB x=fB l) l (fun _=>aD _) rfl ?_ ?_
 ·refine AS.Le.of (aD _) ⟨rfl,rfl,trivial⟩ trivial
 ·intro x hx R hR
  cases x with
  |nil=>
   refine vP ?_;rw[<-hx];rfl
  |cons c r=>
   repeat' first|simp only[go_sem,seval]|refine oE ?_|apply xX<;>intro hc
   ·refine⟨⟨oO,fun x hx=>xF hx⟩,hR r ?_ (wD _) _ (AS.Le.of oC ⟨rfl,rfl,trivial⟩ trivial)⟩
    rw[<-hx,fB,ah (u8z hc)]
   ·refine⟨fun y hy=>uk hy,?_⟩
    rw[<-hx,fB,af (ZW hc)];rw[xC]
theorem rv (a:Bytes):aE 134 [.s a] (.tup [.s (if a.length<=128 then a else[]),E (if a.length<=128 then 0 else 5)]):=by
 refine eW call134 func134 ?_;repeat' first|simp only[go_sem,seval]|refine oE ?_|apply xX<;>intro hc
 ·have h: ¬a.length<=128:=oO;simp[h]
 ·have h:a.length<=128:=oO;simp[h]
theorem kJ (a:Bytes) (i:Nat) (ha:a.length<4611686018427387904):aE 133 [.s a,E i] (E ((num a/256^i%256:Nat):Int)):=by
 refine eW call133 func133 ?_;repeat' first|simp only[go_sem,seval]|refine oE ?_|apply xX<;>intro hc
 ·rw[rE a oO];rfl
 ·have h:=ux a (i:=i) oO;rw[<-h,show((a.length:Int)-1-(i:Int)).toNat=a.length-1-i by omega]
  have:=(a.getD (a.length-1-i) 0).toNat_lt;rw[IntWalk.i64_in _ oO]
theorem Mk (x:Int):aE 297 [E x] (.b false):=by
 refine eW call297 func297 ?_;simp only[go_sem,seval];simp
theorem Je (x y:Int):aE 176 [E x,E y] (E (if x<y then-1 else if y<x then 1 else 0)):=by
 refine eW call176 func176 ?_;repeat' first|simp only[go_sem,seval]|refine cP (Mk _) ?_|refine oE ?_|apply xX<;>intro hc
 all_goals (simp_all<;>omega)
theorem Jf (a b:Bytes):Y2 prog 409 [.s a, .s b] (E (Lib.compareBytes a b)):=by
 intro rd vs w hv;obtain⟨x,us,rfl,hx,hv⟩:=hv.fx;obtain⟨y,us,rfl,hy,hv⟩:=hv.fx;obtain rfl:=hv.dL
 cases hx;cases hy
 have h1:(Tryz.f409.name== "runtime.NumGoroutine")=false:=by kernel_rfl
 have h2:Tryz.f409.body.isNone=true:=by kernel_rfl
 have h3:(Extern.findNext Tryz.f409).isNone=true:=by kernel_rfl
 have h4:Extern.find Tryz.f409=some Extern.BytealgCompare.compare:=by kernel_rfl
 have h3':Extern.findNext Tryz.f409=none:=by simpa using h3
 refine⟨.int .i64 (Lib.compareBytes a b),?_, .i _ _⟩;simp only[callFunc,bu,run_program,Result.andThen,func409,h1,h2,h3',h4,az,bO,ar];have:=Lib.run_compareString (P:=prog) ⟨a.toArray⟩ ⟨b.toArray⟩ w;simp only[List.toList_toArray]at this;simp[this]
theorem zJ (a b:Bytes):aE 298 [.s a, .s b] (E (Lib.compareBytes a b)):=by
 refine eW call298 func298 ?_;repeat' first|simp only[go_sem,seval]|(refine So (Jf _ _) rfl ?_)|refine oE ?_|apply xX<;>intro hc
theorem zU (a b:Bytes):aE 177 [.s a, .s b] (E (Lib.compareBytes a b)):=by
 refine eW call177 func177 ?_;repeat' first|simp only[go_sem,seval]|refine cP (zJ _ _) ?_|refine oE ?_|apply xX<;>intro hc
def aZ (a b:Nat):Int:=if a<b then-1 else if b<a then 1 else 0
theorem jL: ∀{a b:Bytes},a.length=b.length->Lib.compareBytes a b=aZ (num a) (num b)
 |[],[],_=>rfl
 |x::r,y::s,h=>by
  have hl:r.length=s.length:=by simpa using h
  have ih:=jL hl;have h1:=vk x y hl;have h2:=vk y x hl.symm;have e1:x<y↔x.toNat<y.toNat:=wL;have e2:y<x↔y.toNat<x.toNat:=wL;simp only[Lib.compareBytes,aZ,h1,h2,e1,e2,ih];rcases CK x.toNat y.toNat with h|h|h
  ·simp[h]
  ·have:x=y:=jB.1 h;subst this;simp
  ·have hne: ¬x=y:=fun e=>by subst e;omega
   simp[h,Nat.lt_asymm h,hne]
theorem oe {a b:Bytes} (ha:Canon a) (hb:Canon b):aE 89 [.s a, .s b] (E (aZ (num a) (num b))):=by
 refine eW call89 func89 ?_;repeat' first|simp only[go_sem,seval]|refine cP (Je _ _) ?_|refine cP (zU _ _) ?_|refine oE ?_|apply xX<;>intro hc
 ·congr 1;refine jL ?_
  split at hc
  ·simp at hc
  ·split at hc
   ·simp at hc
   ·omega
 ·congr 1;unfold aZ
  split at hc
  ·have:=ix (a:=a) hb oO;simp_all
  ·split at hc
   ·have:=ix (a:=b) ha oO;rename_i g1 g2;rw[af g1,ah g2,af oO,ah oO]
   ·simp at hc
theorem lV (a b:Bytes):aE 36 [.s a, .s b] (E (if aa a&&aa b then aZ (num a) (num b)else 0)):=by
 refine eW call36 func36 ?_;repeat' first|simp only[go_sem,seval]|refine cP (aG _) ?_|(refine gp (oe (bG (by assumption)) (bG (by assumption))) rfl ?_)|refine oE ?_|apply xX<;>intro hc
 all_goals simp_all
theorem kx {a:Bytes} {i:Nat} (h:i<a.length):num (a.take (i+1))=num (a.take i)*256+(a.getD i 0).toNat:=by
 rw[IH h,yt];simp[ca,h]
theorem nG (a:Bytes):aE 294 [.s a] (.tup [.i .u64 (if aa a&&decide (a.length<=8)then num a else 0), .b (aa a&&decide (a.length<=8))]):=by
 refine eW call294 func294 ?_;repeat' first|simp only[go_sem,seval]|refine cP (aG _) ?_|refine oE ?_|apply xX<;>intro hc
 rotate_right
 ·simp_all
 ·have: ¬a.length<=8:=oO;simp[this]
 ·have h8:a.length<=8:=oO;refine ak (α:=Nat) (fun i=>a.length-i) (fun i=>⟨[(0, .v (.s a)),(4, .v (.i .u64 (num (a.take i)))),(15, .v (.i .i64 a.length)),(16, .v (.i .i64 i))],[],1014⟩) (fun i=>i<=a.length) 0 (fun _=>aD _) (aR _) ?_ ?_
  ·(refine AS.Le.of (by first|decide|omega) ?_ ?_<;>simp[dA,dz,aS,aB,AV.bd,AV.bd.bdL,u8,aq,au,aA]);rfl
  ·intro i hi R hR
   by_cases hlt:i<a.length
   ·refine vP ?_;refine hR (i+1) oO oO _ ?_;have h1:=kx hlt;have h2:num (a.take i)<72057594037927936:=by
     refine b9 (ct _) (fQ (cM oC (?_: _<=7)) oC);simp;omega
    have h3:=(a.getD i 0).toNat_lt;rw[show((num (a.take i):Int)*256)=((num (a.take i)*256:Nat):Int) by simp]
    rw[IntWalk.u64_in _ oO,IntWalk.u64_in _ oO,TQ .u64 rfl (by show _<18446744073709551616;omega) (by show _<18446744073709551616;omega),Er (k:=8) oO]
    (refine AS.Le.of (by first|decide|omega) ?_ ?_<;>simp[dA,dz,aS,aB,AV.bd,AV.bd.bdL,u8,aq,au,aA])
    rw[h1];simp
   ·refine vP ?_;rw[c9 oO];simp[*]
theorem jn (h:x<256):([0,1,2,2,3,3,3,3,4,4,4,4,4,4,4,4,5,5,5,5,5,5,5,5,5,5,5,5,5,5,5,5,6,6,6,6,6,6,6,6,6,6,6,6,6,6,6,6,6,6,6,6,6,6,6,6,6,6,6,6,6,6,6,6,7,7,7,7,7,7,7,7,7,7,7,7,7,7,7,7,7,7,7,7,7,7,7,7,7,7,7,7,7,7,7,7,7,7,7,7,7,7,7,7,7,7,7,7,7,7,7,7,7,7,7,7,7,7,7,7,7,7,7,7,7,7,7,7,8,8,8,8,8,8,8,8,8,8,8,8,8,8,8,8,8,8,8,8,8,8,8,8,8,8,8,8,8,8,8,8,8,8,8,8,8,8,8,8,8,8,8,8,8,8,8,8,8,8,8,8,8,8,8,8,8,8,8,8,8,8,8,8,8,8,8,8,8,8,8,8,8,8,8,8,8,8,8,8,8,8,8,8,8,8,8,8,8,8,8,8,8,8,8,8,8,8,8,8,8,8,8,8,8,8,8,8,8,8,8,8,8,8,8,8,8,8,8,8,8,8,8,8,8,8,8,8]:Bytes).getD x 0=UInt8.ofNat (Lib.bitLen x):=by
 revert x;decide+kernel
theorem ji (h:x<256):Lib.bitLen x<=8:=Lib.bitLen_le x 8 oC oO
theorem len8_int (h:x<256):(((UInt8.ofNat (Lib.bitLen x)).toNat:Nat):Int)=(Lib.bitLen x:Int):=by
 have:=ji h;rw[ig];omega
theorem Hd (x:Nat) (h:x<256):aE 183 [.i .u8 x] (E (Lib.bitLen x)):=by
 refine eW call183 func183 ?_;refine vP ?_;rw[jn h,len8_int h];have:=ji h;rw[IntWalk.i64_in _ oO]
theorem mQ {y k:Nat} (hy:y<256) (hk:k<=56) (h:Lib.bitLen x=k+Lib.bitLen y) {T:Bytes} (hT: ∀x,x<256->T.getD x 0=UInt8.ofNat (Lib.bitLen x)):
  (0<=IntKind.u8.wrap (y:Int)/\IntKind.u8.wrap (y:Int)<256)/\PV.i IntKind.i64 (IntKind.i64.wrap ((k:Int)+IntKind.i64.wrap ((T.getD (IntKind.u8.wrap (y:Int)).toNat 0).toNat:Int)))=E (Lib.bitLen x):=by
 have h8:=ji hy;rw[ZZ hy,Int.toNat_natCast,hT y hy,len8_int hy,IntWalk.i64_in (Lib.bitLen y:Int) oO,IntWalk.i64_in _ oO,h];refine⟨oO,?_⟩;simp
theorem Dq (x:Nat) (h:x<(2^64)):aE 514 [.i .u64 x] (E (Lib.bitLen x)):=by
 have g8:=Lib.bitLen_shift8;have g16:=Lib.bitLen_shift16;have g32:=Lib.bitLen_shift32;refine eW call514 func514 ?_;repeat' first|simp only[go_sem,seval]|refine oE ?_|apply xX<;>intro hc
 ·refine mQ (k:=56) oO oC ?_ fun _=>jn
  rw[g32 x oO oO,g16 _ oO oO,g8 _ oO oO];omega
 ·refine mQ (k:=48) oO oC ?_ fun _=>jn
  rw[g32 x oO oO,g16 _ oO oO];omega
 ·refine mQ (k:=40) oO oC ?_ fun _=>jn
  rw[g32 x oO oO,g8 _ oO oO];omega
 ·refine mQ (k:=32) oO oC ?_ fun _=>jn
  rw[g32 x oO oO]
 ·refine mQ (k:=24) oO oC ?_ fun _=>jn
  rw[g16 x oO oO,g8 _ oO oO];omega
 ·refine mQ (k:=16) oO oC ?_ fun _=>jn
  rw[g16 x oO oO]
 ·refine mQ (k:=8) oO oC ?_ fun _=>jn
  rw[g8 x oO oO]
 ·refine mQ (k:=0) oO oC ?_ fun _=>jn
  omega
theorem sf (x:Nat) (h:x<(2^64)):aE 478 [.i .u64 x] (E ((64-Lib.bitLen x:Nat):Int)):=by
 have h1:=Lib.bitLen_le x 64 oC h;refine eW call478 func478 ?_;repeat' first|simp only[go_sem,seval]|refine cP (Dq x h) ?_|refine oE ?_|apply xX<;>intro hc
 congr 1;omega
theorem sh (x y:Nat) (hx:x<(2^64)) (hy:y<(2^64)):aE 295 [.i .u64 x, .i .u64 y] (.tup [.i .u64 (x*y/(2^64):Nat), .i .u64 (x*y%(2^64):Nat)]):=by
 obtain⟨h1,h2,h3,h4⟩:=Lib.mul64_hi x y hx hy;refine eW call295 func295 ?_;simp only[go_sem,seval,uw,zO,sK,yn,GN,Du,xq,Cr,zc,za,re];have hb:=Lib.half_mul_le (a:=x/4294967296) (b:=y%4294967296) oO oO;have ha:=Lib.half_mul_le (a:=x/4294967296) (b:=y/4294967296) oO oO;have hc:=Lib.half_mul_le (a:=x%4294967296) (b:=y/4294967296) oO oO;rw[<-h4];generalize x/4294967296*(y%4294967296)=b at*;generalize x/4294967296*(y/4294967296)=a at*;generalize x%4294967296*(y/4294967296)=c at*;generalize x%4294967296*(y%4294967296)=d at*;congr 4;omega
end Go.Proofs.Tryz
namespace Go.Proofs.Tryz
open Go Go.Dom
variable {q r t z:Nat}
abbrev U (n:Nat):AV:= .v (.i .u64 n)
structure Oh (hi lo y s Y V u:Nat):Prop where
 hy:0<y
 s64:s<64
 yl:9223372036854775808<=Y
 yh:Y<(2^64)
 hY:Y=y*2^s
 hV:V=lo*2^s%(2^64)
 hVl:V<(2^64)
 hil:u<Y
 eqn:(hi*(2^64)+lo)*2^s=u*(2^64)+V
 hyy:Y=Y/4294967296*4294967296+Y%4294967296
theorem Oh.sub {hi lo y s Y V u:Nat} (D:Oh hi lo y s Y V u) (hz:z<(2^64)):(z+((2^64)-z/(Y/4294967296)*(Y/4294967296)%(2^64)))%(2^64)=z%(Y/4294967296):=by
 have g1:=ik z (Y/4294967296);have g2:=qv z (Y/4294967296);rw[bU]at g1;generalize z/(Y/4294967296)*(Y/4294967296)=k at g1 g2⊢;generalize z%(Y/4294967296)=l at g1⊢;omega
theorem Oh.quo {hi lo y s Y V u:Nat} (D:Oh hi lo y s Y V u) (hz:z<(2^64)):z/(Y/4294967296)%(2^64)=z/(Y/4294967296):=bw (eu (eT _ _) hz)
structure xf (Y u t:Nat) (x:Nat×Nat):Prop where
 d:G9 4294967296 Y (Y/4294967296) (Y%4294967296) u t x.1 x.2
 r:x.2<4294967296
 q:x.1<(2^64)
theorem xf.start {hi lo y s Y V u:Nat} (D:Oh hi lo y s Y V u) (hz:z<Y) (ht:t<4294967296):xf Y z t (z/(Y/4294967296),z%(Y/4294967296)):=by
 have:=D.yl;have:=D.yh;refine⟨G9.start D.hyy oO hz ht,?_,?_⟩
 ·have:=aP z (y:=Y/4294967296) oO;show z%(Y/4294967296)< _;omega
 ·show z/(Y/4294967296)< _;exact eu (eT _ _) oO
theorem xf.fin {hi lo y s Y V u:Nat} (D:Oh hi lo y s Y V u) (hz:z<Y) (ht:t<4294967296) (h:xf Y z t (q,r)) (hq:q*(Y%4294967296)<=4294967296*r+t):q=(z*4294967296+t)/Y:=h.d.done D.hyy (by have:=D.yl;omega) hq
theorem xf.go {hi lo y s Y V u:Nat} (D:Oh hi lo y s Y V u) (hz:z<Y) (ht:t<4294967296) (h:xf Y z t (q,r)) (hq:4294967296<=q\/4294967296*r+t<q*(Y%4294967296)):
  (q+18446744073709551615)%(2^64)=q-1/\(r+Y/4294967296)%(2^64)=r+Y/4294967296/\q-1<q/\(4294967296<=r+Y/4294967296->q-1=(z*4294967296+t)/Y)/\(r+Y/4294967296<4294967296->xf Y z t (q-1,r+Y/4294967296)):=by
 have h1:=D.yl;have h2:=D.yh;have h3:=h.r;have h4:=h.q;simp only at h3 h4;obtain⟨p1,p2⟩:=h.d.step D.hyy oO hz ht hq;simp only at p1 p2;exact⟨oO,oO,oO,fun g=>p2.big D.hyy oO oO hz g,fun g=>⟨p2,g,by show q-1< _;omega⟩⟩
theorem Oh.out {hi lo y s Y V u q1 z q0:Nat} (D:Oh hi lo y s Y V u) (hlo:lo<(2^64)) (h:hi<y) (h1:q1=(u*4294967296+V/4294967296)/Y) (hz:z=(u*4294967296+V/4294967296)%Y) (h0:q0=(z*4294967296+V%4294967296)/Y):
  (q1*4294967296%(2^64)+q0)%(2^64)=(hi*(2^64)+lo)/y/\((z*4294967296%(2^64)+V%4294967296)%(2^64)+((2^64)-q0*Y%(2^64)))%(2^64)/2^s=(hi*(2^64)+lo)%y:=by
 have hy:=D.hy;have yl:=D.yl;have yh:=D.yh;obtain⟨a,b⟩:=whole (N:=hi*(2^64)+lo) hy D.hY D.eqn h1 hz h0;have hzl:z<Y:=by rw[hz];exact aP _ oO
 have hq0:q0<4294967296:=G9.lt (B:=4294967296) (y1:=Y/4294967296) (y0:=Y%4294967296) oO hzl (aP _ oC) h0;have hq1:q1<4294967296:=G9.lt (B:=4294967296) (y1:=Y/4294967296) (y0:=Y%4294967296) oO D.hil (by have:=D.hVl;omega) h1
 have hw:=qt (BB h0) (by rw[iY h0];exact b9 (aP _ oO) oO)
 rw[iY h0,ew]at hw;rw[hw,b,<-a];exact⟨oO,rfl⟩
theorem Dm (hi lo y:Nat) (h:hi<y) (hlo:lo<(2^64)) (hy:y<(2^64)):aE 413 [.i .u64 hi, .i .u64 lo, .i .u64 y] (.tup [.i .u64 ((hi*(2^64)+lo)/y:Nat), .i .u64 ((hi*(2^64)+lo)%y:Nat)]):=by
 by_cases h0:hi=0
 ·subst h0;have hq:=bw (eu (eT lo y) hlo);refine eW call413 func413 ?_;repeat' first|simp only[go_sem,seval,uw,hq,th]|refine oE ?_|apply xX<;>intro hc
 have sc:=scaled h hlo hy;obtain⟨s,hs⟩: ∃s,s=64-Lib.bitLen y:=⟨_,rfl⟩;rw[<-hs]at sc;have hlz:=sf y hy;rw[<-hs]at hlz;obtain⟨s64,yl,yh,hil,eqn,hs1,ol⟩:=sc;obtain⟨Y,hY⟩: ∃Y,Y=y*2^s:=⟨_,rfl⟩;obtain⟨V,hV⟩: ∃V,V=lo*2^s%(2^64):=⟨_,rfl⟩;obtain⟨u,hu⟩: ∃u,u=hi*2^s+lo/2^(64-s):=⟨_,rfl⟩;rw[<-hY]at yl yh hil;rw[<-hu]at hil eqn;rw[<-hV]at eqn;have hVl:V<(2^64):=by rw[hV];exact aP _ oC
 have D:Oh hi lo y s Y V u:=⟨oO,s64,yl,yh,hY,hV,hVl,hil,eqn,oO⟩;have e1: ∀ _:True,s%(2^64)=s:=fun _=>oO
 have e2: ∀ _:True,Y%(2^64)=Y:=fun _=>oO
 have e3: ∀ _:True,hi*2^s%(2^64)=hi*2^s:=fun _=>bw hs1
 have e4: ∀ _:True,(64+((2^64)-s))%(2^64)=64-s:=fun _=>oO
 have e5: ∀ _:True,FW .u64 ((hi*2^s:Nat):Int) ((lo/2^(64-s):Nat):Int)=(u:Int):=fun _=>by
  rw[TQ .u64 rfl hs1 (eu (eT _ _) hlo),Er ol,hu]
 have hm1: ∀ _:True,(if s<=64 then s else 64)=s:=fun _=>by split<;>omega
 have hm2: ∀ _:True,(if 64-s<=64 then 64-s else 64)=64-s:=fun _=>by split<;>omega
 have hY': ∀ _:True,y*2^s=Y:=fun _=>hY.symm
 have hV': ∀ _:True,lo*2^s%(2^64)=V:=fun _=>hV.symm
 have hr0: ∀ _:True,(u+((2^64)-u/(Y/4294967296)*(Y/4294967296)%(2^64)))%(2^64)=u%(Y/4294967296):=fun _=>D.sub oO
 have hq0: ∀ _:True,u/(Y/4294967296)%(2^64)=u/(Y/4294967296):=fun _=>D.quo oO
 have hy1:Y/4294967296≠0:=oO;have h':=h;clear hs hY hV hu eqn hs1 ol hil yl yh hVl s64;refine eW call413 func413 ?_;simp only[go_sem,seval,uw,zO,sK,yn,GN,Du,xq,Cr,zc,za,re];repeat' first|simp only[go_sem,seval,uw,zO,sK,yn,GN,Du,xq,Cr,zc,za,re,e1 oT,hm1 oT,hm2 oT,hY' oT,e2 oT,e3 oT,e4 oT,e5 oT,hV' oT,hq0 oT,ew,hr0 oT]|refine cP hlz ?_|refine oE ?_|apply xX<;>intro hc
 clear e1 e2 e3 e4 e5 hm2 hr0 hq0 hlz hY' hV' h0;refine ak (α:=Nat×Nat) (fun x=>x.1) (fun x=>⟨[(2,U Y),(8,U s),(9,U (Y/4294967296)),(10,U (Y%4294967296)),(11,U u),(13,U (V/4294967296)),(14,U (V%4294967296)),(15,U x.1),(16,U x.2)],[],_⟩) (xf Y u (V/4294967296)) (u/(Y/4294967296),u%(Y/4294967296)) (fun _=>aD _) (.start D D.hil (by have:=D.hVl;omega)) ?_ ?_
 ·exact lE
 ·rintro⟨q,r⟩ hd R hR;have f0:=hd.r;simp only at f0;have f1: ∀ _:True,4294967296*r%(2^64)=4294967296*r:=fun _=>oO
  have f2: ∀ _:True,(4294967296*r+V/4294967296)%(2^64)=4294967296*r+V/4294967296:=fun _=>by have:=D.hVl;omega
  have f3:q*(Y%4294967296)<4294967296*4294967296\/4294967296<=q:=by
   by_cases g:4294967296<=q
   ·exact .inr g
   ·exact .inl (fE oO (aP _ oC))
  repeat' first|simp only[go_sem,seval,uw,zO,sK,yn,GN,Du,xq,Cr,zc,za,re,f1 oT,f2 oT]|refine oE ?_|apply xX<;>intro hc
  ·obtain⟨g1,g2,g3,g4,g5⟩:=hd.go D D.hil (by have:=D.hVl;omega) oO
   have hq1:(q-1)=(u*4294967296+V/4294967296)/Y:=g4 oO;obtain⟨q1,e1⟩: ∃q1,q1=(q-1):=⟨_,rfl⟩;rw[<-e1]at hq1;obtain⟨z,hz⟩: ∃z,z=(u*4294967296+V/4294967296)%Y:=⟨_,rfl⟩;have hyl:=D.yl;have hyh:=D.yh;have hzl:z<Y:=by rw[hz];exact aP _ oO
   have hw1:=qt (BB hq1) (by rw[iY hq1,<-hz];omega)
   rw[iY hq1,<-hz,ew]at hw1;have hq0:=D.quo (z:=z) oO;have hr0:=D.sub (z:=z) oO;simp only[g1,<-e1,ew,hw1,hq0,hr0];clear hw1 hq0 hr0 hyl hyh e1 f0 f3;refine ak (α:=Nat×Nat) (fun x=>x.1) (fun x=>⟨[(2,U Y),(8,U s),(9,U (Y/4294967296)),(10,U (Y%4294967296)),(14,U (V%4294967296)),(15,U q1),(17,U z),(18,U x.1),(16,U x.2)],[],_⟩) (xf Y z (V%4294967296)) (z/(Y/4294967296),z%(Y/4294967296)) (fun _=>aD _) (.start D hzl (aP _ oC)) ?_ ?_
   ·exact lE
   ·rintro⟨q,r⟩ hd R hR;have f0:=hd.r;simp only at f0;have f1: ∀ _:True,4294967296*r%(2^64)=4294967296*r:=fun _=>oO
    have f2: ∀ _:True,(4294967296*r+V%4294967296)%(2^64)=4294967296*r+V%4294967296:=fun _=>by have:=D.hVl;omega
    have f3:q*(Y%4294967296)<4294967296*4294967296\/4294967296<=q:=by
     by_cases g:4294967296<=q
     ·exact .inr g
     ·exact .inl (fE oO (aP _ oC))
    repeat' first|simp only[go_sem,seval,uw,zO,sK,yn,GN,Du,xq,Cr,zc,za,re,f1 oT,f2 oT]|refine oE ?_|apply xX<;>intro hc
    ·obtain⟨g1,g2,g3,g4,g5⟩:=hd.go D hzl (aP _ oC) oO;have:=D.out hlo h' hq1 hz (g4 oO);simp only[g1,hm1 oT,ew,this.1,this.2]
    ·obtain⟨g1,g2,g3,g4,g5⟩:=hd.go D hzl (aP _ oC) oO;refine hR (q-1,r+Y/4294967296) (g5 oO) g3 _ ?_;rw[g1,g2];exact lE
    ·obtain⟨g1,g2,g3,g4,g5⟩:=hd.go D hzl (aP _ oC) oO;have:=D.out hlo h' hq1 hz (g4 oO);simp only[g1,hm1 oT,ew,this.1,this.2]
    ·obtain⟨g1,g2,g3,g4,g5⟩:=hd.go D hzl (aP _ oC) oO;refine hR (q-1,r+Y/4294967296) (g5 oO) g3 _ ?_;rw[g1,g2];exact lE
    ·have:=D.out hlo h' hq1 hz (hd.fin D hzl (aP _ oC) oO);simp only[hm1 oT,ew,this.1,this.2]
  ·obtain⟨g1,g2,g3,g4,g5⟩:=hd.go D D.hil (by have:=D.hVl;omega) oO
   refine hR (q-1,r+Y/4294967296) (g5 oO) g3 _ ?_;rw[g1,g2];exact lE
  ·obtain⟨g1,g2,g3,g4,g5⟩:=hd.go D D.hil (by have:=D.hVl;omega) oO
   have hq1:(q-1)=(u*4294967296+V/4294967296)/Y:=g4 oO;obtain⟨q1,e1⟩: ∃q1,q1=(q-1):=⟨_,rfl⟩;rw[<-e1]at hq1;obtain⟨z,hz⟩: ∃z,z=(u*4294967296+V/4294967296)%Y:=⟨_,rfl⟩;have hyl:=D.yl;have hyh:=D.yh;have hzl:z<Y:=by rw[hz];exact aP _ oO
   have hw1:=qt (BB hq1) (by rw[iY hq1,<-hz];omega)
   rw[iY hq1,<-hz,ew]at hw1;have hq0:=D.quo (z:=z) oO;have hr0:=D.sub (z:=z) oO;simp only[g1,<-e1,ew,hw1,hq0,hr0];clear hw1 hq0 hr0 hyl hyh e1 f0 f3;refine ak (α:=Nat×Nat) (fun x=>x.1) (fun x=>⟨[(2,U Y),(8,U s),(9,U (Y/4294967296)),(10,U (Y%4294967296)),(14,U (V%4294967296)),(15,U q1),(17,U z),(18,U x.1),(16,U x.2)],[],_⟩) (xf Y z (V%4294967296)) (z/(Y/4294967296),z%(Y/4294967296)) (fun _=>aD _) (.start D hzl (aP _ oC)) ?_ ?_
   ·exact lE
   ·rintro⟨q,r⟩ hd R hR;have f0:=hd.r;simp only at f0;have f1: ∀ _:True,4294967296*r%(2^64)=4294967296*r:=fun _=>oO
    have f2: ∀ _:True,(4294967296*r+V%4294967296)%(2^64)=4294967296*r+V%4294967296:=fun _=>by have:=D.hVl;omega
    have f3:q*(Y%4294967296)<4294967296*4294967296\/4294967296<=q:=by
     by_cases g:4294967296<=q
     ·exact .inr g
     ·exact .inl (fE oO (aP _ oC))
    repeat' first|simp only[go_sem,seval,uw,zO,sK,yn,GN,Du,xq,Cr,zc,za,re,f1 oT,f2 oT]|refine oE ?_|apply xX<;>intro hc
    ·obtain⟨g1,g2,g3,g4,g5⟩:=hd.go D hzl (aP _ oC) oO;have:=D.out hlo h' hq1 hz (g4 oO);simp only[g1,hm1 oT,ew,this.1,this.2]
    ·obtain⟨g1,g2,g3,g4,g5⟩:=hd.go D hzl (aP _ oC) oO;refine hR (q-1,r+Y/4294967296) (g5 oO) g3 _ ?_;rw[g1,g2];exact lE
    ·obtain⟨g1,g2,g3,g4,g5⟩:=hd.go D hzl (aP _ oC) oO;have:=D.out hlo h' hq1 hz (g4 oO);simp only[g1,hm1 oT,ew,this.1,this.2]
    ·obtain⟨g1,g2,g3,g4,g5⟩:=hd.go D hzl (aP _ oC) oO;refine hR (q-1,r+Y/4294967296) (g5 oO) g3 _ ?_;rw[g1,g2];exact lE
    ·have:=D.out hlo h' hq1 hz (hd.fin D hzl (aP _ oC) oO);simp only[hm1 oT,ew,this.1,this.2]
  ·obtain⟨g1,g2,g3,g4,g5⟩:=hd.go D D.hil (by have:=D.hVl;omega) oO
   refine hR (q-1,r+Y/4294967296) (g5 oO) g3 _ ?_;rw[g1,g2];exact lE
  ·have hq1:q=(u*4294967296+V/4294967296)/Y:=hd.fin D D.hil (by have:=D.hVl;omega) oO
   obtain⟨q1,e1⟩: ∃q1,q1=q:=⟨_,rfl⟩;rw[<-e1]at hq1;obtain⟨z,hz⟩: ∃z,z=(u*4294967296+V/4294967296)%Y:=⟨_,rfl⟩;have hyl:=D.yl;have hyh:=D.yh;have hzl:z<Y:=by rw[hz];exact aP _ oO
   have hw1:=qt (BB hq1) (by rw[iY hq1,<-hz];omega)
   rw[iY hq1,<-hz,ew]at hw1;have hq0:=D.quo (z:=z) oO;have hr0:=D.sub (z:=z) oO;simp only[true_and,<-e1,ew,hw1,hq0,hr0];clear hw1 hq0 hr0 hyl hyh e1 f0 f3;refine ak (α:=Nat×Nat) (fun x=>x.1) (fun x=>⟨[(2,U Y),(8,U s),(9,U (Y/4294967296)),(10,U (Y%4294967296)),(14,U (V%4294967296)),(15,U q1),(17,U z),(18,U x.1),(16,U x.2)],[],_⟩) (xf Y z (V%4294967296)) (z/(Y/4294967296),z%(Y/4294967296)) (fun _=>aD _) (.start D hzl (aP _ oC)) ?_ ?_
   ·exact lE
   ·rintro⟨q,r⟩ hd R hR;have f0:=hd.r;simp only at f0;have f1: ∀ _:True,4294967296*r%(2^64)=4294967296*r:=fun _=>oO
    have f2: ∀ _:True,(4294967296*r+V%4294967296)%(2^64)=4294967296*r+V%4294967296:=fun _=>by have:=D.hVl;omega
    have f3:q*(Y%4294967296)<4294967296*4294967296\/4294967296<=q:=by
     by_cases g:4294967296<=q
     ·exact .inr g
     ·exact .inl (fE oO (aP _ oC))
    repeat' first|simp only[go_sem,seval,uw,zO,sK,yn,GN,Du,xq,Cr,zc,za,re,f1 oT,f2 oT]|refine oE ?_|apply xX<;>intro hc
    ·obtain⟨g1,g2,g3,g4,g5⟩:=hd.go D hzl (aP _ oC) oO;have:=D.out hlo h' hq1 hz (g4 oO);simp only[g1,hm1 oT,ew,this.1,this.2]
    ·obtain⟨g1,g2,g3,g4,g5⟩:=hd.go D hzl (aP _ oC) oO;refine hR (q-1,r+Y/4294967296) (g5 oO) g3 _ ?_;rw[g1,g2];exact lE
    ·obtain⟨g1,g2,g3,g4,g5⟩:=hd.go D hzl (aP _ oC) oO;have:=D.out hlo h' hq1 hz (g4 oO);simp only[g1,hm1 oT,ew,this.1,this.2]
    ·obtain⟨g1,g2,g3,g4,g5⟩:=hd.go D hzl (aP _ oC) oO;refine hR (q-1,r+Y/4294967296) (g5 oO) g3 _ ?_;rw[g1,g2];exact lE
    ·have:=D.out hlo h' hq1 hz (hd.fin D hzl (aP _ oC) oO);simp only[hm1 oT,ew,this.1,this.2]
theorem KG (hi lo y:Nat) (h0:0<y) (hhi:hi<(2^64)) (hlo:lo<(2^64)) (hy:y<(2^64)):aE 305 [.i .u64 hi, .i .u64 lo, .i .u64 y] (.i .u64 ((hi*(2^64)+lo)%y:Nat)):=by
 have h1:hi%y<y:=aP _ h0;have h2:(hi%y*(2^64)+lo)%y=(hi*(2^64)+lo)%y:=by
  rw[kU,cC,ew,<-cC,<-kU]
 refine eW call305 func305 ?_;repeat' first|simp only[go_sem,seval,h2]|refine cP (Dm _ _ _ h1 hlo hy) ?_|refine oE ?_|apply xX<;>intro hc
