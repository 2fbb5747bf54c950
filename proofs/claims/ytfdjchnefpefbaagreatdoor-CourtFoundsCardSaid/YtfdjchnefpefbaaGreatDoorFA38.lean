/-
  Part of the proof, part FA38. Own work.
-/
import Derived.WideLaws
import Derived.Tactics
import Derived.Tactics2
import Derived.Test.YtfdjchnefpefbaaGreatDoorFA37
set_option linter.all false
namespace Go.Proofs.YtfdjchnefpefbaaGreatDoor
open Go Go.Dom Go.Num
set_option maxRecDepth 100000
set_option maxHeartbeats 16000000
theorem HU (l:List Bytes) (hl:l.length<1000000):aA Tryz.prog 67 [.sl (l.map .s)] (.sl (l.map .s)):=by
 cases l with
 |nil=>exact Ga
 |cons x r=>
  rw[aS];have k1:(PV.s x::r.map .s)=(x::r).map .s:=rfl;have k0:(r.map PV.s).length=r.length:=aE ..;refine eW Tryz.call67 Tryz.func67 ?_;refine fx @k0 ?_;obtain⟨-,r2,r3,-⟩:=MO r;obtain⟨-,-,-,r4⟩:=MO (x::r);rw[oF];refine⟨⟨fun x hx=>kE hx,fun x hx=>bz.1 r2 x hx,by simp at hl;omega,by simp at hl;omega⟩,?_⟩
  simp only[aE,an,r3,r2,eJ,and_self,if_true,Option.map_some];exact⟨trivial,congrArg PV.sl r4⟩
theorem Qy (v1 v2 v3:Value) (w:World):CallsD Tryz.prog 288 #[v1,v2,v3] .returning w fun e u' w'=>e= .returned (.tuple #[])/\u'= .returning/\w'=w:=by
 refine callsD_of_wpS Tryz.func288 rfl fun c₀ cs hu=> ?_
 apply wpS_seq;apply wpS_region;simp[wpOpsS,go_sem,recoverD,hu,Tryz.ntmps288,Exit.thenS];apply wpS_seq;apply wpS_region;simp[wpOpsS,go_sem,Exit.thenS];refine wpS_cond (t:=false) (by simp[Act.eval,Array.replicate]) ?_
 simp only[aX,if_false];refine wpS_of_wp (wp_skip ?_);cases c₀;simp_all[bodyPostS,results,Tryz.results288]
noncomputable abbrev qG:Code:=Tryz.f180.body.getD .skip
theorem Y6 (a:Act) (w:World) (Q:Exit->Act->World->Prop) (hd:a.defers=[]) (hs:a.tmps.size=Tryz.f180.ntmps) (hQ: ∀a' d,a'.tmps.size=Tryz.f180.ntmps->(∀k,k≠56->a'.tmps.getD k undef=a.tmps.getD k undef)->a'.defers=[d]->Idle Tryz.prog d->Q .normal a' w):(ti (Ez 5 qG)).wp Tryz.prog Q a w:=by
 have hmf: ∀(fn:Fn) (first cap:Array Value) (w:World),(Instr.makeFunc fn first cap).run Tryz.prog w= .ok (.func fn first cap) w:=fun _ _ _ _=>rfl
 show(Code.region 6 _ false).wp Tryz.prog Q a w;apply wp_region;simp[wpOps,go_sem,hd];have h10:56<a.tmps.size:=by rw[hs,Tryz.ntmps180];decide
 refine .inl ?_;refine .inl ?_;rw[if_pos h10];refine hQ {tmps:=a.tmps.setIfInBounds 56 (.func (.func 288) #[] #[a.tmps[8]?.getD undef,a.tmps[9]?.getD undef,a.tmps[10]?.getD undef]),defers:=[⟨.fn (.func 288) #[a.tmps[8]?.getD undef,a.tmps[9]?.getD undef,a.tmps[10]?.getD undef], #[]⟩]} ⟨.fn (.func 288) #[a.tmps[8]?.getD undef,a.tmps[9]?.getD undef,a.tmps[10]?.getD undef], #[]⟩ ?_ ?_ ?_ ⟨.func 288, #[a.tmps[8]?.getD undef,a.tmps[9]?.getD undef,a.tmps[10]?.getD undef],288, #[a.tmps[8]?.getD undef,a.tmps[9]?.getD undef,a.tmps[10]?.getD undef],rfl,fun w=>⟨?_,Qy _ _ _ w⟩⟩
 ·simp[hs]
 ·intro k hk;simp[wB (kP hk)]
 ·rfl
 ·simp[invoke,go_sem]
theorem Qw:Tryz.f180.body=some (QG [ti (Ez 0 qG),ti (Ez 1 qG),ti (Ez 2 qG),ti (Ez 3 qG),ti (Ez 4 qG)] (.seq (ti (Ez 5 qG)) (Ez 6 qG))):=by kernel_rfl
theorem Mt {nt:Nat} {c:Code} {sc:SC} {r:List Code} {s s1 s2:AS} (h:CW Tryz.prog (fun e x=>e= .normal/\s1.Le x) sc [] s) (hr:Sm Tryz.prog nt r s1 s2) (hc:l9 Tryz.prog US nt c=some sc:=by cbv) (hng:sc.dR=true:=by exact rfl):Sm Tryz.prog nt (c::r) s s2:= .cons (je.1 _ _ _ hc) hng (CW.start h) hr
theorem Qv (vs:List Bytes) (sd:Bytes) (a:Int) (hl:vs.length<1000000):aA Tryz.prog 180 [C0, .sl [], .s [],T vs sd a] (.tup [.agg [.sl [], .sl [], .sl [], .sl []],T vs sd a,E 0]):=by
 have hc:=HU vs hl;have ho:aA Tryz.prog 194 [C0] (.s []):=by
  refine eW Tryz.call194 Tryz.func194 ?_;exact U2
 refine aA.L8 (sl:=56) (pre:=[ti (Ez 0 qG),ti (Ez 1 qG),ti (Ez 2 qG),ti (Ez 3 qG),ti (Ez 4 qG)]) (cD:=ti (Ez 5 qG)) (c2:=Ez 6 qG) (s2:=⟨[(1, .v (.sl [])),(8, .p 1002 0 0),(9, .p 1003 0 0),(10, .p 1004 0 0),(11, .v (.sl [])),(12, .p 1014 0 0)],[(1002,⟨0,[.sn, .sn, .sn, .sn],false,some 164⟩),(1003,⟨0,[.sn, .v (.s []), .v (.i .i64 0)],false,some 29⟩),(1004,⟨0,[.v (.i .i64 0)],false,some 37⟩),(1014,⟨0,[.v (.sl []), .v (.sl []), .v (.s []), .v (.sl (vs.map .s)), .v (.s sd), .v (.i .i64 a), .v (.sl []), .rs 1020 0 0 0 1, .rs 1024 0 0 0 1, .rs 1028 0 0 0 1],false,none⟩),(1020,⟨0,[],false,none⟩),(1024,⟨0,[],false,none⟩),(1028,⟨0,[],false,none⟩)],1042⟩) mixed Tryz.call180 Tryz.func180 Qw rfl (je.1 _ _ _ (by cbv)) (je.2 _ _ (by cbv)) Y6 (cC rfl) rfl (Mt (s1:=⟨[(1, .v (.sl [])),(2, .v (.s [])),(4, .p 1000 0 0),(7, .p 1001 0 0),(8, .p 1002 0 0),(9, .p 1003 0 0),(10, .p 1004 0 0)],[(1000,⟨0,[.v (.sl []), .v (.sl [])],false,none⟩),(1001,⟨0,[.v (.sl (vs.map .s)), .v (.s sd), .v (.i .i64 a)],false,none⟩),(1002,⟨0,[.sn, .sn, .sn, .sn],false,some 164⟩),(1003,⟨0,[.sn, .v (.s []), .v (.i .i64 0)],false,some 29⟩),(1004,⟨0,[.v (.i .i64 0)],false,some 37⟩)],1005⟩) ?_ (Mt (s1:=⟨[(1, .v (.sl [])),(2, .v (.s [])),(4, .p 1000 0 0),(7, .p 1001 0 0),(8, .p 1002 0 0),(9, .p 1003 0 0),(10, .p 1004 0 0),(11, .v (.sl []))],[(1000,⟨0,[.v (.sl []), .v (.sl [])],false,none⟩),(1001,⟨0,[.v (.sl (vs.map .s)), .v (.s sd), .v (.i .i64 a)],false,none⟩),(1002,⟨0,[.sn, .sn, .sn, .sn],false,some 164⟩),(1003,⟨0,[.sn, .v (.s []), .v (.i .i64 0)],false,some 29⟩),(1004,⟨0,[.v (.i .i64 0)],false,some 37⟩)],1009⟩) ?_ (Mt (s1:=⟨[(1, .v (.sl [])),(2, .v (.s [])),(4, .p 1000 0 0),(7, .p 1001 0 0),(8, .p 1002 0 0),(9, .p 1003 0 0),(10, .p 1004 0 0),(11, .v (.sl [])),(12, .p 1014 0 0)],[(1000,⟨0,[.v (.sl []), .v (.sl [])],false,none⟩),(1001,⟨0,[.v (.sl (vs.map .s)), .v (.s sd), .v (.i .i64 a)],false,none⟩),(1002,⟨0,[.sn, .sn, .sn, .sn],false,some 164⟩),(1003,⟨0,[.sn, .v (.s []), .v (.i .i64 0)],false,some 29⟩),(1004,⟨0,[.v (.i .i64 0)],false,some 37⟩),(1014,⟨0,[.v (.sl []), .v (.sl []), .v (.s []), .v (.sl (vs.map .s)), .v (.s sd), .v (.i .i64 a), .sn, .sn, .sn, .sn],false,none⟩)],1016⟩) ?_ ?_))) (CW.start ?_)
 ·simp only[mE,List.mapIdx_nil];refine wC ?_;exact lE
 ·refine wC ?_;exact lE
 ·refine XH @ho ?_;exact lE
 ·refine Mt (s1:=⟨[(1, .v (.sl [])),(8, .p 1002 0 0),(9, .p 1003 0 0),(10, .p 1004 0 0),(11, .v (.sl [])),(12, .p 1014 0 0)],[(1002,⟨0,[.sn, .sn, .sn, .sn],false,some 164⟩),(1003,⟨0,[.sn, .v (.s []), .v (.i .i64 0)],false,some 29⟩),(1004,⟨0,[.v (.i .i64 0)],false,some 37⟩),(1014,⟨0,[.v (.sl []), .v (.sl []), .v (.s []), .v (.sl (vs.map .s)), .v (.s sd), .v (.i .i64 a), .v (.sl []), .rs 1020 0 0 0 1, .rs 1024 0 0 0 1, .rs 1028 0 0 0 1],false,none⟩),(1020,⟨0,[],false,none⟩),(1024,⟨0,[],false,none⟩),(1028,⟨0,[],false,none⟩)],1033⟩) ?_ (Mt ?_ (.nil _))
  ·refine wC ?_;exact lE
  ·refine wC ?_;exact lE
 ·exact Xt @hc
theorem Ks (l:List Bytes) (hl:l.length<1000000):aA Tryz.prog 191 [.sl (l.map .s)] (.b (l.all aa)):=by
 have h1: ∀x,aA Tryz.prog 307 [PV.s x] (.b (!aa x)):=fun x=>by
  have hv:=aJ x;generalize aa x=b at*;refine eW Tryz.call307 Tryz.func307 ?_;exact z1 @hv
 have hc:=lT l _ _ oO h1;rw[lV]at hc;generalize l.all aa=b at*;refine eW Tryz.call191 Tryz.func191 ?_;repeat' first|simp only[go_sem,seval,nW]|refine cP hc ?_|refine sB ?_|apply xX<;>intro hc|refine⟨oD,?_⟩|exact oD|fail
theorem Di (vs:List Bytes) (sd:Bytes) (a:Int) (hl:vs.length<1000000):aA Tryz.prog 178 [T vs sd a] (.b (eD vs a)):=by
 have h:=Ks vs hl;unfold eD;rw[lV,nW];generalize vs.all aa=b at*;refine eW Tryz.call178 Tryz.func178 ?_;repeat' first|simp only[go_sem,seval]|refine cP h ?_|refine sB ?_|apply xX<;>intro hc|refine⟨oD,?_⟩|exact oD|fail
 all_goals simp_all
 all_goals (intros;omega)
theorem Tx:aA Tryz.prog 177 [.sl []] (.b true):=by
 have hi:aA Tryz.prog 275 [.sl [], .fn (.func 285)] (E (-1)):=by
  refine eW Tryz.call275 Tryz.func275 ?_;exact U2
 have h:aA Tryz.prog 166 [.sl [], .fn (.func 285)] (.b false):=by
  refine eW Tryz.call166 Tryz.func166 ?_;exact z1 @hi
 refine eW Tryz.call177 Tryz.func177 ?_;exact z1 @h
theorem UR:aA Tryz.prog 279 [F0, .sl []] (.sl []):=by
 refine eW Tryz.call279 Tryz.func279 ?_;exact U2
theorem wJ:aA Tryz.prog 173 [F0, .sl []] (.tup [.sl [],E 0]):=by
 refine eW Tryz.call173 Tryz.func173 ?_;exact z2 @GI @UR
theorem N6:aA Tryz.prog 287 [F0, .sl []] (.tup [.sl [],E 0]):=by
 refine eW Tryz.call287 Tryz.func287 ?_;exact z1 @wJ
theorem Pt:aA Tryz.prog 179 [C0, .sl []] (.tup [.sl [],E 0]):=by
 refine eW Tryz.call179 Tryz.func179 ?_;repeat' first|simp only[go_sem,seval]|(refine ah ?_)|(refine ny [1011] N6 rfl rfl rfl ?_)|refine sB ?_|apply xX<;>intro hc|refine⟨oD,?_⟩|exact oD|fail
abbrev ZS:PV:= .agg [.sl [], .sl [], .sl [], .sl []]
theorem N4 {vs:List Bytes} {a:Int} (sd:Bytes) (hg:eD vs a=true) (hl:vs.length<1000000):aA Tryz.prog 100 [C0, .sl [],T vs sd a] (.tup [ZS,T vs sd a,E 0]):=by
 have h:=Di vs sd a hl;rw[hg]at h;have hr:=Qv vs sd a hl;refine eW Tryz.call100 Tryz.func100 ?_;exact z5 @Gj @Tx @h @Pt @hr
theorem QS (x:Bool×Bytes):aA Tryz.prog 163 [eC x] (.b (!c9 x)):=by
 obtain⟨n,a⟩:=x;have hv:=fP n a;have e:c9 (n,a)=(aa a&& !(n&&a==[])):=rfl;rw[e];generalize (aa a&& !(n&&a==[]))=b at*;simp only[eC];refine eW Tryz.call163 Tryz.func163 ?_;exact z1 @hv
theorem QT (b:Bytes):aA Tryz.prog 168 [dO b] (.s b):=by
 unfold dO;refine eW Tryz.call168 Tryz.func168 ?_;exact z0
theorem QU (m:Bytes):aA Tryz.prog 169 [.sl [G m []], .fn (.func 170)] (E (-1)):=by
 have h:aA Tryz.prog 170 [G m []] (.b false):=by
  refine eW Tryz.call170 Tryz.func170 ?_;exact z0
 refine eW Tryz.call169 Tryz.func169 ?_;refine uZ ?_;refine ah ?_;refine Vf @h ?_;refine ah ?_;exact z0
theorem Gf {vs:List Bytes} (sd:Bytes) {a:Int} (hl:vs.length<1000000):aA Tryz.prog 69 [T vs sd a, .s [1],E 0] (if eD vs a then .tup [.sl [],T vs sd a,E 0]else .tup [.sl [],T [] [] 0,E 3]):=by
 have h1:=rU vs sd a [1] oO;have e:uc vs a [1]=if eD vs a then 0 else 3:=by unfold uc;cases eD vs a<;>rfl
 rw[e]at h1;generalize eD vs a=b at*;cases b
 ·refine eW Tryz.call69 Tryz.func69 ?_;exact z1 @h1
 ·refine eW Tryz.call69 Tryz.func69 ?_;exact Xt @h1

def Wg (vs:List Bytes) (sd:Bytes):Except Int (Bytes×List Int×Nat)->PV
 | .ok (ch,rs,j)=> .tup [.agg [.s ch, .sl (rs.map Zp), .sl [], .sl []],T vs sd j,E 0]
 | .error e=> .tup [.agg [.s [], .sl [], .sl [], .sl []],T [] [] 0,E e]

theorem CS (sd:Bytes) (at' a k:Nat):(mF sd at' a k).length=32*k:=by
 induction k with
 |zero=>rfl
 |succ k ih=>rw[mF,bm,ih,qY,Bn,eT];omega
theorem DQ {sd:Bytes} {at' a len:Nat} (hsd:sd.length<1000000) (ha:at'<4294967296) (ha2:a<4294967296) (hl0:0<len) (hl:len<100000):aA Tryz.prog 258 [.s sd, .i .i64 at', .i .i64 a, .i .i64 len] (.s (wL sd at' a len)):=by
 have hsz: ∀ _:True,IntKind.i64.wrap (((len:Int)+7).tdiv 8)=(((len+7)/8:Nat):Int):=by
  intro _;rw[HO oO,IntWalk.i64_in _ oO];omega
 have hs1:1<=(len+7)/8/\(len+7)/8<=13000:=by omega
 have hd7:8*((len+7)/8)-len<8/\len<=8*((len+7)/8):=by omega
 have d1:=tW at' ha;have d2:=tW a ha2;have n1:=nC ha;have n2:=nC ha2;unfold wL;generalize hS:(len+7)/8=S at*;have hcl:=CS sd at' a (iJ S);refine eW Tryz.call258 Tryz.func258 ?_;repeat' first|simp only[go_sem,seval,hsz trivial]|refine sB ?_|apply xX<;>intro hc|refine⟨oD,?_⟩|exact oD|fail
 refine af (α:=Nat) (fun b=>iJ S-b) (fun b=>⟨[(0, .v (.s sd)),(1, .v (.i .i64 (at':Nat))),(2, .v (.i .i64 (a:Nat))),(3, .v (.i .i64 (len:Nat))),(9, .v (.i .i64 (S:Nat))),(10, .v (.s (mF sd at' a b))),(11,E' b)],[],_⟩) (fun b=>b<=iJ S) 0 (fun _=>an _) (aH _) ?_ ?_
 ·(refine AS.Le.of (by first|decide|omega) ?_ ?_<;>simp[dM,dL,aK,aj,AV.bd,AV.bd.bdL,u8,ai,ak,ar])
  all_goals rfl
 ·intro b hb R hR;have hcb:=CS sd at' a b;have hb3:b<=1000:=by unfold iJ at hb;omega
  by_cases hlt:32*b<S
  ·have hbr:b<iJ S:=by unfold iJ;omega
   have d3:=tW b oO;have n3:=nC (n:=b) oO;have hm:=Qo (k:=sd) (s:=AF at' a b) hsd (by unfold AF;simp;omega)
   have hgo:=hR (b+1) oO oO;have hbk:(qY sd at' a b).length=32:=by unfold qY Bn;rw[eT]
   rw[<-qY]at hm;rw[mF]at hgo;unfold AF at hm;generalize qY sd at' a b=x at*;generalize mF sd at' a b=o at*;generalize Lib.decDigits at'=D1 at*;generalize Lib.decDigits a=D2 at*;generalize Lib.decDigits b=D3 at*;simp only[eU]at hm;clear hR;repeat' first|simp only[go_sem,seval,hcb,hbk,eU,bm,List.length_cons,List.length_nil]|refine cP d1 ?_|refine cP d2 ?_|refine cP d3 ?_|refine cP hm ?_|refine sB ?_|apply xX<;>intro hc|refine⟨oD,?_⟩|exact oD|fail
   refine hgo _ ?_;exact lE
  ·obtain rfl:b=iJ S:=by unfold iJ at hb⊢;omega
   clear hR;obtain⟨x0,r,hxr⟩: ∃x0 r,mF sd at' a (iJ S)=x0::r:=by
    cases h:mF sd at' a (iJ S)with
    |nil=>rw[h]at hcl;unfold iJ at hcl;simp at hcl;omega
    |cons x0 r=>exact⟨_,_,rfl⟩
   rw[hxr]at hcl hcb⊢;rw[tK hs1.1];have hx0:=x0.toNat_lt;refine eF @hcb ?_;refine af (α:=Nat) (fun j=>j) (fun j=>⟨[(3, .v (.i .i64 (len:Nat))),(9, .v (.i .i64 (S:Nat))),(10, .v (.s (x0::r))),(12,E' (x0.toNat%2^j)),(13, .v (.i .i64 ((j:Int)-1)))],[],_⟩) (fun j=>j<=8/\8<=j+(8*S-len)) 8 (fun _=>an _) ⟨an _,by omega⟩ ?_ ?_
   ·(refine AS.Le.of (by first|decide|omega) ?_ ?_<;>simp[dM,dL,aK,aj,AV.bd,AV.bd.bdL,u8,ai,ak,ar])
    all_goals omega
   ·rintro j ⟨hj,hjd⟩ R hR
    by_cases hlt2:9<=j+(8*S-len)
    ·obtain⟨k,rfl⟩: ∃k,j=k+1:=⟨j-1,by omega⟩
     have hgo:=hR k ⟨by omega,by omega⟩ oO
     have hj1:((((k+1:Nat):Int)-1).toNat)=k:=by omega
     have hsh: ∀ _:True,IntKind.i64.wrap (1*2^(if k<=64 then k else 64))=((2^k:Nat):Int):=fun _=>by
      have hp:2^k<=2^7:=cI oC oO;rw[if_pos oO,wb,show(2:Int)^k=((2^k:Nat):Int) by simp]
      exact(fun(B:Nat) (h:B<=2^7)=>IntWalk.i64_in (B:Int) oO) _ hp
     have hA:=Nat.mod_pow_succ (x:=x0.toNat) (b:=2) (k:=k);have hC:=aD x0.toNat (fI (n:=k) (show 0<2 by decide))
     have hp:2^k<=2^7:=cI oC oO;have ht2:x0.toNat/2^k%2<2:=aD _ oC;generalize x0.toNat/2^k%2=tt at*;generalize x0.toNat%2^(k+1)=A at*;generalize x0.toNat%2^k=C at*;generalize 2^k=B at*;have htt:tt=0/\A=C\/tt=1/\A=C+B:=by
      have:tt=0\/tt=1:=by omega
      rcases this with rfl|rfl
      ·left;simpa using hA
      ·right;simpa using hA
     clear hA ht2 hR hxr;rcases htt with⟨-,rfl⟩|⟨-,rfl⟩
     ·refine fx (aN @hj1 (hsh trivial)) ?_;refine hgo _ ?_
      (refine AS.Le.of (by first|decide|omega) ?_ ?_<;>simp[dM,dL,aK,aj,AV.bd,AV.bd.bdL,u8,ai,ak,ar])
      all_goals omega
     ·refine fx (aN @hj1 (hsh trivial)) ?_;refine hgo _ ?_
      (refine AS.Le.of (by first|decide|omega) ?_ ?_<;>simp[dM,dL,aK,aj,AV.bd,AV.bd.bdL,u8,ai,ak,ar])
      all_goals omega
    ·obtain rfl:j=8-(8*S-len):=by omega
     clear hR;have hlr:r.length+1=32*iJ S:=by simpa using hcb
     have hle:=sy x0.toNat (2^(8-(8*S-len)));generalize x0.toNat%2^(8-(8*S-len))=y at*;have hw8: ∀ _:True,IntKind.u8.wrap (y:Int)=(y:Int):=fun _=>by show(((UInt8.ofNat y).toNat:Nat):Int)=y;rw[UInt8.toNat_ofNat_of_lt' (show y<256 by omega)]
     have hcut: ∀z:UInt8,List.take S (z::r)=z::List.take (S-1) r:=fun z=>by
      obtain⟨S',rfl⟩: ∃S',S=S'+1:=⟨S-1,by omega⟩
      rfl
     have hca:=Jj (UInt8.ofNat y::List.take (S-1) r) (by simp;omega)
     have hl3:(List.take (S-1) r).length<=r.length:=by rw[bU];exact Nat.min_le_right _ _
     rw[hcut];have hcd:List.drop 1 (List.take S (x0::r))=List.take (S-1) r:=by rw[hcut];rfl
     exact o7 (aN (hw8 trivial) @hcd) @hca
theorem rR (vs:List Bytes) (sd:Bytes) (a:Int) (hl:vs.length<1000000):aA Tryz.prog 37 [T vs sd a] (.b (eD vs a)):=by
 unfold eD;rw[AA,nW];have l1:(vs.map PV.s).length=vs.length:=aE ..;refine eW Tryz.call37 Tryz.func37 ?_;refine uZ ?_;refine af (α:=Nat) (fun i=>vs.length-i) (fun i=>⟨[(1, .p 1000 0 0),(3,E' i)],[(1000,⟨0,[.v (.sl (vs.map .s)), .v (.s sd), .v (.i .i64 a)],false,none⟩)],_⟩) (fun i=>i<=vs.length/\(vs.drop i).all aa=vs.all aa) 0 (fun _=>an _) ⟨aH _,rfl⟩ ?_ ?_
 ·exact lE
 ·rintro i ⟨hi,hf⟩ R hR;rw[<-hf]
  by_cases hlt:i<vs.length
  ·have e1:=eX hlt;have hgo:=hR (i+1);rw[<-hf]at hgo;rw[drop_cons hlt,List.all_cons]at hgo⊢;generalize vs.getD i []=x at*;clear hf hR;have hv:=aM x;generalize aa x=b at*;cases b
   ·repeat' first|simp only[go_sem,seval,l1,e1]|refine cP hv ?_|refine sB ?_|apply xX<;>intro hc|refine⟨oD,?_⟩|exact oD|fail
    all_goals simp
   ·have hgo:=hgo ⟨by omega,by simp⟩ oO
    exact kR (aN @l1 @e1) @hgo @hv
  ·obtain rfl:i=vs.length:=by omega
   rw[cX];repeat' first|simp only[go_sem,seval,l1]|refine sB ?_|apply xX<;>intro hc|refine⟨oD,?_⟩|exact oD|fail
   all_goals simp_all
   all_goals (intros;omega)
theorem MK {vs:List Bytes} {sd:Bytes} {i:Nat} {n:Bytes} (hv:vs.all aa=true) (hn:aa n=true) (h0:num n≠0) (hi:i<=2147483647) (hl:vs.length<1000000) (hsd:sd.length<1000000):aA Tryz.prog 151 [T vs sd i, .s n] (ic vs sd i (fA vs sd i n)):=by
 have l1:(vs.map PV.s).length=vs.length:=aE ..;have hbl:=wQ hn;have hb0:0<b9 (num n):=by unfold b9;rw[if_neg h0];omega
 have hB:=Af hn;have hA:=fun a (ha:a<256)=>DQ (sd:=sd) (at':=i) (a:=a) (len:=b9 (num n)) hsd oO oO hb0 oO
 have hC:=fun a=>vE (wL sd i a (b9 (num n))) n
 have hV:=fun a=>qk sd i a hbl
 unfold fA;generalize hf:(fun a=>wL sd i a (b9 (num n)))=f
 have hA: ∀a:Nat,a<256->aA Tryz.prog 258 [.s sd, .i .i64 i, .i .i64 a, .i .i64 (b9 (num n))] (.s (f a)):=by rw[<-hf];exact hA
 have hC: ∀a,aA Tryz.prog 51 [.s (f a), .s n] (E (aU (num (f a)) (num n))):=by
  intro a;have h:=hC a;rw[hV,hn]at h;rw[<-hf];exact h
 clear hf hV
 by_cases hvn:vs=[]
 ·have hz:vs.length=0:=by rw[hvn];rfl
  have hm0:vs.map PV.s=[]:=by rw[hvn];rfl
  rw[if_neg oO]
  by_cases hs:sd=[]\/i=2147483647
  ·rw[if_pos hs];refine eW Tryz.call151 Tryz.func151 ?_;repeat' first|simp only[go_sem,seval,if_pos hz,l1]|refine sB ?_|apply xX<;>intro hc|refine⟨oD,?_⟩|exact oD|fail
   refine⟨fun x hx=>kE hx,?_⟩
   have hnl: ∀ _:True,(([]:Bytes)==[])=true:=fun _=>rfl
   have h47: ∀ _:True,((2147483647:Int)==2147483647)=true:=fun _=>rfl
   rcases hs with rfl|rfl
   ·exact lQ (aN @l1 (aN (hnl trivial) @l1))
   ·cases hsb:sd==[]with
    |true=>
     exact lQ (aN @l1 (aN @hsb @l1))
    |false=>
     exact lQ (aN @l1 (aN @hsb (aN (h47 trivial) @l1)))
  ·rw[if_neg hs];refine eW Tryz.call151 Tryz.func151 ?_;repeat' first|simp only[go_sem,seval,if_pos hz,l1]|refine sB ?_|apply xX<;>intro hc|refine⟨oD,?_⟩|exact oD|fail
   refine⟨fun x hx=>kE hx,?_⟩
   have hs1:sd≠[]:=fun h=>hs (.inl h)
   have hs2:i≠2147483647:=fun h=>hs (.inr h)
   have hsb:(sd==[])=false:=by rw[beq_eq_false_iff_ne];exact hs1
   have hi47: ∀ _:True,((i:Int)==2147483647)=false:=fun _=>by rw[beq_eq_false_iff_ne];omega
   refine eF (aN @l1 (aN @hsb (aN (hi47 trivial) @l1))) ?_;refine af (α:=Nat) (fun a=>256-a) (fun a=>⟨[(8, .v (.i .i64 a)),(1, .v (.s n)),(2, .p 1000 0 0),(5, .p 1002 0 0),(7, .p 1010 0 0)],[(1000,⟨0,[.v (.sl (vs.map .s)), .v (.s sd), .v (.i .i64 i)],false,none⟩),(1002,⟨0,[.sn, .v (.s []), .v (.i .i64 0)],false,some 29⟩),(1010,⟨0,[.sn, .v (.s sd), .v (.i .i64 ((i:Int)+1))],false,some 29⟩)],_⟩) (fun a=>a<=256/\pU f (num n) a (256-a)=pU f (num n) 0 256) 0 (fun _=>an _) ⟨aH _,rfl⟩ ?_ ?_
   ·(refine AS.Le.of (by first|decide|omega) ?_ ?_<;>simp[dM,dL,aK,aj,AV.bd,AV.bd.bdL,u8,ai,ak,ar])
    all_goals rfl
   ·rintro a ⟨ha,hst⟩ R hR;rw[<-hst]
    by_cases hlt:a<256
    ·obtain⟨m,hm⟩: ∃m,256-a=m+1:=⟨255-a,by omega⟩
     have hAa:=hA a hlt;have hCa:=hC a;have hgo:=hR (a+1);rw[hm,pU]
     by_cases hle:num (f a)<num n
     ·rw[if_pos hle];have hcm: ∀ _:True,decide (aU (num (f a)) (num n)<0)=true:=fun _=>by rw[tu];exact decide_eq_true hle
      generalize aU (num (f a)) (num n)=cm at*;repeat' first|simp only[go_sem,seval,hcm trivial,hm0]|refine cP hB ?_|refine cP hAa ?_|refine cP hCa ?_|refine sB ?_|apply xX<;>intro hc|refine⟨oD,?_⟩|exact oD|fail
      all_goals (unfold ic;simp only[T,hm0];rfl)
     ·rw[if_neg hle];have hgo:=hgo ⟨hlt,by rw[<-hst,hm,pU,if_neg hle,show 256-(a+1)=m from by omega]⟩ oO
      have hcm: ∀ _:True,decide (aU (num (f a)) (num n)<0)=false:=fun _=>by rw[tu];exact decide_eq_false hle
      generalize aU (num (f a)) (num n)=cm at*;exact Xo (hcm trivial) @hgo @hB @hAa @hCa
    ·obtain rfl:a=256:=by omega
     exact z0
 ·obtain⟨r1,r2,r3,r4⟩:=MO vs;have hz:vs.length≠0:=fun h=>hvn (gJ.1 h)
  by_cases hiv:i<vs.length
  ·rw[if_pos hiv];have hx:aa (vs.getD i [])=true:=bz.1 hv _ (xu hiv);have hcm:=vE (vs.getD i []) n;rw[hx,hn]at hcm;simp only[db,if_true]at hcm;have e1:=eX hiv;have e2:decide (aU (num (vs.getD i [])) (num n)>=0)= !decide (num (vs.getD i [])<num n):=Po _ _;generalize aU (num (vs.getD i [])) (num n)=cm at*;generalize vs.getD i []=x at*;clear hA hC
   by_cases hle:num n<=num x
   ·rw[if_pos hle];rw[decide_eq_false (show¬num x<num n by omega)]at e2
    refine eW Tryz.call151 Tryz.func151 ?_;repeat' first|simp only[go_sem,seval,if_neg hz,l1]|refine sB ?_|apply xX<;>intro hc|refine⟨oD,?_⟩|exact oD|fail
    refine⟨⟨fun x hx=>kE hx,fun y hy=>tS hy,by omega,by omega⟩,?_⟩
    exact o7 (aN @l1 (aN @e1 @e2)) @hcm
   ·rw[if_neg hle];rw[decide_eq_true (show num x<num n by omega)]at e2
    refine eW Tryz.call151 Tryz.func151 ?_;repeat' first|simp only[go_sem,seval,if_neg hz,l1]|refine sB ?_|apply xX<;>intro hc|refine⟨oD,?_⟩|exact oD|fail
    refine⟨⟨fun x hx=>kE hx,fun y hy=>tS hy,by omega,by omega⟩,?_⟩
    repeat' first|simp only[go_sem,seval,l1,e1,e2,bR,r2,r3,r4,oF,eJ]|refine cP hcm ?_|refine sB ?_|apply xX<;>intro hc|refine⟨oD,?_⟩|exact oD|fail
    all_goals rfl
  ·rw[if_neg hiv]
   by_cases hs:sd=[]\/i=2147483647
   ·rw[if_pos hs];refine eW Tryz.call151 Tryz.func151 ?_;repeat' first|simp only[go_sem,seval,if_neg hz,l1]|refine sB ?_|apply xX<;>intro hc|refine⟨oD,?_⟩|exact oD|fail
    refine⟨⟨fun x hx=>kE hx,fun y hy=>tS hy,by omega,by omega⟩,?_⟩
    have hnl: ∀ _:True,(([]:Bytes)==[])=true:=fun _=>rfl
    have h47: ∀ _:True,((2147483647:Int)==2147483647)=true:=fun _=>rfl
    rcases hs with rfl|rfl
    ·exact lQ (aN @l1 (aN (hnl trivial) @l1))
    ·cases hsb:sd==[]with
     |true=>
      exact lQ (aN @l1 (aN @hsb @l1))
     |false=>
      exact lQ (aN @l1 (aN @hsb (aN (h47 trivial) @l1)))
   ·rw[if_neg hs];refine eW Tryz.call151 Tryz.func151 ?_;repeat' first|simp only[go_sem,seval,if_neg hz,l1]|refine sB ?_|apply xX<;>intro hc|refine⟨oD,?_⟩|exact oD|fail
    refine⟨⟨fun x hx=>kE hx,fun y hy=>tS hy,by omega,by omega⟩,?_⟩
    have hs1:sd≠[]:=fun h=>hs (.inl h)
    have hs2:i≠2147483647:=fun h=>hs (.inr h)
    have hsb:(sd==[])=false:=by rw[beq_eq_false_iff_ne];exact hs1
    have hi47: ∀ _:True,((i:Int)==2147483647)=false:=fun _=>by rw[beq_eq_false_iff_ne];omega
    refine eF (aN @l1 (aN @hsb (aN (hi47 trivial) @l1))) ?_;refine af (α:=Nat) (fun a=>256-a) (fun a=>⟨[(8, .v (.i .i64 a)),(1, .v (.s n)),(2, .p 1000 0 0),(5, .p 1002 0 0),(7, .p 1010 0 0)],[(1000,⟨0,[.v (.sl (vs.map .s)), .v (.s sd), .v (.i .i64 i)],false,none⟩),(1002,⟨0,[.sn, .v (.s []), .v (.i .i64 0)],false,some 29⟩),(1010,⟨0,[.rs 1016 0 0 vs.length 1, .v (.s sd), .v (.i .i64 ((i:Int)+1))],false,some 29⟩),(1016,⟨0,List.map AV.v (vs.map .s),true,some 22⟩)],_⟩) (fun a=>a<=256/\pU f (num n) a (256-a)=pU f (num n) 0 256) 0 (fun _=>an _) ⟨aH _,rfl⟩ ?_ ?_
    ·(refine AS.Le.of (by first|decide|omega) ?_ ?_<;>simp[dM,dL,aK,aj,AV.bd,AV.bd.bdL,u8,ai,ak,ar])
     all_goals rw[oF,iQ]
    ·rintro a ⟨ha,hst⟩ R hR;rw[<-hst]
     by_cases hlt:a<256
     ·obtain⟨m,hm⟩: ∃m,256-a=m+1:=⟨255-a,by omega⟩
      have hAa:=hA a hlt;have hCa:=hC a;have hgo:=hR (a+1);rw[hm,pU]
      by_cases hle:num (f a)<num n
      ·rw[if_pos hle];have hcm: ∀ _:True,decide (aU (num (f a)) (num n)<0)=true:=fun _=>by rw[tu];exact decide_eq_true hle
       generalize aU (num (f a)) (num n)=cm at*;repeat' first|simp only[go_sem,seval,hcm trivial,r2,r3,r4,oF,eJ]|refine cP hB ?_|refine cP hAa ?_|refine cP hCa ?_|refine sB ?_|apply xX<;>intro hc|refine⟨oD,?_⟩|exact oD|fail
       all_goals rfl
      ·rw[if_neg hle];have hgo:=hgo ⟨hlt,by rw[<-hst,hm,pU,if_neg hle,show 256-(a+1)=m from by omega]⟩ oO
       have hcm: ∀ _:True,decide (aU (num (f a)) (num n)<0)=false:=fun _=>by rw[tu];exact decide_eq_false hle
       generalize aU (num (f a)) (num n)=cm at*;exact Xo (hcm trivial) @hgo @hB @hAa @hCa
     ·obtain rfl:a=256:=by omega
      exact z0



end Go.Proofs.YtfdjchnefpefbaaGreatDoor
namespace Go.Proofs.YtfdjchnefpefbaaGreatDoor
open Go Go.Dom
set_option maxRecDepth 100000
set_option maxHeartbeats 16000000


end Go.Proofs.YtfdjchnefpefbaaGreatDoor
namespace Go.Proofs.YtfdjchnefpefbaaGreatDoor
open Go Go.Dom Go.Num
set_option maxRecDepth 100000
set_option maxHeartbeats 16000000

end Go.Proofs.YtfdjchnefpefbaaGreatDoor
namespace Go.Proofs.YtfdjchnefpefbaaGreatDoor
open Go Go.Dom Go.Num
set_option maxRecDepth 100000
set_option maxHeartbeats 8000000

end Go.Proofs.YtfdjchnefpefbaaGreatDoor
namespace Go.Proofs.YtfdjchnefpefbaaGreatDoor
open Go Go.Dom Go.Num
set_option maxRecDepth 100000
set_option maxHeartbeats 16000000
def S2:Bytes:=[98,97,110,107]
def K0:Key:=⟨S2,[77],[],[],[4],[[],[]],[],[]⟩
def K1:Key:=⟨S2,[77],[],[64],[4],[[23],[1]],[16],[60]⟩
abbrev UH:au:=⟨0,[.v (.s []), .v (.s [])],false,none⟩
def K2:Key:=⟨S2,[77],[],[64],[4],[[23],[1]],[64],[60]⟩
def Key.rb (k:Key):List Bytes:=k.z::k.u::k.h::k.r
def Key.l (k:Key):List Bytes:=k.m::k.o::k.s::k.rb
end Go.Proofs.YtfdjchnefpefbaaGreatDoor
namespace Go.Proofs.YtfdjchnefpefbaaGreatDoor
open Go Go.Dom
set_option maxRecDepth 100000
set_option maxHeartbeats 16000000
def YI (k:Key):List Bytes:=k.z::k.u::k.h::k.r
structure ZT (k:Key):Prop where
 o:k.o=[]
 gd:ie k.m []=true
 s:yp k.m [] k.s=true
 t: ∀x∈YI k,yp k.m [] x=true
 r:k.r.length<=18
end Go.Proofs.YtfdjchnefpefbaaGreatDoor
namespace Go.Proofs.YtfdjchnefpefbaaGreatDoor
open Go Go.Dom Go.Num
set_option maxRecDepth 100000
set_option maxHeartbeats 16000000

def gT (o b:Bytes) (m w:Int) (c:Nat):Int:=if b=[]then(m+c*w)%num o else m+c*w
def fM (o:Bytes) (us:List Bytes) (ms w:List Int) (c:Nat):List Int:=(List.range us.length).map fun i=>gT o (us.getD i []) (ms.getD i 0) (w.getD i 0) c
theorem DW (o:Bytes) (us:List Bytes) (ms w:List Int) (c:Nat):(fM o us ms w c).length=us.length:=by simp[fM]
theorem DV {o:Bytes} {us:List Bytes} {ms w:List Int} {c i:Nat} (h:i<us.length):(fM o us ms w c).getD i 0=gT o (us.getD i []) (ms.getD i 0) (w.getD i 0) c:=by
 simp[fM,aR,h]
def E5 (o c sl:Bytes) (us:List Bytes) (rs:List Int):Bool:=(List.range us.length).all fun i=>js (us.getD i []) (rs.getD i 0) (lR o c sl (us.getD i []))
def FK (o c sl:Bytes) (us:List Bytes) (rs:List Int):PV:=if E5 o c sl us rs then .tup [.sl (rs.map Zp),E 0]else .tup [.sl [],E 15]
theorem LK {o c sl b:Bytes} (hr:qU c sl) (lo:o.length<=8) (lb:b.length<=16):lR o c sl b<dw:=by
 unfold lR;split
 ·exact Dw lo
 ·exact PC hr lb
theorem Hw {o c sl b:Bytes} {m w:Int} {ch:Nat} (hol:num o<dw) (h64:num o<18446744073709551616) (h0:0<num o) (h:b=[]) (hx:m.natAbs+((ch:Int)*w).natAbs+18446744073709551616<dw):
  js b (gT o b m w ch) (lR o c sl b)=true/\ ∃k:Nat,aA Tryz.prog 304 [Z ((ch:Int)*w),N (lM o c sl b)] (.tup [N k,E 0])/\aA Tryz.prog 35 [N k] (Z k)/\aA Tryz.prog 305 [Z m,Z k] (.tup [Z (m+k),E 0])/\ ∃k2:Nat,aA Tryz.prog 304 [Z (m+k),N (lM o c sl b)] (.tup [N k2,E 0])/\aA Tryz.prog 35 [N k2] (Z (gT o b m w ch)):=by
 subst h;have g1:=fS ((ch:Int)*w) (b:=num o) oO;have g2:=gZ ((ch:Int)*w) (b:=num o) oO;have g3:=fS (m+ch*w) (b:=num o) oO;have g4:=gZ (m+ch*w) (b:=num o) oO;simp only[lM,lR,gT,if_true];refine⟨?_,((ch:Int)*w%num o).toNat,Rk oO hol h0,zu oO,Dl oO,((m+ch*w)%num o).toNat,?_,?_⟩
 ·simp only[js,aY,decide_eq_true_eq,decide_true,cf,fE,decide_eq_false_iff_not];omega
 ·have:=Rk (x:=m+(((ch:Int)*w%num o).toNat:Int)) (m:=num o) oO hol h0;rw[gV g1,Int.add_emod_emod]at this;rw[gV g1];exact this
 ·have:=zu (n:=((m+ch*w)%num o).toNat) oO
  rwa[gV g3]at this
theorem MM {c sl:Bytes} {s:dJ} (hp:Gg c sl s) {w ms:List Int} {ch:Nat} (hwl:w.length=s.vars.length) (hml:ms.length=s.vars.length) (hch:ch<cZ) (hI: ∀i,i<s.vars.length->(w.getD i 0).natAbs<cZ/\(ms.getD i 0).natAbs+((ch:Int)*w.getD i 0).natAbs+18446744073709551616<dw):
  aA Tryz.prog 190 [s.pv, .sl (s.vars.map (lP (bT s.groups) c sl)), .sl (w.map Zp), .sl (ms.map Zp),N ch] (FK (bT s.groups) c sl s.vars (fM (bT s.groups) s.vars ms w ch)):=by
 have hb:=hp.g.v;have nv:=hp.g.nv;have hr:=hp.r;have hov:=fq hp.g.g;have lo:=hov.2;have ho:[]∈s.vars->0<num (bT s.groups):=fun h=>Nat.pos_of_ne_zero (xY hov.1 (Bi hp.g h))
 obtain⟨gs,us,es⟩:=s;simp only at hb nv hwl hml hI lo ho⊢;clear hp hov;generalize bT gs=o at*;have h64:=dY lo;have hol:=Dw lo;have l2:(us.map dO).length=us.length:=aE ..;have l3:(us.map (lP o c sl)).length=us.length:=aE ..;have l4:(w.map Zp).length=us.length:=by rw[aE];exact hwl
 have l5:(ms.map Zp).length=us.length:=by rw[aE];exact hml
 have hF:=zu (n:=ch) (bj hch BV);have hrl:=DW o us ms w ch;have rS: ∀{j:Nat},j<us.length->bO Zp ((fM o us ms w ch).take (j+1))=bO Zp ((fM o us ms w ch).take j)++[.v (.b (zs ((fM o us ms w ch).getD j 0))), .v (.s (zb ((fM o us ms w ch).getD j 0)))]:=fun h=>by
  rw[bu 0 oO,HS]
 unfold dJ.pv;simp only
 by_cases hpos:0<us.length
 rotate_left
 ·obtain rfl:us=[]:=gJ.1 oO;refine eW Tryz.call190 Tryz.func190 ?_;exact U2
 refine eW Tryz.call190 Tryz.func190 ?_;refine eF @l2 ?_;refine ah ?_;have e1:=getD_map dO us [] hpos;have e2:=getD_map (lP o c sl) us [] hpos;have e3:=getD_map Zp w 0 (i:=0) oO;have e4:=getD_map Zp ms 0 (i:=0) oO;have kb:=hb _ (az [] hpos);have hk:=nO (us.getD 0 []);have hx:=hI 0 hpos;have hp:=Ly (x:=(ch:Int)) (y:=w.getD 0 0) (by simpa using hch) hx.1
 have hgr:=DV (o:=o) (ms:=ms) (w:=w) (c:=ch) hpos;have hgk: ∀k,k<0+1->(∀q,q<0->js (us.getD q []) ((fM o us ms w ch).getD q 0) (lR o c sl (us.getD q []))=true)->js (us.getD 0 []) ((fM o us ms w ch).getD 0 0) (lR o c sl (us.getD 0 []))=true->js (us.getD k []) ((fM o us ms w ch).getD k 0) (lR o c sl (us.getD k []))=true:=fun k hk h1 h2=>by
  by_cases hkj:k<0
  ·exact h1 k hkj
  ·obtain rfl:k=0:=by omega
   exact h2
 rw[hgr]at hgk;have hbad:=fun h: ¬js (us.getD 0 []) ((fM o us ms w ch).getD 0 0) (lR o c sl (us.getD 0 []))=true=>pd (p:=fun i=>js (us.getD i []) ((fM o us ms w ch).getD i 0) (lR o c sl (us.getD i []))) hpos (eZ.2 h)
 rw[<-E5,hgr]at hbad;have r1:=rS hpos;rw[hgr]at r1;have hcs:(us.getD 0 []≠[]/\js (us.getD 0 []) (gT o (us.getD 0 []) (ms.getD 0 0) (w.getD 0 0) ch) (lR o c sl (us.getD 0 []))=false/\aA Tryz.prog 305 [Z (ms.getD 0 0),Z ((ch:Int)*w.getD 0 0)] (.tup [Z (gT o (us.getD 0 []) (ms.getD 0 0) (w.getD 0 0) ch),E 0])/\aA Tryz.prog 189 [dO (us.getD 0 []),Zp (gT o (us.getD 0 []) (ms.getD 0 0) (w.getD 0 0) ch),N (lR o c sl (us.getD 0 []))] (.b false))\/
   (us.getD 0 []=[]/\js (us.getD 0 []) (gT o (us.getD 0 []) (ms.getD 0 0) (w.getD 0 0) ch) (lR o c sl (us.getD 0 []))=true/\ ∃k:Nat,aA Tryz.prog 304 [Z ((ch:Int)*w.getD 0 0),N (lM o c sl (us.getD 0 []))] (.tup [N k,E 0])/\aA Tryz.prog 35 [N k] (Z k)/\aA Tryz.prog 305 [Z (ms.getD 0 0),Z k] (.tup [Z (ms.getD 0 0+k),E 0])/\ ∃k2:Nat,aA Tryz.prog 304 [Z (ms.getD 0 0+k),N (lM o c sl (us.getD 0 []))] (.tup [N k2,E 0])/\aA Tryz.prog 35 [N k2] (Z (gT o (us.getD 0 []) (ms.getD 0 0) (w.getD 0 0) ch)))\/
   (us.getD 0 []≠[]/\js (us.getD 0 []) (gT o (us.getD 0 []) (ms.getD 0 0) (w.getD 0 0) ch) (lR o c sl (us.getD 0 []))=true/\aA Tryz.prog 305 [Z (ms.getD 0 0),Z ((ch:Int)*w.getD 0 0)] (.tup [Z (gT o (us.getD 0 []) (ms.getD 0 0) (w.getD 0 0) ch),E 0])/\aA Tryz.prog 189 [dO (us.getD 0 []),Zp (gT o (us.getD 0 []) (ms.getD 0 0) (w.getD 0 0) ch),N (lR o c sl (us.getD 0 []))] (.b true)):=by
  by_cases h:us.getD 0 []=[]
  ·exact .inr (.inl ⟨h,Hw hol h64 (ho (by rw[<-h];exact az [] hpos)) h hx.2⟩)
  ·have h1:aA Tryz.prog 305 [Z (ms.getD 0 0),Z ((ch:Int)*w.getD 0 0)] (.tup [Z (gT o (us.getD 0 []) (ms.getD 0 0) (w.getD 0 0) ch),E 0]):=by
    rw[gT,if_neg h];exact Dl oO
   have h2:=vH (us.getD 0 []) (x:=gT o (us.getD 0 []) (ms.getD 0 0) (w.getD 0 0) ch) (L:=lR o c sl (us.getD 0 [])) (by rw[gT,if_neg h];have:=Int.natAbs_add_le (ms.getD 0 0) (ch*w.getD 0 0);omega) (LK hr lo kb.2)
   cases hin:js (us.getD 0 []) (gT o (us.getD 0 []) (ms.getD 0 0) (w.getD 0 0) ch) (lR o c sl (us.getD 0 []))
   ·rw[hin]at h2;exact .inl ⟨h,rfl,h1,h2⟩
   ·rw[hin]at h2;exact .inr (.inr ⟨h,rfl,h1,h2⟩)
 clear hx kb;generalize gT o (us.getD 0 []) (ms.getD 0 0) (w.getD 0 0) ch=z at*;generalize hu0:us.getD 0 []=u at*;simp only[dO]at e1 hk hcs;simp only[lP]at e2;generalize lM o c sl u=M at*;generalize lR o c sl u=Rr at*;simp only[Zp,eC,lO]at e3 e4 hcs;rcases hcs with⟨hu,hgd,m1,m2⟩|⟨hu,hgd,k,m1,m2,m3,k2,m4,m5⟩|⟨hu,hgd,m1,m2⟩
 ·rw[if_neg hu]at hk;rw[FK,hbad (by simp[hgd])]
  exact XD (aN @l2 (aN @l3 (aN @l4 (aN @l5 (aN @e1 (aN @e2 (aN @e3 @e4))))))) @hk @hF @hp @m1 @m2
 all_goals
  first|rw[if_pos hu]at hk|rw[if_neg hu]at hk
  repeat' first|simp only[go_sem,seval,l2,l3,l4,l5,e1,e2,e3,e4]|refine cP hk ?_|refine cP hF ?_|refine cP hp ?_|refine cP m1 ?_|refine cP m2 ?_|refine cP m3 ?_|refine cP m4 ?_|refine cP m5 ?_|refine sB ?_|apply xX<;>intro hc|refine⟨oD,?_⟩|exact oD|fail
  obtain⟨nm,hnm⟩: ∃nm,nm=(if u=[]then 1074 else 1059):=⟨_,rfl⟩
  first|rw[if_pos hu]at hnm|rw[if_neg hu]at hnm
  refine af (α:=Nat) (fun j=>us.length-(j+1)) (fun j=>⟨[(1, .v (.sl (us.map (lP o c sl)))),(2, .v (.sl (w.map Zp))),(3, .v (.sl (ms.map Zp))),(4, .v (N ch)),(5, .p 1000 0 0),(12, .rs nm j 0 (j+1) 2),(28, .v (.sl (us.map dO))),(29,E' us.length),(30,E' (j+1))],[(1000,⟨0,[.v (.sl (gs.map gO)), .v (.sl (us.map dO)), .v (.sl (es.map eH.pv))],false,none⟩),(nm,⟨j,bO Zp ((fM o us ms w ch).take (j+1)),true,some 89⟩)],nm+4⟩) (fun j=>j+1<=us.length/\ ∀k,k<j+1->js (us.getD k []) ((fM o us ms w ch).getD k 0) (lR o c sl (us.getD k []))=true) 0 (fun _=>by show _<=nm+4;rw[hnm];exact cC rfl) ⟨hpos,fun k hk=>hgk k hk (fun j hj=>by omega) hgd⟩ ?_ ?_<;>subst hnm
  ·rw[r1,List.take_zero,show bO Zp ([]:List Int)=[]from rfl,List.nil_append]
   exact lE
  ·clear e1 e2 e3 e4 hk hgr hbad r1 hgk hgd m1 m2 hu0 hp
   first|clear m3 m4 m5|skip
   rintro j ⟨hj,hall⟩ R hR;have hlm:((fM o us ms w ch).take (j+1)).length=j+1:=by rw[bU];omega
   have q1:=de Ew ((fM o us ms w ch).take (j+1));have q2:=dK Ew ((fM o us ms w ch).take (j+1));rw[hlm]at q1 q2
   by_cases hlt:j+1<us.length
   ·have e1:=getD_map dO us [] hlt;have e2:=getD_map (lP o c sl) us [] hlt;have e3:=getD_map Zp w 0 (i:=(j+1)) oO;have e4:=getD_map Zp ms 0 (i:=(j+1)) oO;have kb:=hb _ (az [] hlt);have hk:=nO (us.getD (j+1) []);have hx:=hI (j+1) hlt;have hp:=Ly (x:=(ch:Int)) (y:=w.getD (j+1) 0) (by simpa using hch) hx.1
    have hgr:=DV (o:=o) (ms:=ms) (w:=w) (c:=ch) hlt;have hgk: ∀k,k<(j+1)+1->(∀q,q<(j+1)->js (us.getD q []) ((fM o us ms w ch).getD q 0) (lR o c sl (us.getD q []))=true)->js (us.getD (j+1) []) ((fM o us ms w ch).getD (j+1) 0) (lR o c sl (us.getD (j+1) []))=true->js (us.getD k []) ((fM o us ms w ch).getD k 0) (lR o c sl (us.getD k []))=true:=fun k hk h1 h2=>by
     by_cases hkj:k<(j+1)
     ·exact h1 k hkj
     ·obtain rfl:k=(j+1):=by omega
      exact h2
    rw[hgr]at hgk;have hbad:=fun h: ¬js (us.getD (j+1) []) ((fM o us ms w ch).getD (j+1) 0) (lR o c sl (us.getD (j+1) []))=true=>pd (p:=fun i=>js (us.getD i []) ((fM o us ms w ch).getD i 0) (lR o c sl (us.getD i []))) hlt (eZ.2 h)
    rw[<-E5,hgr]at hbad;have r1:=rS hlt;rw[hgr]at r1;have hcs:(us.getD (j+1) []≠[]/\js (us.getD (j+1) []) (gT o (us.getD (j+1) []) (ms.getD (j+1) 0) (w.getD (j+1) 0) ch) (lR o c sl (us.getD (j+1) []))=false/\aA Tryz.prog 305 [Z (ms.getD (j+1) 0),Z ((ch:Int)*w.getD (j+1) 0)] (.tup [Z (gT o (us.getD (j+1) []) (ms.getD (j+1) 0) (w.getD (j+1) 0) ch),E 0])/\aA Tryz.prog 189 [dO (us.getD (j+1) []),Zp (gT o (us.getD (j+1) []) (ms.getD (j+1) 0) (w.getD (j+1) 0) ch),N (lR o c sl (us.getD (j+1) []))] (.b false))\/
      (us.getD (j+1) []=[]/\js (us.getD (j+1) []) (gT o (us.getD (j+1) []) (ms.getD (j+1) 0) (w.getD (j+1) 0) ch) (lR o c sl (us.getD (j+1) []))=true/\ ∃k:Nat,aA Tryz.prog 304 [Z ((ch:Int)*w.getD (j+1) 0),N (lM o c sl (us.getD (j+1) []))] (.tup [N k,E 0])/\aA Tryz.prog 35 [N k] (Z k)/\aA Tryz.prog 305 [Z (ms.getD (j+1) 0),Z k] (.tup [Z (ms.getD (j+1) 0+k),E 0])/\ ∃k2:Nat,aA Tryz.prog 304 [Z (ms.getD (j+1) 0+k),N (lM o c sl (us.getD (j+1) []))] (.tup [N k2,E 0])/\aA Tryz.prog 35 [N k2] (Z (gT o (us.getD (j+1) []) (ms.getD (j+1) 0) (w.getD (j+1) 0) ch)))\/
      (us.getD (j+1) []≠[]/\js (us.getD (j+1) []) (gT o (us.getD (j+1) []) (ms.getD (j+1) 0) (w.getD (j+1) 0) ch) (lR o c sl (us.getD (j+1) []))=true/\aA Tryz.prog 305 [Z (ms.getD (j+1) 0),Z ((ch:Int)*w.getD (j+1) 0)] (.tup [Z (gT o (us.getD (j+1) []) (ms.getD (j+1) 0) (w.getD (j+1) 0) ch),E 0])/\aA Tryz.prog 189 [dO (us.getD (j+1) []),Zp (gT o (us.getD (j+1) []) (ms.getD (j+1) 0) (w.getD (j+1) 0) ch),N (lR o c sl (us.getD (j+1) []))] (.b true)):=by
     by_cases h:us.getD (j+1) []=[]
     ·exact .inr (.inl ⟨h,Hw hol h64 (ho (by rw[<-h];exact az [] hlt)) h hx.2⟩)
     ·have h1:aA Tryz.prog 305 [Z (ms.getD (j+1) 0),Z ((ch:Int)*w.getD (j+1) 0)] (.tup [Z (gT o (us.getD (j+1) []) (ms.getD (j+1) 0) (w.getD (j+1) 0) ch),E 0]):=by
       rw[gT,if_neg h];exact Dl oO
      have h2:=vH (us.getD (j+1) []) (x:=gT o (us.getD (j+1) []) (ms.getD (j+1) 0) (w.getD (j+1) 0) ch) (L:=lR o c sl (us.getD (j+1) [])) (by rw[gT,if_neg h];have:=Int.natAbs_add_le (ms.getD (j+1) 0) (ch*w.getD (j+1) 0);omega) (LK hr lo kb.2)
      cases hin:js (us.getD (j+1) []) (gT o (us.getD (j+1) []) (ms.getD (j+1) 0) (w.getD (j+1) 0) ch) (lR o c sl (us.getD (j+1) []))
      ·rw[hin]at h2;exact .inl ⟨h,rfl,h1,h2⟩
      ·rw[hin]at h2;exact .inr (.inr ⟨h,rfl,h1,h2⟩)
    clear hx kb;generalize gT o (us.getD (j+1) []) (ms.getD (j+1) 0) (w.getD (j+1) 0) ch=z at*;generalize hu0:us.getD (j+1) []=u at*;simp only[dO]at e1 hk hcs;simp only[lP]at e2;generalize lM o c sl u=M at*;generalize lR o c sl u=Rr at*;simp only[Zp,eC,lO]at e3 e4 hcs;rcases hcs with⟨hu,hgd,m1,m2⟩|⟨hu,hgd,k,m1,m2,m3,k2,m4,m5⟩|⟨hu,hgd,m1,m2⟩
    ·rw[if_neg hu]at hk;rw[FK,hbad (by simp[hgd])]
     clear hR hall hgk;exact XD (aN @l2 (aN @l3 (aN @l4 (aN @l5 (aN @e1 (aN @e2 (aN @e3 (aN @e4 (aN @q1 @q2))))))))) @hk @hF @hp @m1 @m2
    all_goals
     have hgo:=hR (j+1) ⟨by omega,fun k hk=>hgk k hk hall hgd⟩ oO
     rw[r1]at hgo;clear hR hall hgk
     first|rw[if_pos hu]at hk|rw[if_neg hu]at hk
     repeat' first|simp only[go_sem,seval,l2,l3,l4,l5,e1,e2,e3,e4,q1,q2]|refine cP hk ?_|refine cP hF ?_|refine cP hp ?_|refine cP m1 ?_|refine cP m2 ?_|refine cP m3 ?_|refine cP m4 ?_|refine cP m5 ?_|refine sB ?_|apply xX<;>intro hc|refine⟨oD,?_⟩|exact oD|fail
     refine hgo _ ?_;refine lG ?_;all_goals exact fun c hc=>by rcases hc with hc|rfl|rfl<;>first|exact eu hc|rfl
   ·have hjl:us.length=j+1:=by omega
    have hgood2:E5 o c sl us (fM o us ms w ch)=true:=oz fun k hk=>hall k oO
    rw[FK,hgood2];have hT:(fM o us ms w ch).take (j+1)=fM o us ms w ch:=cd oO;rw[hT]at q1 q2⊢;have q3:=fk Ew (fM o us ms w ch);have q4:=dA Ew (fM o us ms w ch);rw[hrl,hjl]at q4;rw[hjl];clear hR;repeat' first|simp only[go_sem,seval,l2,hjl,q1,q2,q3,q4,e9]|refine sB ?_|apply xX<;>intro hc|refine⟨oD,?_⟩|exact oD|fail
    all_goals rfl
theorem LV {w:List Int} {n:Nat} {P:Int->Prop} (hwl:w.length=n) (h: ∀i,i<n->P (w.getD i 0)): ∀x∈w,P x:=fun x hx=>by
 obtain⟨j,hj,rfl⟩:=gN hx;have:=h j oO
 rwa[aR,bJ hj]at this
theorem Tn {o:Bytes} {us:List Bytes} {w:List Int} (h:Be o us w=true) {i:Nat} (hi:i<us.length):js (us.getD i []) (w.getD i 0) (fb o (us.getD i []))=true:=bz.1 h i (cM.2 hi)
theorem Kp {o b:Bytes} (lo:o.length<=8) (lb:b.length<=16):fb o b<=cZ:=by
 unfold fb;split
 ·exact jR (bj (dY lo) r9)
 ·exact jR (Hb lb)
theorem EC {c sl:Bytes} {s:dJ} (hp:Gg c sl s) {w ms:List Int} {ch:Nat} (hwl:w.length=s.vars.length) (hml:ms.length=s.vars.length) (hch:ch<num c) (hW:Be (bT s.groups) s.vars w=true) (hM: ∀i,i<s.vars.length->js (s.vars.getD i []) (ms.getD i 0) (lM (bT s.groups) c sl (s.vars.getD i []))=true):
  aA Tryz.prog 102 [.agg [.s c, .s sl],s.pv, .sl (w.map Zp), .sl (ms.map Zp),N ch] (FK (bT s.groups) c sl s.vars (fM (bT s.groups) s.vars ms w ch)):=by
 have hr:=hp.r;have hb:=hp.g.v;have nv:=hp.g.nv;have lo:=(fq hp.g.g).2;have hbo:=yt hp;have c8:=dY hr.lc;have h64:=nP;have h128:=r9;have hwb: ∀i,i<s.vars.length->(w.getD i 0).natAbs<cZ:=fun i hi=>bj (Bd (Tn hW hi)).1 (Kp lo (hb _ (az [] hi)).2)
 have hmb: ∀i,i<s.vars.length->(ms.getD i 0).natAbs<256^33:=fun i hi=>ix (Bd (hM i hi)).1 (LJ hr lo (hb _ (az [] hi)).2)
 have h33:256^33+18446744073709551616*cZ+18446744073709551616<dw:=by unfold dw cZ;decide+kernel
 have hwA: ∀x∈w,x.natAbs<dw:=LV hwl fun i hi=>bj (hwb i hi) BV
 have hmA: ∀x∈ms,x.natAbs<dw:=LV hml fun i hi=>by have:=hmb i hi;omega
 have hv1:=Aq (w.map lO) (by rw[aE];omega)
 have hv2:=Aq (ms.map lO) (by rw[aE];omega)
 have hrg:=QA hp.g hwl hwA;rw[Xw,vw hwA]at hv1;rw[Xw,vw hmA]at hv2;rw[hW]at hrg;have hn:=aJ (aO ch);rw[vB oO]at hn;have hcm:=rh (a:=ch) (b:=num c) oO oO;rw[eV hr.vc]at hcm;have hd: ∀ _:True,decide (aU ch (num c)>=0)=false:=fun _=>by rw[Po,decide_eq_true hch];rfl
 have hre:=MM hp hwl hml (ch:=ch) oO (fun i hi=>by
  refine⟨hwb i hi,?_⟩;have h1:=hmb i hi;have h2:((ch:Int)*w.getD i 0).natAbs<=18446744073709551616*cZ:=by
   rw[kI,Int.natAbs_natCast];exact jP oO (jR (hwb i hi))
  omega)
 have hmL: ∀i,i<s.vars.length->aA Tryz.prog 189 [dO (s.vars.getD i []),Zp (ms.getD i 0),N (lM (bT s.groups) c sl (s.vars.getD i []))] (.b true):=fun i hi=>by
  have:=vH (s.vars.getD i []) (x:=ms.getD i 0) (L:=lM (bT s.groups) c sl (s.vars.getD i [])) (by have:=hmb i hi;omega) (Rq hr lo (hb _ (az [] hi)).2)
  rwa[hM i hi]at this
 generalize aU ch (num c)=cm at*;generalize fM (bT s.groups) s.vars ms w ch=rs at*;unfold FK at*;obtain⟨gs,us,es⟩:=s;simp only at nv hwl hml hmL hre hbo⊢;generalize bT gs=o at*;have l2:(us.map dO).length=us.length:=aE ..;have l3:(us.map (lP o c sl)).length=us.length:=aE ..;have l4:(w.map Zp).length=us.length:=by rw[aE];exact hwl
 have l5:(ms.map Zp).length=us.length:=by rw[aE];exact hml
 clear hW hwb hmb hM hwA hmA h33 h64 hb hp hr;unfold dJ.pv at*;simp only at*;refine eW Tryz.call102 Tryz.func102 ?_;refine Xr (aN @l2 (aN @l4 (aN @l5 (hd trivial)))) @hbo @hv1 @hv2 @hn @hcm @hrg ?_;refine af (α:=Nat) (fun i=>us.length-i) (fun i=>⟨[(2, .v (.sl (w.map Zp))),(3, .v (.sl (ms.map Zp))),(4, .v (N ch)),(6, .p 1001 0 0),(12, .v (.sl (us.map (lP o c sl)))),(68, .v (.sl (us.map dO))),(69,E' us.length),(70,E' i)],[(1001,⟨0,[.v (.sl (gs.map gO)), .v (.sl (us.map dO)), .v (.sl (es.map eH.pv))],false,none⟩)],_⟩) (fun i=>i<=us.length) 0 (fun _=>an _) (aH _) ?_ ?_
 ·exact lE
 ·intro i hi R hR
  by_cases hlt:i<us.length
  ·have hgo:=hR (i+1) oO oO;have e1:=getD_map dO us [] hlt;have e2:=getD_map (lP o c sl) us [] hlt;have e4:=getD_map Zp ms 0 (i:=i) oO;have hc:=hmL i hlt;clear hR hmL hre hv1 hv2;simp only[lP]at e2;generalize lM o c sl (us.getD i [])=M at*;generalize us.getD i []=u at*;generalize ms.getD i 0=x at*;simp only[dO]at e1 hc;simp only[Zp,eC,lO]at e4 hc;exact kR (aN @l2 (aN @l3 (aN @l5 (aN @e1 (aN @e2 @e4))))) @hgo @hc
  ·obtain rfl:i=us.length:=by omega
   clear hR hmL;generalize E5 o c sl us rs=b at*;cases b
   ·exact z1 @hre
   ·exact z1 @hre


theorem Hl {vs:List Bytes} {sd:Bytes} {i:Nat} {n:Bytes} (hv:vs.all aa=true) (hn:aa n=true) (h0:n≠[]) (hi:i<=2147483647) (hl:vs.length<1000000) (hsd:sd.length<1000000):aA Tryz.prog 84 [T vs sd i, .s n] (ic vs sd i (fA vs sd i n)):=by
 have h1:=rR vs sd i hl;rw[oG hv hi]at h1;have h3:=aM n;rw[hn]at h3;have hb:(n==([]:Bytes))=false:=by simpa using h0
 have h2:=MK (sd:=sd) hv hn (xY hn h0) hi hl hsd;generalize fA vs sd i n=r at*
 cases r with
 |ok x=>
  unfold ic at*;refine eW Tryz.call84 Tryz.func84 ?_;exact JJ @hb @h1 @h3 @h2
 |error e=>
  unfold ic at*;refine eW Tryz.call84 Tryz.func84 ?_;exact JJ @hb @h1 @h3 @h2
end Go.Proofs.YtfdjchnefpefbaaGreatDoor
