/- Part of the proof. -/
import Derived.Test.YthlapgdhjcddkaaGreatDoorUF32
import Derived.WideLaws
import Derived.Tactics
import Derived.Tactics2
set_option linter.all false
set_option maxHeartbeats 16000000
set_option maxRecDepth 100000
namespace Go.Proofs.Tryz
open Go Go.Dom
end Go.Proofs.Tryz
namespace Go.Proofs.Tryz
open Go Go.Dom Go.Num
variable {c sl:Bytes}



def mq (c sl:Bytes) (s:aT):Int:=if !(ae c&&ae sl)then 3 else if mP s≠0 then mP s else if decide (num c<2)||decide (num sl<2)then 2 else if(s.vars.any fun b=>b==[])&&decide (num (ba s.groups)<num c)then 2 else 0
theorem rD {s:aT} (lc:c.length<=8) (ls:sl.length<=8) (hb:qH s) (h:mq c sl s=0):xQ c sl s:=by
 unfold mq at h
 split at h
 ·cases h
 rename_i hv
 split at h
 ·rename_i h2;exact aJ h h2
 rename_i hl
 split at h
 ·cases h
 rename_i h2
 split at h
 ·cases h
 rename_i hm;simp only[fW,Bool.not_eq_false,bc,vM,a8,not_or,Nat.not_lt,not_and,ne_eq,Decidable.not_not]at hv h2 hm hl;refine⟨⟨hv.1,hv.2,lc,ls,h2.1,h2.2⟩,yv hb hl,fun b hb0 hbe=>hm ?_⟩
 rw[m9];exact⟨b,hb0,by simp[hbe]⟩
theorem I0 (x:Nat):decide (a7 x 2<0)=decide (x<2):=by rw[cu];simp[fZ]
theorem I1 (x y:Nat):decide (a7 x y>0)=decide (y<x):=by rw[cu];simp only[a8];rw[Nj]
theorem Ym {s:aT} (hb:qH s) (hE:mq c sl s≠0):aH 132 [.agg [.s c, .s sl],s.pv] (.tup [.sl [],E (mq c sl s)]):=by
 have hck:=yu hb;have v1:=aX c;have v2:=aX sl;have hor:=xb s (by have:=hb.ng;omega)
 have hst: ∀ _:mP s=0,ae (ba s.groups)=true:=fun h=>(dZ (yv hb h).g).1
 have nv:=hb.nv;unfold mq at hE⊢;obtain⟨gs,vs,es⟩:=s;simp only at nv hor hst hE⊢;have l2:(vs.map bO).length=vs.length:=au ..
 by_cases hv:ae c=true/\ae sl=true
 case neg=>
  have hv':(ae c&&ae sl)=false:=by rw[dR];intro g;simp at g;exact hv g
  rw[hv',dW,af rfl];clear hE hst hv;generalize ae c=b1 at*;generalize ae sl=b2 at*;unfold aT.pv at*;refine eW call132 func132 ?_;exact Ut @v1 @v2
 obtain⟨vc,Vn⟩:=hv;rw[vc]at v1;rw[Vn]at v2;rw[vc,Vn]at hE⊢;rw[dF,dy,aa (by simp)]at hE⊢
 by_cases hl:mP ⟨gs,vs,es⟩=0
 case neg=>
  rw[af hl];have hb2:(mP ⟨gs,vs,es⟩ !=0)=true:=by simpa using hl
  clear hE hst;generalize mP ⟨gs,vs,es⟩=e at*;unfold aT.pv at*;refine eW call132 func132 ?_;exact ry @hb2 @v1 @v2 @hck oT
 have vq:=hst hl;rw[hl]at hck;rw[aa (by simpa using hl)]at hE⊢
 clear hl hst;have c1:=Dj vc;have c2:=Dj Vn;have d1:=I0 (num c);have d2:=I0 (num sl);have c3:=nA vc vq;have d3:=I1 (num c) (num (ba gs));generalize a7 (num c) 2=cm1 at*;generalize a7 (num sl) 2=cm2 at*;generalize a7 (num c) (num (ba gs))=cm3 at*
 cases hb1:decide (num c<2)with
 |true=>
  rw[hb1]at d1;rw[iI,af rfl];clear hE;unfold aT.pv at*;refine eW call132 func132 ?_;exact Uq @d1 @v1 @v2 @hck @VM @c1 oT oT
 |false=>
 rw[hb1]at d1;rw[hb1,eH]at hE;rw[eH]
 cases hb2:decide (num sl<2)with
 |true=>
  rw[hb2]at d2;rw[af rfl];clear hE;unfold aT.pv at*;refine eW call132 func132 ?_;exact Uq (aN @d1 @d2) @v1 @v2 @hck @VM @c1 @c2 oT
 |false=>
 rw[hb2]at d2;rw[hb2,aa (by simp)]at hE
 rw[aa (by simp)]
 have hE:(vs.any fun b=>b==[])=true/\decide (num (ba gs)<num c)=true:=by
  by_cases h:((vs.any fun b=>b==[])&&decide (num (ba gs)<num c))=true
  ·simpa using h
  ·rw[aa h]at hE;exact aJ rfl hE
 obtain⟨ha,hd⟩:=hE;rw[ha,hd,dF,af rfl];rw[hd]at d3;generalize ba gs=q at*;clear hb1 hb2 hd vq;unfold aT.pv at*;simp only at*;refine eW call132 func132 ?_;refine Hb (aN @d1 (aN @d2 @l2)) @v1 @v2 @hck @VM @c1 @c2 @hor ?_;refine ah (α:=Nat) (fun i=>vs.length-i) (fun i=>⟨[(2, .p 1000 0 0),(3, .p 1001 0 0),(8, .p 1037 0 0),(50, .v (.sl (vs.map bO))),(51,E' vs.length),(52,E' i)],[(1000,⟨0,[.v (.s c), .v (.s sl)],false,none⟩),(1001,⟨0,[.v (.sl (gs.map cz)), .v (.sl (vs.map bO)), .v (.sl (es.map bZ.pv))],false,none⟩),(1037,⟨0,[.v (.s c), .v (.s sl), .v (.s q)],false,some 270⟩)],_⟩) (fun i=>i<=vs.length/\((vs.drop i).any fun b=>b==[])=true) 0 (fun _=>aA _) ⟨aD _,ha⟩ ?_ ?_
 ·exact lE
 ·rintro i ⟨hi,hx⟩ R hR
  by_cases hlt:i<vs.length
  ·have e1:=getD_map bO vs [] hlt;have hk:=pc (vs.getD i []);have hgo:=fun h=>hR (i+1) ⟨oO,h⟩ oO
   rw[aE [] hlt,List.any_cons]at hx;clear hR;generalize vs.getD i []=b at*;simp only[bO]at e1 hk
   by_cases hb:b=[]
   ·rw[af hb]at hk;exact vV (aN @l2 (aN @e1 @d3)) @hk @c3
   ·rw[aa hb]at hk;have hb0:(b==([]:Bytes))=false:=by simpa using hb
    rw[hb0,eH]at hx;refine gR (aN @l2 @e1) @hk ?_;refine hgo hx _ ?_;exact lE
  ·obtain rfl:i=vs.length:=oO;rw[bw]at hx;cases hx
theorem aaE {s:aT} (hb:qH s) (hE:mq c sl s≠0):aH 70 [.agg [.s c, .s sl],s.pv] (.tup [.sl [], .sl [],E (mq c sl s)]):=by
 have h:=Ym hb hE;have hb2:(mq c sl s !=0)=true:=by simpa using hE
 generalize mq c sl s=e at*;obtain⟨gs,vs,es⟩:=s;unfold aT.pv at*;refine eW call70 func70 ?_;exact iE @hb2 @h
end Go.Proofs.Tryz
namespace Go.Dom
def Cg (q a b:Int):Prop:= ∃k,a-b=q*k
namespace Cg
variable {q a b c d:Int}
theorem PO (a:Int):Cg q a a:=⟨0,by grind⟩
theorem of_eq (h:a=b):Cg q a b:=h▸PO a
theorem symm (h:Cg q a b):Cg q b a:=by obtain⟨k,h⟩:=h;exact⟨-k,by grind⟩
theorem trans (h:Cg q a b) (g:Cg q b c):Cg q a c:=by
 obtain⟨k,h⟩:=h;obtain⟨l,g⟩:=g;exact⟨k+l,by grind⟩
theorem add (h:Cg q a b) (g:Cg q c d):Cg q (a+c) (b+d):=by
 obtain⟨k,h⟩:=h;obtain⟨l,g⟩:=g;exact⟨k+l,by grind⟩
theorem sub (h:Cg q a b) (g:Cg q c d):Cg q (a-c) (b-d):=by
 obtain⟨k,h⟩:=h;obtain⟨l,g⟩:=g;exact⟨k-l,by grind⟩
theorem mul (h:Cg q a b) (g:Cg q c d):Cg q (a*c) (b*d):=by
 obtain⟨k,h⟩:=h;obtain⟨l,g⟩:=g;exact⟨k*c+b*l,by grind⟩
end Cg
def Iv (q a:Int):Prop:= ∃b,Cg q (a*b) 1
theorem Iv.mul {q a b:Int} (h:Iv q a) (g:Iv q b):Iv q (a*b):=by
 obtain⟨x,h⟩:=h;obtain⟨y,g⟩:=g;exact⟨x*y,(Cg.of_eq (by grind)).trans (h.mul g)⟩
theorem Iv.one (q:Int):Iv q 1:=⟨1,Cg.of_eq rfl⟩
theorem Iv.neg {q a:Int} (h:Iv q a):Iv q (-a):=by
 obtain⟨x,h⟩:=h;exact⟨-x,(Cg.of_eq (by grind)).trans h⟩
def evP:List Int->Int->Int
 |[],_=>0
 |a::p,x=>a+x*evP p x
def quo (a:Int):List Int->List Int
 |[]=>[]
 | _::p=>match p with
  |[]=>[]
  |b::r=>evP (b::r) a::quo a (b::r)
def Q1:List Int->List Int->List Int
 |[],b=>b
 |a,[]=>a
 |a::p,b::r=>(a+b)::Q1 p r
variable {q:Int} {l:List Int} {w:Nat->Int}
end Go.Dom
namespace Go.Dom
def mdP (q:Int) (p:List Int):List Int:=p.map (·%q)
def pz (q:Int) (p:List Int) (a:Int):List Int:=mdP q (Q1 (0::p) (p.map (-a* ·)))
def HQ (q:Int) (l:List Int):List Int:=l.foldl (pz q) [1]
def Hd (q x:Int) (l:List Int):Int:=l.foldl (fun s a=>s*((x-a)%q)%q) 1
def Fe (q:Int) (P:Nat->List Int) (f:Nat->Int) (j:Nat):Nat->Int
 |0=>0
 |i+1=>(Fe q P f j i+(P i).getD j 0*f i%q)%q
def hnP (q:Int) (p:List Int) (x:Int):Int:=p.foldr (fun a y=>(y*x%q+a)%q) 0
variable {m:Nat}
variable {q:Nat} {l:List Int} {w:Nat->Int}
end Go.Dom
namespace Go.Dom
def Ug (q:Int) (l:List Int) (f:Nat->Int):List Int:=(List.range l.length).map fun j=>Fe q (fun k=>HQ q (l.eraseIdx k)) f j l.length
end Go.Dom
namespace Go.Dom
open Go.Num
end Go.Dom
namespace Go.Dom
open Go.RowKit Go.Num
def nI (l:List Nat):List Int:=l.map fun a:Nat=>(a:Int)
def tN (l:List Int):List Nat:=l.map Int.toNat
section
variable {α:Type} [DecidableEq α] {st:Bool} {κ:α->PV}
end
end Go.Dom
namespace Go.Proofs.Tryz
open Go Go.Dom Go.Num
variable {b c o sl:Bytes} {ch i:Nat} {us vs:List Bytes}
theorem acP {a b m:Nat} (h0:0<m):(((a:Int)-b)%m).toNat=if b%m=0 then a%m else(a%m+(m-b%m))%m:=by
 have h1:((a:Int)-b)%m=(((a%m:Nat):Int)-((b%m:Nat):Int))%m:=by rw[Int.natCast_emod,Int.natCast_emod,<-Int.sub_emod]
 have hb:=aV b h0;rw[h1];split
 ·rename_i h;rw[h,show(((a%m:Nat):Int)-((0:Nat):Int))=((a%m:Nat):Int) by omega,<-Int.natCast_emod,Int.toNat_natCast,eQ]
 ·rw[<-Int.add_emod_right,show(((a%m:Nat):Int)-((b%m:Nat):Int)+(m:Int))=((a%m+(m-b%m):Nat):Int) by omega,<-Int.natCast_emod,Int.toNat_natCast]
theorem F9 {a b m:Nat} (ha:a<(2^64)) (hb:b<(2^64)) (hm:m<(2^64)) (h0:0<m):aH 111 [N a,N b,N m] (.tup [N (((a:Int)-b)%m).toNat,E 0]):=by
 have hW:=IS;have hc:=fun nm=>Di nm (b7 a) (b7 b) (b7 m)
 rw[Cd ha (vN hb) hm h0]at hc;have r1:=mD ha hm h0;have r2:=mD hb hm h0;have hlb:=aV b h0;rw[acP h0]
 by_cases hz:b%m=0
 ·rw[af hz];rw[hz]at r2;have z0:(b7 0==([]:Bytes))=true:=by decide
  refine eW call111 func111 ?_;repeat' first|simp only[go_sem,seval,z0]|(refine bK (hc _) (by simp) ?_)|refine cP r1 ?_|refine cP r2 ?_|refine oE ?_|apply xX<;>intro hc
 ·rw[aa hz];have hs:=Bl (a:=m) (b:=b%m) oO oO;have hp:=U4 (a:=a%m) (b:=m-b%m) (m:=m) (aV _ h0) oO hm;have en:(b7 (b%m)==([]:Bytes))=false:=tF oO;refine eW call111 func111 ?_;repeat' first|simp only[go_sem,seval,en]|(refine bK (hc _) (by simp) ?_)|refine cP r1 ?_|refine cP r2 ?_|refine cP hs ?_|refine cP hp ?_|refine oE ?_|apply xX<;>intro hc
theorem BY (l:List Bytes) (hl:l.length<1000000):aH 92 [.sl (l.map .s)] (.sl (l.map .s)):=by
 cases l with
 |nil=>exact C9
 |cons x r=>
  rw[b8];have k1:(PV.s x::r.map .s)=(x::r).map .s:=rfl;have k0:(r.map PV.s).length=r.length:=au ..;refine eW call92 func92 ?_;refine dw @k0 ?_;obtain⟨-,r2,r3,-⟩:=T2 r;obtain⟨-,-,-,r4⟩:=T2 (x::r);rw[Aa];refine⟨⟨fun x hx=>Dh hx,fun x hx=>bz.1 r2 x hx,by simp at hl;omega,by simp at hl;omega⟩,?_⟩
  simp only[au,aA,r3,r2,iW,and_self,aC,Option.map_some];exact⟨trivial,congrArg PV.sl r4⟩
theorem T7 (v1 v2 v3:Value) (w:World):CallsD prog 224 #[v1,v2,v3] .returning w fun e u' w'=>e= .returned (.tuple #[])/\u'= .returning/\w'=w:=by
 refine callsD_of_wpS func224 rfl fun c₀ cs hu=> ?_
 apply wpS_seq;apply wpS_region;simp[wpOpsS,go_sem,recoverD,hu,Tryz.ntmps224,Exit.thenS];apply wpS_seq;apply wpS_region;simp[wpOpsS,go_sem,Exit.thenS];refine wpS_cond (t:=false) (by simp[Act.eval,Array.replicate]) ?_
 simp only[cE,aB];refine wpS_of_wp (wp_skip ?_);cases c₀;simp_all[bodyPostS,results,Tryz.results224]
noncomputable abbrev tM:Code:=Tryz.f136.body.getD .skip
theorem acO (a:Act) (w:World) (Q:Exit->Act->World->Prop) (hd:a.defers=[]) (hs:a.tmps.size=Tryz.f136.ntmps) (hQ: ∀a' d,a'.tmps.size=Tryz.f136.ntmps->(∀k,k≠56->a'.tmps.getD k undef=a.tmps.getD k undef)->a'.defers=[d]->Idle prog d->Q .normal a' w):(wu (Hc 5 tM)).wp prog Q a w:=by
 have hmf: ∀(fn:Fn) (first cap:Array Value) (w:World),(Instr.makeFunc fn first cap).run prog w= .ok (.func fn first cap) w:=fun _ _ _ _=>rfl
 show(Code.region 6 _ false).wp prog Q a w;apply wp_region;simp[wpOps,go_sem,hd];have h10:56<a.tmps.size:=by rw[hs,Tryz.ntmps136];decide
 refine .inl ?_;refine .inl ?_;rw[af h10];refine hQ {tmps:=a.tmps.setIfInBounds 56 (.func (.func 224) #[] #[a.tmps[8]?.getD undef,a.tmps[9]?.getD undef,a.tmps[10]?.getD undef]),defers:=[⟨.fn (.func 224) #[a.tmps[8]?.getD undef,a.tmps[9]?.getD undef,a.tmps[10]?.getD undef], #[]⟩]} ⟨.fn (.func 224) #[a.tmps[8]?.getD undef,a.tmps[9]?.getD undef,a.tmps[10]?.getD undef], #[]⟩ ?_ ?_ ?_ ⟨.func 224, #[a.tmps[8]?.getD undef,a.tmps[9]?.getD undef,a.tmps[10]?.getD undef],224, #[a.tmps[8]?.getD undef,a.tmps[9]?.getD undef,a.tmps[10]?.getD undef],rfl,fun w=>⟨?_,T7 _ _ _ w⟩⟩
 ·simp[hs]
 ·intro k hk;simp[yJ (aY hk)]
 ·rfl
 ·simp[invoke,go_sem]
theorem T6:Tryz.f136.body=some (Ud [wu (Hc 0 tM),wu (Hc 1 tM),wu (Hc 2 tM),wu (Hc 3 tM),wu (Hc 4 tM)] (.seq (wu (Hc 5 tM)) (Hc 6 tM))):=by kernel_rfl
theorem Pn {nt:Nat} {c:Code} {sc:SC} {r:List Code} {s s1 s2:AS} (h:CW prog (fun e x=>e= .normal/\s1.Le x) sc [] s) (hr:VN prog nt r s1 s2) (hc:oh prog Yw nt c=some sc:=by cbv) (hng:sc.eZ=true:=by exact rfl):VN prog nt (c::r) s s2:= .cons (jq.1 _ _ _ hc) hng (CW.start h) hr
theorem T5 (vs:List Bytes) (sd:Bytes) (a:Int) (hl:vs.length<1000000):aH 136 [C0, .sl [], .s [],T vs sd a] (.tup [.agg [.sl [], .sl [], .sl [], .sl []],T vs sd a,E 0]):=by
 have hc:=BY vs hl;have ho:aH 118 [C0] (.s []):=by
  refine eW call118 func118 ?_;exact Uu
 refine qG.O1 (sl:=56) (pre:=[wu (Hc 0 tM),wu (Hc 1 tM),wu (Hc 2 tM),wu (Hc 3 tM),wu (Hc 4 tM)]) (cD:=wu (Hc 5 tM)) (c2:=Hc 6 tM) (s2:=⟨[(1, .v (.sl [])),(8, .p 1002 0 0),(9, .p 1003 0 0),(10, .p 1004 0 0),(11, .v (.sl [])),(12, .p 1014 0 0)],[(1002,⟨0,[.sn, .sn, .sn, .sn],false,some 136⟩),(1003,⟨0,[.sn, .v (.s []), .v (.i .i64 0)],false,some 82⟩),(1004,⟨0,[.v (.i .i64 0)],false,some 45⟩),(1014,⟨0,[.v (.sl []), .v (.sl []), .v (.s []), .v (.sl (vs.map .s)), .v (.s sd), .v (.i .i64 a), .v (.sl []), .rs 1020 0 0 0 1, .rs 1024 0 0 0 1, .rs 1028 0 0 0 1],false,none⟩),(1020,⟨0,[],false,none⟩),(1024,⟨0,[],false,none⟩),(1028,⟨0,[],false,none⟩)],1042⟩) mixed call136 func136 T6 rfl (jq.1 _ _ _ (by cbv)) (jq.2 _ _ (by cbv)) acO (cd rfl) rfl (Pn (s1:=⟨[(1, .v (.sl [])),(2, .v (.s [])),(4, .p 1000 0 0),(7, .p 1001 0 0),(8, .p 1002 0 0),(9, .p 1003 0 0),(10, .p 1004 0 0)],[(1000,⟨0,[.v (.sl []), .v (.sl [])],false,none⟩),(1001,⟨0,[.v (.sl (vs.map .s)), .v (.s sd), .v (.i .i64 a)],false,none⟩),(1002,⟨0,[.sn, .sn, .sn, .sn],false,some 136⟩),(1003,⟨0,[.sn, .v (.s []), .v (.i .i64 0)],false,some 82⟩),(1004,⟨0,[.v (.i .i64 0)],false,some 45⟩)],1005⟩) ?_ (Pn (s1:=⟨[(1, .v (.sl [])),(2, .v (.s [])),(4, .p 1000 0 0),(7, .p 1001 0 0),(8, .p 1002 0 0),(9, .p 1003 0 0),(10, .p 1004 0 0),(11, .v (.sl []))],[(1000,⟨0,[.v (.sl []), .v (.sl [])],false,none⟩),(1001,⟨0,[.v (.sl (vs.map .s)), .v (.s sd), .v (.i .i64 a)],false,none⟩),(1002,⟨0,[.sn, .sn, .sn, .sn],false,some 136⟩),(1003,⟨0,[.sn, .v (.s []), .v (.i .i64 0)],false,some 82⟩),(1004,⟨0,[.v (.i .i64 0)],false,some 45⟩)],1009⟩) ?_ (Pn (s1:=⟨[(1, .v (.sl [])),(2, .v (.s [])),(4, .p 1000 0 0),(7, .p 1001 0 0),(8, .p 1002 0 0),(9, .p 1003 0 0),(10, .p 1004 0 0),(11, .v (.sl [])),(12, .p 1014 0 0)],[(1000,⟨0,[.v (.sl []), .v (.sl [])],false,none⟩),(1001,⟨0,[.v (.sl (vs.map .s)), .v (.s sd), .v (.i .i64 a)],false,none⟩),(1002,⟨0,[.sn, .sn, .sn, .sn],false,some 136⟩),(1003,⟨0,[.sn, .v (.s []), .v (.i .i64 0)],false,some 82⟩),(1004,⟨0,[.v (.i .i64 0)],false,some 45⟩),(1014,⟨0,[.v (.sl []), .v (.sl []), .v (.s []), .v (.sl (vs.map .s)), .v (.s sd), .v (.i .i64 a), .sn, .sn, .sn, .sn],false,none⟩)],1016⟩) ?_ ?_))) (CW.start ?_)
 ·simp only[oQ,List.mapIdx_nil];refine ye ?_;exact lE
 ·refine ye ?_;exact lE
 ·refine zx1 @ho ?_;exact lE
 ·refine Pn (s1:=⟨[(1, .v (.sl [])),(8, .p 1002 0 0),(9, .p 1003 0 0),(10, .p 1004 0 0),(11, .v (.sl [])),(12, .p 1014 0 0)],[(1002,⟨0,[.sn, .sn, .sn, .sn],false,some 136⟩),(1003,⟨0,[.sn, .v (.s []), .v (.i .i64 0)],false,some 82⟩),(1004,⟨0,[.v (.i .i64 0)],false,some 45⟩),(1014,⟨0,[.v (.sl []), .v (.sl []), .v (.s []), .v (.sl (vs.map .s)), .v (.s sd), .v (.i .i64 a), .v (.sl []), .rs 1020 0 0 0 1, .rs 1024 0 0 0 1, .rs 1028 0 0 0 1],false,none⟩),(1020,⟨0,[],false,none⟩),(1024,⟨0,[],false,none⟩),(1028,⟨0,[],false,none⟩)],1033⟩) ?_ (Pn ?_ (.nil _))
  ·refine ye ?_;exact lE
  ·refine ye ?_;exact lE
 ·exact YY @hc
theorem ug (l:List Bytes) (hl:l.length<1000000):aH 141 [.sl (l.map .s)] (.b (l.all ae)):=by
 have h1: ∀x,aH 229 [PV.s x] (.b (!ae x)):=fun x=>by
  have hv:=aX x;generalize ae x=b at*;refine eW call229 func229 ?_;exact z1 @hv
 have hc:=gI l _ _ oO h1;rw[im]at hc;generalize l.all ae=b at*;refine eW call141 func141 ?_;repeat' first|simp only[go_sem,seval,y5]|refine cP hc ?_|refine oE ?_|apply xX<;>intro hc
theorem FN (vs:List Bytes) (sd:Bytes) (a:Int) (hl:vs.length<1000000):aH 135 [T vs sd a] (.b (kj vs a)):=by
 have h:=ug vs hl;unfold kj;rw[im,y5];generalize vs.all ae=b at*;refine eW call135 func135 ?_;repeat' first|simp only[go_sem,seval]|refine cP h ?_|refine oE ?_|apply xX<;>intro hc
 all_goals simp_all
 all_goals (intros;omega)
theorem OK:aH 114 [.sl []] (.b true):=by
 have hi:aH 214 [.sl [], .fn (.func 205)] (E (-1)):=by
  refine eW call214 func214 ?_;exact Uu
 have h:aH 124 [.sl [], .fn (.func 205)] (.b false):=by
  refine eW call124 func124 ?_;exact z1 @hi
 refine eW call114 func114 ?_;exact z1 @h
theorem Yv:aH 217 [F0, .sl []] (.sl []):=by
 refine eW call217 func217 ?_;exact Uu
theorem zD:aH 131 [F0, .sl []] (.tup [.sl [],E 0]):=by
 refine eW call131 func131 ?_;exact z2 @Jd @Yv
theorem Rg:aH 210 [F0, .sl []] (.tup [.sl [],E 0]):=by
 refine eW call210 func210 ?_;exact z1 @zD
theorem Jk:aH 117 [C0, .sl []] (.tup [.sl [],E 0]):=by
 refine eW call117 func117 ?_;repeat' first|simp only[go_sem,seval]|(refine aq ?_)|(refine II [1011] Rg rfl rfl rfl ?_)|refine oE ?_|apply xX<;>intro hc
abbrev BS0:PV:= .agg [.sl [], .sl [], .sl [], .sl []]
theorem Re {a:Int} (sd:Bytes) (hg:kj vs a=true) (hl:vs.length<1000000):aH 67 [C0, .sl [],T vs sd a] (.tup [BS0,T vs sd a,E 0]):=by
 have h:=FN vs sd a hl;rw[hg]at h;have hr:=T5 vs sd a hl;refine eW call67 func67 ?_;exact z7 @De @OK @h @Jk @hr oT oT
theorem Ul (x:Bool×Bytes):aH 121 [ca x] (.b (!cr x)):=by
 obtain⟨n,a⟩:=x;have hv:=gY n a;have e:cr (n,a)=(ae a&& !(n&&a==[])):=rfl;rw[e];generalize (ae a&& !(n&&a==[]))=b at*;simp only[ca];refine eW call121 func121 ?_;exact z1 @hv
theorem Um (b:Bytes):aH 127 [bO b] (.s b):=by
 unfold bO;refine eW call127 func127 ?_;exact z0
theorem Un (m:Bytes):aH 128 [.sl [G m []], .fn (.func 129)] (E (-1)):=by
 have h:aH 129 [G m []] (.b false):=by
  refine eW call129 func129 ?_;exact z0
 refine eW call128 func128 ?_;refine pO ?_;refine aq ?_;refine zl1 @h ?_;refine aq ?_;exact z0
theorem Ze (sd:Bytes) {a:Int} (hl:vs.length<1000000):aH 126 [T vs sd a, .s [1],E 0] (if kj vs a then .tup [.sl [],T vs sd a,E 0]else .tup [.sl [],T [] [] 0,E 3]):=by
 have h1:=Bc vs sd a [1] oO;have e:wX vs a [1]=if kj vs a then 0 else 3:=by unfold wX;cases kj vs a<;>rfl
 rw[e]at h1;generalize kj vs a=b at*;cases b
 ·refine eW call126 func126 ?_;exact z1 @h1
 ·refine eW call126 func126 ?_;exact YY @h1


noncomputable def fN (q:Nat) (xs ys:List Nat) (k:Nat):Int:=((ys.getD k 0*gV (Hd q (xs.getD k 0:Nat) ((nI xs).eraseIdx k)).toNat q%q:Nat):Int)
noncomputable def GY (q:Nat) (xs ys:List Nat):List Nat:=tN (Ug q (nI xs) (fN q xs ys))

def acK (vs:List Bytes) (sd:Bytes):Except Int (Bytes×List Int×Nat)->PV
 | .ok (ch,rs,j)=> .tup [.agg [.s ch, .sl (rs.map Zp), .sl [], .sl []],T vs sd j,E 0]
 | .error e=> .tup [.agg [.s [], .sl [], .sl [], .sl []],T [] [] 0,E e]
def jl (o b:Bytes) (m w:Int) (c:Nat):Int:=if b=[]then(m+c*w)%num o else m+c*w
def gO (o:Bytes) (us:List Bytes) (ms w:List Int) (c:Nat):List Int:=(List.range us.length).map fun i=>jl o (us.getD i []) (ms.getD i 0) (w.getD i 0) c
theorem Be (o:Bytes) (us:List Bytes) (ms w:List Int) (c:Nat):(gO o us ms w c).length=us.length:=by simp[gO]
theorem Bd {ms w:List Int} {c:Nat} (h:i<us.length):(gO o us ms w c).getD i 0=jl o (us.getD i []) (ms.getD i 0) (w.getD i 0) c:=by
 simp[gO,bu,h]
def FW (o c sl:Bytes) (us:List Bytes) (rs:List Int):Bool:=(List.range us.length).all fun i=>jJ (us.getD i []) (rs.getD i 0) (lR o c sl (us.getD i []))
def Ip (o c sl:Bytes) (us:List Bytes) (rs:List Int):PV:=if FW o c sl us rs then .tup [.sl (rs.map Zp),E 0]else .tup [.sl [],E 15]
theorem Cs (hr:we c sl) (lo:o.length<=8) (lb:b.length<=16):lR o c sl b<ek:=by
 unfold lR;split
 ·exact JE lo
 ·exact S3 hr lb
theorem JX {m w:Int} (hol:num o<ek) (h64:num o<(2^64)) (h0:0<num o) (h:b=[]) (hx:m.natAbs+((ch:Int)*w).natAbs+(2^64)<ek):
  jJ b (jl o b m w ch) (lR o c sl b)=true/\ ∃k:Nat,aH 228 [Z ((ch:Int)*w),N (lM o c sl b)] (.tup [N k,E 0])/\aH 108 [N k] (Z k)/\aH 113 [Z m,Z k] (.tup [Z (m+k),E 0])/\ ∃k2:Nat,aH 228 [Z (m+k),N (lM o c sl b)] (.tup [N k2,E 0])/\aH 108 [N k2] (Z (jl o b m w ch)):=by
 subst h;have g1:=jz ((ch:Int)*w) (b:=num o) oO;have g2:=kQ ((ch:Int)*w) (b:=num o) oO;have g3:=jz (m+ch*w) (b:=num o) oO;have g4:=kQ (m+ch*w) (b:=num o) oO;simp only[lM,lR,jl,aC];refine⟨?_,((ch:Int)*w%num o).toNat,UT oO hol h0,B3 oO,FU oO,((m+ch*w)%num o).toNat,?_,?_⟩
 ·simp only[jJ,bc,a8,decide_true,bE,fW,kM];omega
 ·have:=UT (x:=m+(((ch:Int)*w%num o).toNat:Int)) (m:=num o) oO hol h0;rw[oX g1,Int.add_emod_emod]at this;rw[oX g1];exact this
 ·have:=B3 (n:=((m+ch*w)%num o).toNat) oO
  rwa[oX g3]at this
theorem PN {s:aT} (hp:xQ c sl s) {w ms:List Int} (hwl:w.length=s.vars.length) (hml:ms.length=s.vars.length) (hch:ch<eB) (hI: ∀i,i<s.vars.length->(w.getD i 0).natAbs<eB/\(ms.getD i 0).natAbs+((ch:Int)*w.getD i 0).natAbs+(2^64)<ek):
  aH 140 [s.pv, .sl (s.vars.map (lP (ba s.groups) c sl)), .sl (w.map Zp), .sl (ms.map Zp),N ch] (Ip (ba s.groups) c sl s.vars (gO (ba s.groups) s.vars ms w ch)):=by
 have hb:=hp.g.v;have nv:=hp.g.nv;have hr:=hp.r;have hov:=dZ hp.g.g;have lo:=hov.2;have ho:[]∈s.vars->0<num (ba s.groups):=fun h=>Nat.pos_of_ne_zero (HW hov.1 (DE hp.g h))
 obtain⟨gs,us,es⟩:=s;simp only at hb nv hwl hml hI lo ho⊢;clear hp hov;generalize ba gs=o at*;have h64:=ga lo;have hol:=JE lo;have l2:(us.map bO).length=us.length:=au ..;have l3:(us.map (lP o c sl)).length=us.length:=au ..;have l4:(w.map Zp).length=us.length:=by rw[au];exact hwl
 have l5:(ms.map Zp).length=us.length:=by rw[au];exact hml
 have hF:=B3 (n:=ch) (bM hch BS);have hrl:=Be o us ms w ch;have rS: ∀{j:Nat},j<us.length->aP Zp ((gO o us ms w ch).take (j+1))=aP Zp ((gO o us ms w ch).take j)++[.v (.b (zs ((gO o us ms w ch).getD j 0))), .v (.s (zb ((gO o us ms w ch).getD j 0)))]:=fun h=>by
  rw[aL 0 oO,Kb]
 unfold aT.pv;simp only
 by_cases hpos:0<us.length
 rotate_left
 ·obtain rfl:us=[]:=dt.1 oO;refine eW call140 func140 ?_;exact Uu
 refine eW call140 func140 ?_;refine dh @l2 ?_;refine aq ?_;have e1:=getD_map bO us [] hpos;have e2:=getD_map (lP o c sl) us [] hpos;have e3:=getD_map Zp w 0 (i:=0) oO;have e4:=getD_map Zp ms 0 (i:=0) oO;have kb:=hb _ (ai [] hpos);have hk:=pc (us.getD 0 []);have hx:=hI 0 hpos;have hp:=N4 (x:=(ch:Int)) (y:=w.getD 0 0) (by simpa using hch) hx.1
 have hgr:=Bd (o:=o) (ms:=ms) (w:=w) (c:=ch) hpos;have hgk: ∀k,k<0+1->(∀q,q<0->jJ (us.getD q []) ((gO o us ms w ch).getD q 0) (lR o c sl (us.getD q []))=true)->jJ (us.getD 0 []) ((gO o us ms w ch).getD 0 0) (lR o c sl (us.getD 0 []))=true->jJ (us.getD k []) ((gO o us ms w ch).getD k 0) (lR o c sl (us.getD k []))=true:=fun k hk h1 h2=>by
  by_cases hkj:k<0
  ·exact h1 k hkj
  ·obtain rfl:k=0:=oO;exact h2
 rw[hgr]at hgk;have hbad:=fun h: ¬jJ (us.getD 0 []) ((gO o us ms w ch).getD 0 0) (lR o c sl (us.getD 0 []))=true=>n8 (p:=fun i=>jJ (us.getD i []) ((gO o us ms w ch).getD i 0) (lR o c sl (us.getD i []))) hpos (dR.2 h)
 rw[<-FW,hgr]at hbad;have r1:=rS hpos;rw[hgr]at r1;have hcs:(us.getD 0 []≠[]/\jJ (us.getD 0 []) (jl o (us.getD 0 []) (ms.getD 0 0) (w.getD 0 0) ch) (lR o c sl (us.getD 0 []))=false/\aH 113 [Z (ms.getD 0 0),Z ((ch:Int)*w.getD 0 0)] (.tup [Z (jl o (us.getD 0 []) (ms.getD 0 0) (w.getD 0 0) ch),E 0])/\aH 139 [bO (us.getD 0 []),Zp (jl o (us.getD 0 []) (ms.getD 0 0) (w.getD 0 0) ch),N (lR o c sl (us.getD 0 []))] (.b false))\/
   (us.getD 0 []=[]/\jJ (us.getD 0 []) (jl o (us.getD 0 []) (ms.getD 0 0) (w.getD 0 0) ch) (lR o c sl (us.getD 0 []))=true/\ ∃k:Nat,aH 228 [Z ((ch:Int)*w.getD 0 0),N (lM o c sl (us.getD 0 []))] (.tup [N k,E 0])/\aH 108 [N k] (Z k)/\aH 113 [Z (ms.getD 0 0),Z k] (.tup [Z (ms.getD 0 0+k),E 0])/\ ∃k2:Nat,aH 228 [Z (ms.getD 0 0+k),N (lM o c sl (us.getD 0 []))] (.tup [N k2,E 0])/\aH 108 [N k2] (Z (jl o (us.getD 0 []) (ms.getD 0 0) (w.getD 0 0) ch)))\/
   (us.getD 0 []≠[]/\jJ (us.getD 0 []) (jl o (us.getD 0 []) (ms.getD 0 0) (w.getD 0 0) ch) (lR o c sl (us.getD 0 []))=true/\aH 113 [Z (ms.getD 0 0),Z ((ch:Int)*w.getD 0 0)] (.tup [Z (jl o (us.getD 0 []) (ms.getD 0 0) (w.getD 0 0) ch),E 0])/\aH 139 [bO (us.getD 0 []),Zp (jl o (us.getD 0 []) (ms.getD 0 0) (w.getD 0 0) ch),N (lR o c sl (us.getD 0 []))] (.b true)):=by
  by_cases h:us.getD 0 []=[]
  ·exact .inr (.inl ⟨h,JX hol h64 (ho (by rw[<-h];exact ai [] hpos)) h hx.2⟩)
  ·have h1:aH 113 [Z (ms.getD 0 0),Z ((ch:Int)*w.getD 0 0)] (.tup [Z (jl o (us.getD 0 []) (ms.getD 0 0) (w.getD 0 0) ch),E 0]):=by
    rw[jl,aa h];exact FU oO
   have h2:=uZ (us.getD 0 []) (x:=jl o (us.getD 0 []) (ms.getD 0 0) (w.getD 0 0) ch) (L:=lR o c sl (us.getD 0 [])) (by rw[jl,aa h];have:=Int.natAbs_add_le (ms.getD 0 0) (ch*w.getD 0 0);omega) (Cs hr lo kb.2)
   cases hin:jJ (us.getD 0 []) (jl o (us.getD 0 []) (ms.getD 0 0) (w.getD 0 0) ch) (lR o c sl (us.getD 0 []))
   ·rw[hin]at h2;exact .inl ⟨h,rfl,h1,h2⟩
   ·rw[hin]at h2;exact .inr (.inr ⟨h,rfl,h1,h2⟩)
 clear hx kb;generalize jl o (us.getD 0 []) (ms.getD 0 0) (w.getD 0 0) ch=z at*;generalize hu0:us.getD 0 []=u at*;simp only[bO]at e1 hk hcs;simp only[lP]at e2;generalize lM o c sl u=M at*;generalize lR o c sl u=Rr at*;simp only[Zp,ca,iB]at e3 e4 hcs;rcases hcs with⟨hu,hgd,m1,m2⟩|⟨hu,hgd,k,m1,m2,m3,k2,m4,m5⟩|⟨hu,hgd,m1,m2⟩
 ·rw[aa hu]at hk;rw[Ip,hbad (by simp[hgd])]
  exact Uq (aN @l2 (aN @l3 (aN @l4 (aN @l5 (aN @e1 (aN @e2 (aN @e3 @e4))))))) @hk @hF @hp @m1 @m2 oT oT
 all_goals
  first|rw[af hu]at hk|rw[aa hu]at hk
  repeat' first|simp only[go_sem,seval,l2,l3,l4,l5,e1,e2,e3,e4]|refine cP hk ?_|refine cP hF ?_|refine cP hp ?_|refine cP m1 ?_|refine cP m2 ?_|refine cP m3 ?_|refine cP m4 ?_|refine cP m5 ?_|refine oE ?_|apply xX<;>intro hc
  obtain⟨nm,hnm⟩: ∃nm,nm=(if u=[]then 1074 else 1059):=⟨_,rfl⟩
  first|rw[af hu]at hnm|rw[aa hu]at hnm
  refine ah (α:=Nat) (fun j=>us.length-(j+1)) (fun j=>⟨[(1, .v (.sl (us.map (lP o c sl)))),(2, .v (.sl (w.map Zp))),(3, .v (.sl (ms.map Zp))),(4, .v (N ch)),(5, .p 1000 0 0),(12, .rs nm j 0 (j+1) 2),(28, .v (.sl (us.map bO))),(29,E' us.length),(30,E' (j+1))],[(1000,⟨0,[.v (.sl (gs.map cz)), .v (.sl (us.map bO)), .v (.sl (es.map bZ.pv))],false,none⟩),(nm,⟨j,aP Zp ((gO o us ms w ch).take (j+1)),true,some 77⟩)],nm+4⟩) (fun j=>j+1<=us.length/\ ∀k,k<j+1->jJ (us.getD k []) ((gO o us ms w ch).getD k 0) (lR o c sl (us.getD k []))=true) 0 (fun _=>by show _<=nm+4;rw[hnm];exact cd rfl) ⟨hpos,fun k hk=>hgk k hk (fun j hj=>oO) hgd⟩ ?_ ?_<;>subst hnm
  ·rw[r1,List.take_zero,show aP Zp ([]:List Int)=[]from rfl,List.nil_append]
   exact lE
  ·clear e1 e2 e3 e4 hk hgr hbad r1 hgk hgd m1 m2 hu0 hp
   first|clear m3 m4 m5|skip
   rintro j ⟨hj,hall⟩ R hR;have hlm:((gO o us ms w ch).take (j+1)).length=j+1:=by rw[bQ];omega
   have q1:=bT G9 ((gO o us ms w ch).take (j+1));have q2:=cf G9 ((gO o us ms w ch).take (j+1));rw[hlm]at q1 q2
   by_cases hlt:j+1<us.length
   ·have e1:=getD_map bO us [] hlt;have e2:=getD_map (lP o c sl) us [] hlt;have e3:=getD_map Zp w 0 (i:=(j+1)) oO;have e4:=getD_map Zp ms 0 (i:=(j+1)) oO;have kb:=hb _ (ai [] hlt);have hk:=pc (us.getD (j+1) []);have hx:=hI (j+1) hlt;have hp:=N4 (x:=(ch:Int)) (y:=w.getD (j+1) 0) (by simpa using hch) hx.1
    have hgr:=Bd (o:=o) (ms:=ms) (w:=w) (c:=ch) hlt;have hgk: ∀k,k<(j+1)+1->(∀q,q<(j+1)->jJ (us.getD q []) ((gO o us ms w ch).getD q 0) (lR o c sl (us.getD q []))=true)->jJ (us.getD (j+1) []) ((gO o us ms w ch).getD (j+1) 0) (lR o c sl (us.getD (j+1) []))=true->jJ (us.getD k []) ((gO o us ms w ch).getD k 0) (lR o c sl (us.getD k []))=true:=fun k hk h1 h2=>by
     by_cases hkj:k<(j+1)
     ·exact h1 k hkj
     ·obtain rfl:k=(j+1):=oO;exact h2
    rw[hgr]at hgk;have hbad:=fun h: ¬jJ (us.getD (j+1) []) ((gO o us ms w ch).getD (j+1) 0) (lR o c sl (us.getD (j+1) []))=true=>n8 (p:=fun i=>jJ (us.getD i []) ((gO o us ms w ch).getD i 0) (lR o c sl (us.getD i []))) hlt (dR.2 h)
    rw[<-FW,hgr]at hbad;have r1:=rS hlt;rw[hgr]at r1;have hcs:(us.getD (j+1) []≠[]/\jJ (us.getD (j+1) []) (jl o (us.getD (j+1) []) (ms.getD (j+1) 0) (w.getD (j+1) 0) ch) (lR o c sl (us.getD (j+1) []))=false/\aH 113 [Z (ms.getD (j+1) 0),Z ((ch:Int)*w.getD (j+1) 0)] (.tup [Z (jl o (us.getD (j+1) []) (ms.getD (j+1) 0) (w.getD (j+1) 0) ch),E 0])/\aH 139 [bO (us.getD (j+1) []),Zp (jl o (us.getD (j+1) []) (ms.getD (j+1) 0) (w.getD (j+1) 0) ch),N (lR o c sl (us.getD (j+1) []))] (.b false))\/
      (us.getD (j+1) []=[]/\jJ (us.getD (j+1) []) (jl o (us.getD (j+1) []) (ms.getD (j+1) 0) (w.getD (j+1) 0) ch) (lR o c sl (us.getD (j+1) []))=true/\ ∃k:Nat,aH 228 [Z ((ch:Int)*w.getD (j+1) 0),N (lM o c sl (us.getD (j+1) []))] (.tup [N k,E 0])/\aH 108 [N k] (Z k)/\aH 113 [Z (ms.getD (j+1) 0),Z k] (.tup [Z (ms.getD (j+1) 0+k),E 0])/\ ∃k2:Nat,aH 228 [Z (ms.getD (j+1) 0+k),N (lM o c sl (us.getD (j+1) []))] (.tup [N k2,E 0])/\aH 108 [N k2] (Z (jl o (us.getD (j+1) []) (ms.getD (j+1) 0) (w.getD (j+1) 0) ch)))\/
      (us.getD (j+1) []≠[]/\jJ (us.getD (j+1) []) (jl o (us.getD (j+1) []) (ms.getD (j+1) 0) (w.getD (j+1) 0) ch) (lR o c sl (us.getD (j+1) []))=true/\aH 113 [Z (ms.getD (j+1) 0),Z ((ch:Int)*w.getD (j+1) 0)] (.tup [Z (jl o (us.getD (j+1) []) (ms.getD (j+1) 0) (w.getD (j+1) 0) ch),E 0])/\aH 139 [bO (us.getD (j+1) []),Zp (jl o (us.getD (j+1) []) (ms.getD (j+1) 0) (w.getD (j+1) 0) ch),N (lR o c sl (us.getD (j+1) []))] (.b true)):=by
     by_cases h:us.getD (j+1) []=[]
     ·exact .inr (.inl ⟨h,JX hol h64 (ho (by rw[<-h];exact ai [] hlt)) h hx.2⟩)
     ·have h1:aH 113 [Z (ms.getD (j+1) 0),Z ((ch:Int)*w.getD (j+1) 0)] (.tup [Z (jl o (us.getD (j+1) []) (ms.getD (j+1) 0) (w.getD (j+1) 0) ch),E 0]):=by
       rw[jl,aa h];exact FU oO
      have h2:=uZ (us.getD (j+1) []) (x:=jl o (us.getD (j+1) []) (ms.getD (j+1) 0) (w.getD (j+1) 0) ch) (L:=lR o c sl (us.getD (j+1) [])) (by rw[jl,aa h];have:=Int.natAbs_add_le (ms.getD (j+1) 0) (ch*w.getD (j+1) 0);omega) (Cs hr lo kb.2)
      cases hin:jJ (us.getD (j+1) []) (jl o (us.getD (j+1) []) (ms.getD (j+1) 0) (w.getD (j+1) 0) ch) (lR o c sl (us.getD (j+1) []))
      ·rw[hin]at h2;exact .inl ⟨h,rfl,h1,h2⟩
      ·rw[hin]at h2;exact .inr (.inr ⟨h,rfl,h1,h2⟩)
    clear hx kb;generalize jl o (us.getD (j+1) []) (ms.getD (j+1) 0) (w.getD (j+1) 0) ch=z at*;generalize hu0:us.getD (j+1) []=u at*;simp only[bO]at e1 hk hcs;simp only[lP]at e2;generalize lM o c sl u=M at*;generalize lR o c sl u=Rr at*;simp only[Zp,ca,iB]at e3 e4 hcs;rcases hcs with⟨hu,hgd,m1,m2⟩|⟨hu,hgd,k,m1,m2,m3,k2,m4,m5⟩|⟨hu,hgd,m1,m2⟩
    ·rw[aa hu]at hk;rw[Ip,hbad (by simp[hgd])]
     clear hR hall hgk;exact Uq (aN @l2 (aN @l3 (aN @l4 (aN @l5 (aN @e1 (aN @e2 (aN @e3 (aN @e4 (aN @q1 @q2))))))))) @hk @hF @hp @m1 @m2 oT oT
    all_goals
     have hgo:=hR (j+1) ⟨oO,fun k hk=>hgk k hk hall hgd⟩ oO
     rw[r1]at hgo;clear hR hall hgk
     first|rw[af hu]at hk|rw[aa hu]at hk
     repeat' first|simp only[go_sem,seval,l2,l3,l4,l5,e1,e2,e3,e4,q1,q2]|refine cP hk ?_|refine cP hF ?_|refine cP hp ?_|refine cP m1 ?_|refine cP m2 ?_|refine cP m3 ?_|refine cP m4 ?_|refine cP m5 ?_|refine oE ?_|apply xX<;>intro hc
     refine hgo _ ?_;refine lG ?_;all_goals exact fun c hc=>by rcases hc with hc|rfl|rfl<;>first|exact bj hc|rfl
   ·have hjl:us.length=j+1:=oO;have hgood2:FW o c sl us (gO o us ms w ch)=true:=nu fun k hk=>hall k oO
    rw[Ip,hgood2];have hT:(gO o us ms w ch).take (j+1)=gO o us ms w ch:=cQ oO;rw[hT]at q1 q2⊢;have q3:=dI G9 (gO o us ms w ch);have q4:=cK G9 (gO o us ms w ch);rw[hrl,hjl]at q4;rw[hjl];clear hR;exact fz (aN @l2 (aN @hjl (aN @q1 (aN @q2 (aN @q3 (aN @q4 @dj))))))
theorem OP {w:List Int} {n:Nat} {P:Int->Prop} (hwl:w.length=n) (h: ∀i,i<n->P (w.getD i 0)): ∀x∈w,P x:=fun x hx=>by
 obtain⟨j,hj,rfl⟩:=fU hx;have:=h j oO
 rwa[bu,bC hj]at this
theorem WU {w:List Int} (h:DC o us w=true) (hi:i<us.length):jJ (us.getD i []) (w.getD i 0) (gJ o (us.getD i []))=true:=bz.1 h i (fV.2 hi)
theorem MO (lo:o.length<=8) (lb:b.length<=16):gJ o b<=eB:=by
 unfold gJ;split
 ·exact lH (bM (ga lo) vn)
 ·exact lH (Ge lb)
theorem Hi {s:aT} (hp:xQ c sl s) {w ms:List Int} (hwl:w.length=s.vars.length) (hml:ms.length=s.vars.length) (hch:ch<num c) (hW:DC (ba s.groups) s.vars w=true) (hM: ∀i,i<s.vars.length->jJ (s.vars.getD i []) (ms.getD i 0) (lM (ba s.groups) c sl (s.vars.getD i []))=true):
  aH 68 [.agg [.s c, .s sl],s.pv, .sl (w.map Zp), .sl (ms.map Zp),N ch] (Ip (ba s.groups) c sl s.vars (gO (ba s.groups) s.vars ms w ch)):=by
 have hr:=hp.r;have hb:=hp.g.v;have nv:=hp.g.nv;have lo:=(dZ hp.g.g).2;have hbo:=u6 hp;have c8:=ga hr.lc;have h64:=jM;have h128:=vn;have hwb: ∀i,i<s.vars.length->(w.getD i 0).natAbs<eB:=fun i hi=>bM (DB (WU hW hi)).1 (MO lo (hb _ (ai [] hi)).2)
 have hmb: ∀i,i<s.vars.length->(ms.getD i 0).natAbs<256^33:=fun i hi=>j5 (DB (hM i hi)).1 (OD hr lo (hb _ (ai [] hi)).2)
 have h33:256^33+(2^64)*eB+(2^64)<ek:=by unfold ek eB;decide+kernel
 have hwA: ∀x∈w,x.natAbs<ek:=OP hwl fun i hi=>bM (hwb i hi) BS
 have hmA: ∀x∈ms,x.natAbs<ek:=OP hml fun i hi=>by have:=hmb i hi;omega
 have hv1:=xd (w.map iB) (by rw[au];omega)
 have hv2:=xd (ms.map iB) (by rw[au];omega)
 have hrg:=T8 hp.g hwl hwA;rw[ZpI,yC hwA]at hv1;rw[ZpI,yC hmA]at hv2;rw[hW]at hrg;have hn:=aX (b7 ch);rw[vB oO]at hn;have hcm:=zS (a:=ch) (b:=num c) oO oO;rw[fA hr.vc]at hcm;have hd: ∀ _:True,decide (a7 ch (num c)>=0)=false:=fun _=>by rw[WQ,aQ hch];rfl
 have hre:=PN hp hwl hml (ch:=ch) oO (fun i hi=>by
  refine⟨hwb i hi,?_⟩;have h1:=hmb i hi;have h2:((ch:Int)*w.getD i 0).natAbs<=(2^64)*eB:=by
   rw[mZ,Int.natAbs_natCast];exact lD oO (lH (hwb i hi))
  omega)
 have hmL: ∀i,i<s.vars.length->aH 139 [bO (s.vars.getD i []),Zp (ms.getD i 0),N (lM (ba s.groups) c sl (s.vars.getD i []))] (.b true):=fun i hi=>by
  have:=uZ (s.vars.getD i []) (x:=ms.getD i 0) (L:=lM (ba s.groups) c sl (s.vars.getD i [])) (by have:=hmb i hi;omega) (UZ hr lo (hb _ (ai [] hi)).2)
  rwa[hM i hi]at this
 generalize a7 ch (num c)=cm at*;generalize gO (ba s.groups) s.vars ms w ch=rs at*;unfold Ip at*;obtain⟨gs,us,es⟩:=s;simp only at nv hwl hml hmL hre hbo⊢;generalize ba gs=o at*;have l2:(us.map bO).length=us.length:=au ..;have l3:(us.map (lP o c sl)).length=us.length:=au ..;have l4:(w.map Zp).length=us.length:=by rw[au];exact hwl
 have l5:(ms.map Zp).length=us.length:=by rw[au];exact hml
 clear hW hwb hmb hM hwA hmA h33 h64 hb hp hr;unfold aT.pv at*;simp only at*;refine eW call68 func68 ?_;refine Hb (aN @l2 (aN @l4 (aN @l5 (hd oT)))) @hbo @hv1 @hv2 @hn @hcm @hrg oT ?_;refine ah (α:=Nat) (fun i=>us.length-i) (fun i=>⟨[(2, .v (.sl (w.map Zp))),(3, .v (.sl (ms.map Zp))),(4, .v (N ch)),(6, .p 1001 0 0),(12, .v (.sl (us.map (lP o c sl)))),(68, .v (.sl (us.map bO))),(69,E' us.length),(70,E' i)],[(1001,⟨0,[.v (.sl (gs.map cz)), .v (.sl (us.map bO)), .v (.sl (es.map bZ.pv))],false,none⟩)],_⟩) (fun i=>i<=us.length) 0 (fun _=>aA _) (aD _) ?_ ?_
 ·exact lE
 ·intro i hi R hR
  by_cases hlt:i<us.length
  ·have hgo:=hR (i+1) oO oO;have e1:=getD_map bO us [] hlt;have e2:=getD_map (lP o c sl) us [] hlt;have e4:=getD_map Zp ms 0 (i:=i) oO;have hc:=hmL i hlt;clear hR hmL hre hv1 hv2;simp only[lP]at e2;generalize lM o c sl (us.getD i [])=M at*;generalize us.getD i []=u at*;generalize ms.getD i 0=x at*;simp only[bO]at e1 hc;simp only[Zp,ca,iB]at e4 hc;exact gi (aN @l2 (aN @l3 (aN @l5 (aN @e1 (aN @e2 @e4))))) @hgo @hc
  ·obtain rfl:i=us.length:=oO;clear hR hmL;generalize FW o c sl us rs=b at*;cases b
   ·exact z1 @hre
   ·exact z1 @hre

noncomputable def acv (q:Nat) (xs ys:List Nat) (x:Nat):Nat:=(hnP q (nI (GY q xs ys)) x).toNat
end Go.Proofs.Tryz
namespace Go.Proofs.Tryz
open Go Go.Dom
def acw (k:Key):List Bytes:=k.z::k.u::k.h::k.r
structure adv (k:Key):Prop where
 o:k.o=[]
 gd:jE k.m []=true
 s:Bb k.m [] k.s=true
 t: ∀x∈acw k,Bb k.m [] x=true
 r:k.r.length<=18
end Go.Proofs.Tryz
namespace Go.Proofs.Tryz
open Go Go.Dom Go.Num
def lz (b:Bytes):PV:=ca (false,b)
structure CK where
 name:Bytes
 m:Bytes
 o:Bytes
 g:Bytes
 y:Bytes
 need:Int
 sh:List Bytes
def CK.pv (c:CK):PV:= .agg [.s c.name, .s c.m, .s c.o, .s c.g, .s c.y,E c.need, .sl (c.sh.map .s)]
