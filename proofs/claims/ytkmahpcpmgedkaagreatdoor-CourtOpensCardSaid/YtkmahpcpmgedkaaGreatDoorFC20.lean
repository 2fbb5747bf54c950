/- Part of the proof. -/
import Derived.Test.YtkmahpcpmgedkaaGreatDoorFC19
import Derived.RangeFuncKeeps
import Derived.RangeFuncLeaves
import Derived.Shelf.Abstract
import Derived.WalkKit
import Derived.OwnWalkIn
import Derived.TacticsInMore
import Derived.LoopNIn
import Derived.LoopIn
set_option linter.all false
set_option maxHeartbeats 4000000
set_option maxRecDepth 100000
namespace Go.Proofs.Tryz
open Go Go.Dom
variable {a b n:Nat}
theorem uU {a b:Bytes} (ha:aa a=true) (hb:aa b=true) (h0:0<num b) (h:a.length<=8\/num a<num b):aE 357 [.s a, .s b] (.tup [.s (aY (num a/num b)), .s (aY (num a%num b))]):=by
 have hc:=o7 (bJ ha) (bJ hb)
 by_cases hlt:num a<num b
 ·have e:bc (num a) (num b)= -1:=by simp[bc,hlt]
  rw[e]at hc;have e1:aY (num a/num b)=[]:=by rw[iB hlt];rfl
  have e2:aY (num a%num b)=a:=by rw[b9 hlt];exact iu ha
  refine eW call357 func357 ?_;exact m9 (aN @e1 @e2) @hc
 ·have la:a.length<=8:=h.resolve_right hlt;have lb:b.length<=8:=by
   rcases pP a.length b.length with g|g
   ·have:=iK (a:=a) (bJ hb) g;omega
   ·omega
  have sa:=ov a;have sb:=ov b;rw[ha,cr,aJ la]at sa;rw[hb,cr,aJ lb]at sb;have na:=eR la;have nb:=eR lb;have hc':0<=bc (num a) (num b):=by unfold bc;split<;>(try split)<;>omega
  have hq:num a/num b<(2^64):=eX (eV _ _) na;have hr:num a%num b<(2^64):=eX (Nat.mod_le _ _) na;refine eW call357 func357 ?_;repeat' first|simp only[go_sem,seval,ax,uw,b9 hq]|refine cP hc ?_|refine cP sa ?_|refine cP sb ?_|refine cP (lH _ hq) ?_|refine cP (lH _ hr) ?_|refine oE ?_|apply xX<;>intro hc
def tc (a b:Bytes):Bytes×Bytes×Int:=if aa a&&aa b then(if b=[]then([],[],11)else(aY (num a/num b),aY (num a%num b),0))else([],[],3)
theorem qO {b:Bytes} (h:Canon b) (h0:b≠[]):0<num b:=bE (ik oC) (oB h h0)
theorem Jq (a b:Bytes) (h:aa a=true->aa b=true->b≠[]->a.length<=8\/num a<num b):aE 232 [.s a, .s b] (.tup [.s (tc a b).1, .s (tc a b).2.1,E (tc a b).2.2]):=by
 by_cases hv:aa a=true/\aa b=true
 case neg=>
  refine eW call232 func232 ?_;repeat' first|simp only[go_sem,seval]|refine cP (aT _) ?_|refine oE ?_|apply xX<;>intro hc
  all_goals simp_all[tc]
 obtain⟨hva,hvb⟩:=hv
 by_cases hb:b=[]
 ·subst hb;refine eW call232 func232 ?_;repeat' first|simp only[go_sem,seval]|refine cP (aT _) ?_|refine oE ?_|apply xX<;>intro hc
  all_goals simp_all[tc]
 ·have hp:=qO (bJ hvb) hb;refine eW call232 func232 ?_;repeat' first|simp only[go_sem,seval]|refine cP (aT _) ?_|refine cP (uU hva hvb hp (h hva hvb hb)) ?_|refine oE ?_|apply xX<;>intro hc
  all_goals simp_all[tc]
abbrev N (n:Nat):PV:= .s (aY n)
theorem vN (h:n<(2^64)):aa (aY n)=true:=qT (jy h (by decide+kernel))
theorem lN (h:n<(2^64)):(aY n).length<=8:=o6.2 h
theorem sK (ha:a<(2^64)) (hb:b<(2^64)) (h0:0<b):aE 232 [N a,N b] (.tup [N (a/b),N (a%b),E 0]):=by
 have:=Jq (aY a) (aY b) (fun _ _ _=> .inl (lN ha))
 have e:aY b≠[]:=fun h=>by rw[iJ]at h;omega
 simpa only[tc,vN ha,vN hb,dt,ax,e,aq,aQ]using this
theorem Mx (ha:a<(2^64)) (hb:b<(2^64)) (h0:0<b):aE 357 [N a,N b] (.tup [N (a/b),N (a%b)]):=by
 have:=uU (vN ha) (vN hb) (by rw[aQ];exact h0) (.inl (lN ha))
 simpa only[aQ]using this
theorem GQ:(aY 0==([]:Bytes))=true:=rfl
theorem si (h:n≠0):(aY n==([]:Bytes))=false:=by
 rw[fk];intro e;exact h (iJ.1 e)
theorem we (m n:Nat):(aY m==aY n)=decide (m=n):=by
 rw[ew];simp[HY]
theorem Zs (ha:a<(2^64)) (hb:b<(2^64)):aE 362 [N a,N b] (.tup [N (Nat.gcd a b),E 0]):=by
 have va:=aT (aY a);have vb:=aT (aY b);rw[vN ha]at va;rw[vN hb]at vb;refine eW call362 func362 ?_;refine zl2 @va @vb ?_;refine af (α:=Nat×Nat) (fun x=>x.2) (fun x=>⟨[(0, .v (N x.1)),(1, .v (N x.2))],[],_⟩) (fun x=>x.1<(2^64)/\x.2<(2^64)/\Nat.gcd x.1 x.2=Nat.gcd a b) (a,b) (fun _=>aA _) ⟨ha,hb,rfl⟩ ?_ ?_
 ·exact lE
 ·rintro⟨x,y⟩ ⟨hx,hy,hg⟩ R hR;simp only at hx hy hg
  by_cases h0:y=0
  ·subst h0;refine dI @GQ ?_;rw[<-hg,DX]
  ·have e:=si h0;have hd:=Mx hx hy oO;refine jm @e @hd ?_;have hm:x%y<y:=aL _ oO;refine hR (y,x%y) ⟨hy,by show x%y< _;omega,?_⟩ hm _ ?_
   ·show Nat.gcd y (x%y)= _;rw[<-hg,kZ x y,mA y x,kZ]
   ·exact lE
theorem nn:(([]:Bytes)==[])=true:=rfl
theorem cn (c:UInt8) (r:Bytes):((c::r:Bytes)==[])=false:=rfl
def c9 (n:Nat):Nat:=if n=0 then 0 else n.log2+1
theorem wW {a:Bytes} (h:aa a=true):aE 105 [.s a] (E (c9 (num a))):=by
 have hv:=aT a;rw[h]at hv
 cases a with
 |nil=>
  refine eW call105 func105 ?_;repeat' first|simp only[go_sem,seval,nn]|refine cP hv ?_|refine oE ?_|apply xX<;>intro hc
  rfl
 |cons c r=>
  have hc:=bJ h;have hl:=cW h;have hp:=qO hc (by simp)
  have hn:num (c::r)=c.toNat*256^r.length+num r:=rfl;have hr:=cC r;have hc0:c≠0:=by rcases hc with e|e;cases e;exact e
  have hct:0<c.toNat:=by
   rcases kf c.toNat with e|e
   ·exact aM (kz.1 e:c=0) hc0
   ·exact e
  have hcl:=c.toNat_lt;have hb:=rD hct oO;have e256:256^r.length=2^(8*r.length):=by rw[show 256=2^8 from rfl,<-ky]
  have key:c9 (num (c::r))=8*r.length+Lib.bitLen c.toNat:=by
   unfold c9;rw[ae oO];have:(num (c::r)).log2=8*r.length+Lib.bitLen c.toNat-1:=by
    rw[Nat.log2_eq_iff oO];have a1:2^(8*r.length+Lib.bitLen c.toNat-1)=2^(Lib.bitLen c.toNat-1)*256^r.length:=by rw[e256,<-cY];congr 1;omega
    have a2:2^(8*r.length+Lib.bitLen c.toNat-1+1)=2^Lib.bitLen c.toNat*256^r.length:=by rw[e256,<-cY];congr 1;omega
    rw[a1,a2,hn];have b1:=dw (256^r.length) hb.2.1;have b2:=dw (256^r.length) (show c.toNat+1<=2^Lib.bitLen c.toNat from hb.2.2)
    rw[dk]at b2;omega
   omega
  have hL:=HQ c.toNat oO;have hbl:=j2 (x:=c.toNat) oO;have hl':r.length<=127:=by simpa using hl
  rw[key];clear hb e256 key hn hr hp hc;refine eW call105 func105 ?_;repeat' first|simp only[go_sem,seval,cn]|refine cP hv ?_|refine cP hL ?_|refine oE ?_|apply xX<;>intro hc
  congr 1;omega
theorem Xt (ha:a<9223372036854775808) (hb:b<9223372036854775808):mT .i64 (a:Int) (b:Int)=((a&&&b:Nat):Int):=by
 have h1:a&&&b<9223372036854775808:=eX Nat.and_le_left ha;rw[mT,gH,gH,BitVec.toNat_and,kV,kV];show IntKind.i64.wrap ((a%2^64&&&b%2^64:Nat):Int)= _;rw[b9 oO,b9 oO,IntWalk.i64_in _ oO]
theorem yd {a:Bytes} (h:aa a=true) (i:Nat) (hi:i<4611686018427387904):aE 108 [.s a,E i] (.b ((num a).testBit i)):=by
 have hv:=aT a;rw[h]at hv;have hl:=cW h;have e0:(i:Int).tdiv 8=((i/8:Nat):Int):=rfl;have e1:(i:Int).tmod 8=((i%8:Nat):Int):=rfl;have hd:=lQ a (i/8) oO;have key:(num a).testBit i=decide (num a/256^(i/8)%256/2^(i%8)%2=1):=by
  rw[lB];congr 1;have e2:256^(i/8)=2^(8*(i/8)):=by rw[show 256=2^8 from rfl,<-ky]
  have e3:2^i=256^(i/8)*2^(i%8):=by rw[e2,<-cY];congr 1;omega
  rw[e3,<-eS];generalize num a/256^(i/8)=z;have h8:i%8<8:=aL _ oC;generalize i%8=j at h8;have:2^j*2^(8-j)=256:=by rw[<-cY,show j+(8-j)=8 by omega]
  have e5:z%256/2^j=z/2^j%2^(8-j):=by rw[<-this,rf]
  rw[e5];have e6:2^(8-j)=2*2^(7-j):=by rw[<-x6];congr 1;omega
  rw[e6,Nat.mod_mul_right_mod]
 obtain⟨d,hdd⟩: ∃d,d=num a/256^(i/8)%256:=⟨_,rfl⟩;rw[<-hdd]at key hd;have hdl:d<256:=by rw[hdd];exact aL _ oC
 have hm: ∀ _:True,(if i%8<=64 then i%8 else 64)=i%8:=fun _=>by split<;>omega
 have ha: ∀ _:True,mT .i64 ((d/2^(i%8):Nat):Int) 1=((d/2^(i%8)%2:Nat):Int):=fun _=>by
  have hle:d/2^(i%8)<=d:=eV _ _;have:=Xt (a:=d/2^(i%8)) (b:=1) oO oC;rw[Nat.and_one_is_mod]at this;exact this
 have hs:a.length<=i/8->d=0:=fun g=>by rw[hdd,sk a g]
 rw[key];clear key hdd;refine eW call108 func108 ?_;repeat' first|simp only[go_sem,seval,e0,e1,hm oT,ha oT]|refine cP hv ?_|refine cP hd ?_|refine oE ?_|apply xX<;>intro hc
 ·congr 1;rw[ew];simp only[gR,cK];omega
 ·rw[hs oO];simp
end Go.Proofs.Tryz
namespace Go.Proofs.Tryz
open Go Go.Dom Go.RowKit Go.Shelf
theorem rv.calls {P:Program} [cG P] {f:FuncId} {args:List PV} {r:PV} (h:rv P f args r) (he:Go.Dom.Enters P f f) (w:World) (rd:Rd) (vs:List Value) (h1: ∀b o v,TR P b o=some v->rd b o=some v) (h2: ∀b o v,rd b o=some v->w.cell? ⟨b,o,none⟩=some v) (h3:bK (PR rd) args vs):
  CallsIn Fence.wide 0 P f vs.toArray w fun e w'=> ∃v,e= .returned v/\Below w.heap.size w w'/\PR (fO rd w w') r v:=by
 obtain⟨g,hg,hc⟩:=h;have:g=f:=by
  have a:=hg #[] w;rw[he #[] w]at a
  cases a;rfl
 subst this;exact callsIn_wide.2 (hc w rd vs h1 h2 h3)
def Gx (n:Nat):Nat->List (List PV)
 |0=>[]
 |k+1=>[.b (n.testBit k)]::Gx n k
theorem JR (e:Bytes) (he:aa e=true):Y8 prog 468 [.pt (.agg [.s e]) 0] true (Gx (num e) (c9 (num e))):=by
 refine⟨call468,?_⟩;intro w rd cvs l J Jx htr hcaps hrd hb hbx hY _ h0;obtain⟨p,us,rfl,hp,hnil⟩:=hcaps.fH;obtain rfl:=hnil.eg;obtain⟨bk,of,rfl,hcell⟩: ∃bk of,p= .pointer (some ⟨bk,of,none⟩)/\rd bk of=some (.string ⟨e.toArray⟩):=by
  cases hp with
  |pt x o vs bk of h1 hl hr h=>
   obtain⟨v,rfl⟩:=pO.1 (show vs.length=1 from hl.symm)
   have:=h 0 (.s e) v rfl rfl;cases this;exact⟨bk,of,rfl,hr 0 _ rfl⟩
 refine callsIn_of_wp func468 rfl oT ?_;simp only[Tryz.ntmps468,my,List.length_cons,List.length_nil,Nat.reduceAdd,Nat.reduceSub,Array.replicate_succ,Array.replicate_zero,List.push_toArray,List.append_toArray,List.nil_append,List.cons_append];have hc0:=hrd _ _ h0 _ _ _ hcell
 gi_wp2
 refine⟨trivial,rfl,(rv.calls (wW he) call105 w rd [_] htr (hrd _ _ h0) ?_).mono ?_⟩
 ·exact .cons (.s e) .nil
 rintro x w1 ⟨v,rfl,hbl,hpr⟩;cases hpr;have h1:=hb _ _ _ h0 hbl;clear hbl h0 hc0;have hbd:c9 (num e)<2^60:=by
  have hl:=cW he;have:=cC e;unfold c9;split
  ·decide
  ·rename_i h0;have h1:num e<2^(8*e.length):=by rw[ky];exact this
   have h2:=(xU h0).2 h1;omega
 have hw:IntKind.i64.wrap ((c9 (num e):Int)-1)=(c9 (num e):Int)-1:=IntWalk.i64_in _ oO
 gi_wp2
 gi_loopw [3] (fun p wr=> ∃k:Nat,p= .int .i64 ((k:Int)-1)/\k<=c9 (num e)/\J (Gx (num e) k) wr) (fun p wr=>match p with| .int _ n=>(n+1).toNat| _=>0)
 case atStart=>
  exact⟨_,rfl,aA _,h1⟩
 case round=>
  obtain⟨k,rfl,hk,hJ⟩:=hrel;have hcr:=hrd _ _ hJ _ _ _ hcell
  cases k with
  |zero=>
   gi_wp2
   go_end0
   exact⟨⟨_,rfl⟩, .inl hJ⟩
  |succ k=>
   have hw2:((k+1:Nat):Int)-1=(k:Int):=oO;rw[hw2]
   gi_wp2
   refine⟨trivial,rfl,(rv.calls (yd he k oO) call108 wr rd [_,_] htr (hrd _ _ hJ) ?_).mono ?_⟩
   ·exact .cons (.s e) (.cons (.i _ _) .nil)
   rintro x w2 ⟨v,rfl,hbl,hpr⟩;cases hpr;have hJ2:=hb _ _ _ hJ hbl;obtain⟨fn,tmps,assign,body,hy,hR⟩:=hY [.b ((num e).testBit k)] (Gx (num e) k) [.bool ((num e).testBit k)] w2 hJ2 (.cons (.b _) .nil)
   gi_wp2
   refine⟨rfl,hR.mono ?_⟩;rintro x W3 (⟨rfl,hJ3⟩|⟨rfl,hJx⟩)
   ·have hw3:IntKind.i64.wrap ((k:Int)-1)=(k:Int)-1:=IntWalk.i64_in _ oO
    gi_wp2
    go_roundw
    case rel=>exact⟨k,rfl,oO,hJ3⟩
    case measure=>simp
   ·gi_wp2
    refine bodyPost_ret (results_none rfl _ _ _) rfl ?_;exact⟨⟨_,rfl⟩, .inr hJx⟩
end Go.Proofs.Tryz
namespace Go.Proofs.Tryz
open Go Go.Dom
def sX (l:List Bytes) (m:Bytes):Int:=if l.all aa&&aa m then(if m=[]then 11 else 0)else 3
theorem Uz (nm:Nat) (a m:Bytes):ml prog 216 nm [] [.fs [.s a], .fs [.s m]] (.v (E (sX [a] m))) []:=by
 refine ml.w mixed call216 func216 rfl (nh.1 _ _ _ (by cbv)) (nh.2 _ _ (by cbv)) (obs:=[]) (args:=[.fs [.s a], .fs [.s m]]) (fs:=[]) (j:=none) (nw:=none) (v:= .v (E (sX [a] m))) (ns:=[]) (obsA:=[]) rfl ?_ (by simp) (by simp) rfl rfl (by simp[bz,AV.aZ]) (by simp[AV.aZ]) (by simp[gY,outs])
 have va:=aT a;have vm:=aT m;simp only[go_sem,seval];repeat' first|simp only[go_sem,seval,true_or,or_true,false_or,or_false,aj,kD,fE,jB,ia,ic,fG,rq,rX,iL,jY,eP,aV,AV.aZ,AV.aZ.renL,aO,fY,eF]|refine cP va ?_|refine cP vm ?_|(refine ai ?_)|refine oE ?_|apply xX<;>intro hc
 all_goals simp_all[sX]
theorem Ck (nm:Nat) (a b m:Bytes):ml prog 216 nm [] [.fs [.s a, .s b], .fs [.s m]] (.v (E (sX [a,b] m))) []:=by
 refine ml.w mixed call216 func216 rfl (nh.1 _ _ _ (by cbv)) (nh.2 _ _ (by cbv)) (obs:=[]) (args:=[.fs [.s a, .s b], .fs [.s m]]) (fs:=[]) (j:=none) (nw:=none) (v:= .v (E (sX [a,b] m))) (ns:=[]) (obsA:=[]) rfl ?_ (by simp) (by simp) rfl rfl (by simp[bz,AV.aZ]) (by simp[AV.aZ]) (by simp[gY,outs])
 have va:=aT a;have vb:=aT b;have vm:=aT m;simp only[go_sem,seval];repeat' first|simp only[go_sem,seval,true_or,or_true,false_or,or_false,aj,kD,fE,jB,ia,ic,fG,rq,rX,iL,jY,eP,aV,AV.aZ,AV.aZ.renL,aO,fY,eF]|refine cP va ?_|refine cP vb ?_|refine cP vm ?_|(refine ai ?_)|refine oE ?_|apply xX<;>intro hc
 all_goals simp_all[sX]
theorem SP {a m:Nat} (ha:a<(2^64)) (hm:m<(2^64)) (h0:0<m):sX [aY a] (aY m)=0:=by
 have:aY m≠[]:=fun h=>by rw[iJ]at h;omega
 simp[sX,vN ha,vN hm,this]
theorem wj {a m:Nat} {e:Bytes} (ha:a<(2^64)) (he:aa e=true) (hm:m<(2^64)) (h0:0<m):sX [aY a,e] (aY m)=0:=by
 have:aY m≠[]:=fun h=>by rw[iJ]at h;omega
 simp[sX,vN ha,he,vN hm,this]
theorem Gg {a:Nat} (h:a<(2^64)):aE 235 [N a] (.tup [.i .u64 a, .b true]):=by
 have:=ov (aY a);rw[vN h,aJ (lN h),aQ]at this;exact this
theorem Hy {a b m:Nat} (ha:a<(2^64)) (hb:b<(2^64)) (hm:m<(2^64)) (h0:0<m):aE 220 [N a,N b,N m] (N (a*b%m)):=by
 have la:=lN ha;have lb:=lN hb;have lm:=lN hm;have h1:a%m<(2^64):=eX (Nat.mod_le _ _) ha;have h2:b%m<(2^64):=eX (Nat.mod_le _ _) hb;have hq:=sN (a%m) (b%m) h1 h2;have h3:a%m*(b%m)/(2^64)<(2^64):=(iH oC).2 (ga h1 h2);have hr:=LB (a%m*(b%m)/(2^64)) (a%m*(b%m)%(2^64)) m h0 h3 (aL _ oC) hm;have e:a%m*(b%m)/(2^64)*(2^64)+a%m*(b%m)%(2^64)=a%m*(b%m):=oO;rw[e,<-du]at hr;have ho:=lH (a*b%m) (jy (aL _ h0) hm);have sa:=Gg ha;have sb:=Gg hb;have sm:=Gg hm;clear h3 e h1 h2;refine eW call220 func220 ?_;exact z7 @sa @sb @sm @hq @hr @ho oT
theorem l8 {a m:Nat} (ha:a<(2^64)) (hm:m<(2^64)) (h0:0<m):aE 218 [N a,N m] (N (a%m)):=by
 refine eW call218 func218 ?_;exact z1 (sK ha hm h0)
theorem ql {a b m:Nat} (ha:a<(2^64)) (hb:b<(2^64)) (hm:m<(2^64)) (h0:0<m):aE 107 [N a,N b,N m] (.tup [N (a*b%m),E 0]):=by
 have hc:=fun nm=>Ck nm (aY a) (aY b) (aY m)
 rw[wj ha (vN hb) hm h0]at hc;refine eW call107 func107 ?_;repeat' first|simp only[go_sem,seval]|(refine cu (hc _) (by simp) ?_)|refine cP (Hy ha hb hm h0) ?_|refine oE ?_|apply xX<;>intro hc
theorem JS (e:Bytes):aE 433 [.s e] (.fc 468 [] [.pt (.agg [.s e]) 0]):=by
 refine eW call433 func433 ?_;exact z0
theorem Eu (n:Nat): ∀k,∀y∈Gx n k,y.length=1
 |0,y,h=>by cases h
 |k+1,y,h=>by
  rcases cb.1 h with rfl|h
  ·rfl
  ·exact Eu n k y h
theorem e9:(.s [1]:PV)=N 1:=rfl
theorem Tn {a z m:Nat}:a^z%m*(a^z%m)%m=a^(2*z)%m:=by rw[<-du,<-cY,rm]
theorem V9 {a z m:Nat}:a^z%m*(a^z%m)%m*(a%m)%m=a^(2*z+1)%m:=by rw[Tn,<-du,<-Nat.pow_succ]
theorem WR {a m:Nat} {e:Bytes} (ha:a<(2^64)) (he:aa e=true) (hm:m<(2^64)) (h0:0<m):aE 360 [N a, .s e,N m] (.tup [N (a^num e%m),E 0]):=by
 have hc:=fun nm=>Ck nm (aY a) e (aY m)
 rw[wj ha he hm h0]at hc;have h1:=l8 (a:=1) oC hm h0;refine eW call360 func360 ?_;simp only[go_sem,seval,e9];repeat' first|simp only[go_sem,seval,e9]|(refine cu (hc _) (by simp) ?_)|refine cP (l8 ha hm h0) ?_|refine cP h1 ?_|refine cP (JS e) ?_|(refine Lt (JR e he) rfl (Eu _ _) ?_)|refine oE ?_|apply xX<;>intro hc
 obtain⟨n,hn⟩: ∃n,n=num e:=⟨_,rfl⟩;rw[<-hn];have hbl:n/2^c9 n=0:=by
  refine iB ?_;unfold c9;split
  ·subst_vars;rename_i h;rw[h];decide
  ·rename_i h;exact ui
 refine V2 (α:=Nat) (fun k=>⟨[(3, .p 1000 0 0),(5, .p 1001 0 0),(9, .p 1019 0 0)],[(1000,⟨0,[.v (N (a%m))],false,none⟩),(1001,⟨0,[.v (N m)],false,none⟩),(1019,⟨0,[.v (N (a^(n/2^k)%m))],false,some 22⟩)],_⟩) (fun ys k=>ys=Gx n k) (c9 n) (fun _=>aA _) rfl ?_ ?_ ?_
 ·(refine AS.Le.of (by first|decide|omega) ?_ ?_<;>simp[dC,dA,aP,ay,AV.bd,AV.bd.bdL,u8,ar,au,az])
  rw[hbl,Nat.pow_zero]
 ·intro k hk
  cases k with
  |succ k=>cases hk
  |zero=>
   refine wV ?_;rw[iW]
 ·intro y ys k hk R hR
  cases k with
  |zero=>cases hk
  |succ k=>
   simp only[Gx,List.cons.injEq]at hk;obtain⟨rfl,rfl⟩:=hk;obtain⟨x,hx⟩: ∃x,x=a^(n/2^(k+1))%m:=⟨_,rfl⟩;have hxm:x<m:=by rw[hx];exact aL _ h0
   have t1:=Hy (a:=x) (b:=x) oO oO hm h0;have hxx:x*x%m<m:=aL _ h0;have ham:a%m<m:=aL _ h0;have t2:=Hy (a:=x*x%m) (b:=a%m) oO oO hm h0;have hbit:=lB (x:=n) (i:=k);have hdd:n/2^(k+1)=n/2^k/2:=by rw[Nat.pow_succ,eS]
   rw[<-hx,hbit];repeat' first|simp only[go_sem,seval]|refine cP t1 ?_|refine cP t2 ?_|refine oE ?_|apply xX<;>intro hc
   ·have hb2:n/2^k=2*(n/2^(k+1))+1:=oO;refine hR k rfl _ ?_;rw[hb2,hx,V9];exact lE
   ·have hb2:n/2^k=2*(n/2^(k+1)):=oO;refine hR k rfl _ ?_;rw[hb2,hx,Tn];exact lE
theorem Rx (n:Nat):(aY n==([1]:Bytes))=decide (n=1):=we n 1
end Go.Proofs.Tryz
namespace Go.Dom
variable {a b g r0 r1:Nat} {x0 x1 y0 y1:Int}
structure sL (a b r0 r1:Nat) (x0 x1 y0 y1:Int):Prop where
 e0:(a:Int)*x0+b*y0=r0
 e1:(a:Int)*x1+b*y1=r1
 g:Nat.gcd r0 r1=Nat.gcd a b
 hx:x1.natAbs*r0+x0.natAbs*r1<=b
 hy:y1.natAbs*r0+y0.natAbs*r1<=a
 bx0:x0.natAbs<=b
 bx1:x1.natAbs<=b
 by0:y0.natAbs<=a+1
 by1:y1.natAbs<=a+1
theorem sL.start (hb:0<b):sL a b a b 1 0 0 1:=
 ⟨by omega,by omega,rfl,by simp,by simp,by show 1<=b;omega,by simp,by simp,by simp⟩
theorem Ee {q B:Nat} (hq:q=r0/r1) (h:x1.natAbs*r0+x0.natAbs*r1<=B):(x0-q*x1).natAbs*r1+x1.natAbs*(r0%r1)<=B:=by
 have h1:(x0-q*x1).natAbs<=x0.natAbs+q*x1.natAbs:=by
  have:=Int.natAbs_sub_le x0 (q*x1)
  rwa[mC,Int.natAbs_natCast]at this
 have h2:=dw r1 h1;have h3:r1*q+r0%r1=r0:=by rw[hq];exact iC r0 r1
 have h4:x1.natAbs*r0=x1.natAbs*(r1*q)+x1.natAbs*(r0%r1):=by rw[<-kp,h3]
 have h5:(x0.natAbs+q*x1.natAbs)*r1=x0.natAbs*r1+x1.natAbs*(r1*q):=by
  rw[dk,bO q,cM,bO q]
 omega
theorem sL.step (h:sL a b r0 r1 x0 x1 y0 y1) (h1:0<r1):sL a b r1 (r0%r1) x1 (x0-(r0/r1:Nat)*x1) y1 (y0-(r0/r1:Nat)*y1):=by
 have hx:=Ee (q:=r0/r1) rfl h.hx;have hy:=Ee (q:=r0/r1) rfl h.hy;have le: ∀{n B:Nat} {m:Nat},n*r1+m<=B->n<=B:=fun{n B m} g=>by
  have:=Nat.le_mul_of_pos_right n h1;omega
 refine⟨h.e1,?_,?_,hx,hy,h.bx1,le hx,h.by1,?_⟩
 ·have e0:=h.e0;have e1:=h.e1;have hd:=iC r0 r1;generalize r0/r1=q at*;generalize r0%r1=t at*;have:(r0:Int)=r1*q+t:=by rw[<-hd];simp
  rw[pH,pH];have e3:(a:Int)*(q*x1)=q*(a*x1):=by rw[<-mq,ua (a:Int),mq]
  have e4:(b:Int)*(q*y1)=q*(b*y1):=by rw[<-mq,ua (b:Int),mq]
  have e5:(q:Int)*(a*x1)+q*(b*y1)=r1*q:=by rw[<-mz,e1,ua]
  omega
 ·rw[<-h.g,kZ r0 r1,mA r1 r0,kZ]
 ·have:=le hy;omega
theorem GG {X Y:Int} (h0:0<=X) (h:(a:Int)*X+b*Y=1):a*(X.natAbs%b)%b=1%b:=by
 obtain⟨n,rfl⟩:=Int.eq_ofNat_of_zero_le h0;rw[Int.natAbs_natCast,jx];have e:((a*n:Nat):Int)%b=(1:Int)%b:=by
  have:((a*n:Nat):Int)=1+b*(-Y):=by simp only[Int.natCast_mul,pN];omega
  rw[this,rj]
 exact_mod_cast e
theorem Nd {a m i j:Nat} (hi:i<m) (hj:j<m) (h1:a*i%m=1%m) (h2:a*j%m=1%m):i=j:=by
 have e1:i*(a*j)%m=i%m:=by rw[<-jx,h2,jx,db]
 have e2:i*(a*j)%m=j%m:=by rw[<-cM,bO i a,<-jM,h1,jM,jL]
 rw[b9 hi]at e1;rw[b9 hj]at e2;omega
noncomputable def fR (a m:Nat):Nat:= @dite _ (∃i,i<m/\a*i%m=1%m) (Classical.propDecidable _) (fun h=>Classical.choose h) (fun _=>0)
theorem jr {a m i:Nat} (hi:i<m) (h:a*i%m=1%m):fR a m=i:=by
 have hx: ∃i,i<m/\a*i%m=1%m:=⟨i,hi,h⟩;unfold fR;rw[dif_pos hx];obtain⟨g1,g2⟩:=Classical.choose_spec hx;exact Nd g1 hi g2 h
theorem sL.fin (h:sL a b g 0 x0 x1 y0 y1):g=Nat.gcd a b:=by
 have:=h.g;rwa[DX]at this
theorem sL.inv (h:sL a b 1 0 x0 x1 y0 y1) (hb:0<b): ∀X:Int,X=(if x0<0 then x0+b else x0)->0<=X/\X<=b/\X.natAbs%b=fR a b:=by
 intro X hX;have b0:=h.bx0;have h0:0<=X:=by rw[hX];split<;>omega
 refine⟨h0,by rw[hX];split<;>omega,(jr (aL _ hb) ?_).symm⟩
 have e0:=h.e0
 by_cases hx:x0<0
 ·rw[ah hx]at hX;refine GG (Y:=y0-a) h0 ?_;rw[hX,mz,pH,ua (b:Int) a];omega
 ·rw[ae hx]at hX;exact GG (Y:=y0) h0 (by rw[hX];omega)
def Ex:Nat->Nat->Nat->Int->Int->Int->Int->Nat×Int×Int
 |0,r0,_,x0,_,y0,_=>(r0,x0,y0)
 |f+1,r0,r1,x0,x1,y0,y1=>if r1=0 then(r0,x0,y0)else Ex f r1 (r0%r1) x1 (x0-(r0/r1:Nat)*x1) y1 (y0-(r0/r1:Nat)*y1)
theorem Ey: ∀{f r0 r1:Nat} {x0 x1 y0 y1:Int},r1<f->sL a b r0 r1 x0 x1 y0 y1-> ∃x' y',sL a b (Ex f r0 r1 x0 x1 y0 y1).1 0 (Ex f r0 r1 x0 x1 y0 y1).2.1 x' (Ex f r0 r1 x0 x1 y0 y1).2.2 y'
 |0,_,_,_,_,_,_,h,_=>aM h (pE _)
 |f+1,r0,r1,x0,x1,y0,y1,h,hE=>by
  unfold Ex;split
  ·rename_i h0;subst h0;exact⟨x1,y1,hE⟩
  ·rename_i h0;exact Ey (by have:=aL r0 (show 0<r1 by omega);omega) (hE.step (by omega))
structure SG (a b g:Nat) (x y:Int):Prop where
 z:b=0->x=1/\y=0
 bx:0<b->x.natAbs<=b
 by':0<b->y.natAbs<=max a 1
 e:(a:Int)*x+b*y=g
 g:g=Nat.gcd a b
theorem SG.base (a:Nat):SG a 0 a 1 0:=⟨fun _=>⟨rfl,rfl⟩,fun h=>by omega,fun h=>by omega,by simp,by simp⟩
theorem SG.step {x y:Int} (hb:0<b) (h:SG b (a%b) g x y):SG a b g y (x-(a/b:Nat)*y):=by
 have hd:=iC a b;have hg:g=Nat.gcd a b:=by rw[h.g,kZ a b,mA b a,kZ]
 have he:=h.e;have e1:(a:Int)=b*(a/b:Nat)+(a%b:Nat):=by
  have:((b*(a/b)+a%b:Nat):Int)=(a:Int):=by rw[hd]
  rw[<-this];simp
 rcases kf (a%b)with h0|h0
 ·obtain⟨rfl,rfl⟩:=h.z h0;refine⟨by omega,by simp,fun _=>by simp;omega,?_,hg⟩
  simp only[xE,Int.sub_zero,Int.mul_one,xT,Int.add_zero]at he⊢;exact he
 ·have bx:=h.bx h0;have by1:y.natAbs<=b:=by have:=h.by' h0;omega
  refine⟨by omega,fun _=>by1,fun _=> ?_,?_,hg⟩
  ·have h1:(x-(a/b:Nat)*y).natAbs<=x.natAbs+a/b*y.natAbs:=by
    have:=Int.natAbs_sub_le x ((a/b:Nat)*y)
    rwa[mC,Int.natAbs_natCast]at this
   have h2:=jt (a/b) by1;have h3:a/b*b=b*(a/b):=bO _ _;omega
  ·generalize a/b=q at*;generalize a%b=t at*;rw[pH,e1,Int.add_mul];have e3:(b:Int)*q*y=b*(q*y):=mq ..;omega
noncomputable def de (m x:Nat) (ng:Bool) (e:Nat):Nat:=(if ng then fR x m else x)^e%m
def fD (m x:Nat):Prop:= ∃i,i<m/\x*i%m=1%m
theorem fD.inv {m x:Nat} (h:fD m x):fR x m<m/\x*fR x m%m=1%m:=by
 obtain⟨i,h1,h2⟩:=h;rw[jr h1 h2];exact⟨h1,h2⟩
theorem fD.Xv {m x:Nat} (h:fD m x) (hm:0<m):fD m (fR x m):=
 ⟨x%m,aL _ hm,by rw[jx,bO];exact h.inv.2⟩
theorem fD.pow {m x:Nat} (h:fD m x) (hm:0<m) (e:Nat):fD m (x^e%m)/\fR (x^e%m) m=fR x m^e%m:=by
 obtain⟨h1,h2⟩:=h.inv;have key:x^e%m*(fR x m^e%m)%m=1%m:=by
  rw[<-du,<-xJ,kW,h2,<-kW,qY]
 have hl:fR x m^e%m<m:=aL _ hm;exact⟨⟨_,hl,key⟩,jr hl key⟩
theorem fD.inv2 {m x:Nat} (h:fD m x) (hm:0<m):fR (fR x m) m=x%m:=
 jr (aL _ hm) (by rw[jx,bO];exact h.inv.2)
theorem fD.de {m x:Nat} (h:fD m x) (hm:0<m) (ng:Bool) (e:Nat):fD m (Dom.de m x ng e):=by
 unfold Dom.de;cases ng
 ·exact(h.pow hm e).1
 ·exact((h.Xv hm).pow hm e).1
theorem fD.mul {m x y:Nat} (h:fD m x) (g:fD m y) (hm:0<m):fD m (x*y%m):=by
 obtain⟨i,h1,h2⟩:=h;obtain⟨j,g1,g2⟩:=g;refine⟨i*j%m,aL _ hm,?_⟩;rw[<-du];have e:x*y*(i*j)=(x*i)*(y*j):=by
  rw[cM,cM];congr 1;rw[<-cM,bO y i,cM]
 rw[e,du,h2,g2,<-du,jL]
theorem l7 (m x a b:Nat):(x^a%m)^b%m=x^(a*b)%m:=by rw[<-kW,<-ky]
theorem BI {m x:Nat} (h:fD m x) (hm:0<m) (n1 n2:Bool) (a b:Nat):de m (de m x n1 a) n2 b=de m x (n1 !=n2) (a*b):=by
 cases n1<;>cases n2
 ·simp only[de,bu,aq,lF,l7]
 ·have:=(h.pow hm a).2;simp only[de,bu,aq,ax,this,l7,Bool.bne_true,cv]
 ·simp only[de,bu,aq,ax,l7,Bool.bne_false]
 ·have h1:=((h.Xv hm).pow hm a).2;rw[h.inv2 hm]at h1;simp only[de,ax,lF,bu,aq,h1];rw[l7,<-kW]
theorem oL (m x:Nat) (n:Bool):de m x n 0=1%m:=by simp[de]
theorem gL {m x:Nat} (hm:0<m) (h:Nat.gcd x m=1):fD m x:=by
 have key: ∀(n a b:Nat),b<=n-> ∃X Y:Int,(a:Int)*X+b*Y=Nat.gcd a b:=by
  intro n
  induction n with
  |zero=>
   intro a b hb;obtain rfl:b=0:=by omega
   exact⟨1,0,by simp⟩
  |succ n ih=>
   intro a b hb;rcases kf b with rfl|h0
   ·exact⟨1,0,by simp⟩
   ·obtain⟨X,Y,e⟩:=ih b (a%b) (by have:=aL a h0;omega)
    refine⟨Y,X-(a/b:Nat)*Y,?_⟩;have hg:Nat.gcd b (a%b)=Nat.gcd a b:=by rw[kZ a b,mA b a,kZ]
    rw[<-hg,<-e];have e1:(a:Int)=b*(a/b:Nat)+(a%b:Nat):=by
     have:((b*(a/b)+a%b:Nat):Int)=(a:Int):=by rw[iC]
     rw[<-this];simp
    generalize a/b=q at*;generalize a%b=t at*;rw[pH,e1,Int.add_mul];have e3:(b:Int)*q*Y=b*(q*Y):=mq ..;omega
 obtain⟨X,Y,e⟩:=key m x m (aA _);rw[h]at e;refine⟨(X%(m:Int)).toNat,?_,?_⟩
 ·have:=ig X (show(0:Int)<m by omega)
  have:=gU X (show(m:Int)≠0 by omega)
  omega
 ·have h0:=gU X (show(m:Int)≠0 by omega)
  have e2:((x*(X%(m:Int)).toNat:Nat):Int)%m=(1:Int)%m:=by
   rw[Int.natCast_mul,lD h0,Int.mul_emod,Int.emod_emod_of_dvd _ (Int.dvd_refl _),<-Int.mul_emod];have:(x:Int)*X=1+m*(-Y):=by rw[pN];simp at e;omega
   rw[this,rj]
  exact_mod_cast e2
def pp (l:List (Nat×Nat)) (k:Nat):Nat:=l.foldr (fun p a=>p.1^(p.2/2^k)*a) 1
def pb (l:List (Nat×Nat)) (k:Nat):Nat:=l.foldr (fun p a=>p.1^(p.2/2^k%2)*a) 1
theorem xr (p:Nat×Nat) (l:List (Nat×Nat)) (k:Nat):pp (p::l) k=p.1^(p.2/2^k)*pp l k:=rfl
theorem CY (p:Nat×Nat) (l:List (Nat×Nat)) (k:Nat):pb (p::l) k=p.1^(p.2/2^k%2)*pb l k:=rfl
theorem RA (l:List (Nat×Nat)) (p:Nat×Nat) (k:Nat):pb (l++[p]) k=pb l k*p.1^(p.2/2^k%2):=by
 induction l with
 |nil=>simp[pb]
 |cons q l ih=>rw[List.cons_append,CY,CY,ih,cM]
theorem RD (l:List (Nat×Nat)) (k:Nat):pp l k=pp l (k+1)*pp l (k+1)*pb l k:=by
 induction l with
 |nil=>rfl
 |cons p l ih=>
  rw[xr,xr,CY,ih];have e:p.2/2^k=p.2/2^(k+1)+p.2/2^(k+1)+p.2/2^k%2:=by
   have:p.2/2^(k+1)=p.2/2^k/2:=by rw[Nat.pow_succ,eS]
   omega
  rw[e,cY,cY,<-e];generalize p.1^(p.2/2^(k+1))=a;generalize p.1^(p.2/2^k%2)=b;generalize pp l (k+1)=c;generalize pb l k=d;simp only[cM,Nat.mul_left_comm,bO]
theorem VA {l:List (Nat×Nat)} {k:Nat} (h: ∀p∈l,p.2<2^k):pp l k=1:=by
 induction l with
 |nil=>rfl
 |cons p l ih=>
  rw[xr,ih fun q hq=>h q (iY _ hq),iB (h p (pM ..))];rfl
noncomputable def SN (M:Nat) (x:Nat) (e:Bool×Bytes):Nat:=if e.1 then fR x M else x
noncomputable def wO (M:Nat) (l:List (Nat×(Bool×Bytes))):Nat:=pp (l.map fun p=>(SN M p.1 p.2,num p.2.2)) 0%M
theorem xt (M:Nat):wO M []=1%M:=rfl
theorem N1 (p:Nat×Nat) (l:List (Nat×Nat)):pp (p::l) 0=p.1^p.2*pp l 0:=by rw[xr,Nat.pow_zero,iW]
theorem qn (M:Nat) (x:Nat) (e:Bool×Bytes) (l:List (Nat×(Bool×Bytes))):wO M ((x,e)::l)=de M x e.1 (num e.2)*wO M l%M:=by
 unfold wO de;rw[bC,N1,<-du];rfl
theorem IN (M:Nat) (x:Nat) (e:Bool×Bytes):wO M [(x,e)]=de M x e.1 (num e.2):=by
 rw[qn,xt,jx,db];unfold de;rw[dY]
end Go.Dom
namespace Go.Proofs.Tryz
open Go Go.Dom
variable {x y:Int}
def zs (x:Int):Bool:=decide (x<0)
def zb (x:Int):Bytes:=aY x.natAbs
abbrev Z (x:Int):PV:= .agg [.b (zs x), .s (zb x)]
def dT:Nat:=340282366920938463463374607431768211456
theorem AY:dT<=dZ:=by unfold dZ dT;decide+kernel
theorem F6:dT*dT<=dZ:=by unfold dZ dT;decide+kernel
theorem vB {n:Nat} (h:n<dZ):aa (aY n)=true:=qT h
theorem mZ (n:Nat):zb (n:Int)=aY n:=rfl
theorem nc (n:Nat):zs (n:Int)=false:=by simp[zs]
theorem CQ (x:Int):num (zb x)=x.natAbs:=aQ _
theorem Wk (x:Int):(zb x==([]:Bytes))=decide (x=0):=by
 unfold zb;rw[ew];simp[iJ]
theorem Ws (h:x.natAbs<dZ):(aa (zb x)&& !(zs x&&zb x==[]))=true:=by
 rw[Wk,show aa (zb x)=true from vB h]
 simp[zs];omega
theorem zmk (b:Bool) (n:Nat):(.agg [.b (b&& !(aY n==[])),N n]:PV)=Z (if b then-(n:Int)else n):=by
 by_cases h:n=0
 ·subst h;cases b<;>rfl
 ·have e:(aY n==([]:Bytes))=false:=si h;cases b
  ·simp[Z,zs,zb]
  ·have:decide (-(n:Int)<0)=true:=aJ oO;simp[Z,zs,zb,e,h];omega
theorem Y4 (x y:Int):(if(zs x !=zs y)then-((x.natAbs*y.natAbs:Nat):Int)else((x.natAbs*y.natAbs:Nat):Int))=x*y:=by
 rw[Int.natCast_mul];unfold zs
 by_cases h1:x<0<;>by_cases h2:y<0<;>simp only[h1,h2,decide_true,decide_false,lF,bu,aq]
 ·have e1:(x.natAbs:Int)= -x:=oO;have e2:(y.natAbs:Int)= -y:=oO;rw[e1,e2,Int.neg_mul_neg]
 ·have e1:(x.natAbs:Int)= -x:=oO;have e2:(y.natAbs:Int)=y:=oO;simp only[Bool.bne_false,ax];rw[e1,e2,ud,Int.neg_neg]
 ·have e1:(x.natAbs:Int)=x:=oO;have e2:(y.natAbs:Int)= -y:=oO;simp only[Bool.false_bne,ax];rw[e1,e2,pN,Int.neg_neg]
 ·have e1:(x.natAbs:Int)=x:=oO;have e2:(y.natAbs:Int)=y:=oO;rw[e1,e2]
theorem Tv (h:zs x=zs y):(if zs x then-((x.natAbs+y.natAbs:Nat):Int)else((x.natAbs+y.natAbs:Nat):Int))=x+y:=by
 unfold zs at*
 by_cases h1:x<0<;>by_cases h2:y<0<;>simp[h1,h2]at h⊢ <;>omega
theorem Pg (h:zs x≠zs y) (hl:y.natAbs<=x.natAbs):(if zs x then-((x.natAbs-y.natAbs:Nat):Int)else((x.natAbs-y.natAbs:Nat):Int))=x+y:=by
 unfold zs at*
 by_cases h1:x<0<;>by_cases h2:y<0<;>simp[h1,h2]at h⊢ <;>omega
theorem Tw (h:zs x≠zs y) (hl:x.natAbs<=y.natAbs):(if zs y then-((y.natAbs-x.natAbs:Nat):Int)else((y.natAbs-x.natAbs:Nat):Int))=x+y:=by
 rw[Int.add_comm];exact Pg (nZ h) hl
theorem Y5 (y:Int):(if !zs y then-(y.natAbs:Int)else(y.natAbs:Int))= -y:=by
 unfold zs
 by_cases h:y<0<;>simp[h]<;>omega
theorem Pj (n m:Nat):((n:Int)/(m:Int)=((n/m:Nat):Int))/\(((n:Int)%(m:Int)).toNat=n%m):=⟨rfl,rfl⟩
theorem Ph {n m:Nat} (hm:0<m) (h0:n%m=0):(-(n:Int))/(m:Int)= -((n/m:Nat):Int)/\((-(n:Int))%(m:Int)).toNat=0:=by
 have hd:=iC n m;have e: -(n:Int)=0+(m:Int)*(-((n/m:Nat):Int)):=by
  rw[pN,<-Int.natCast_mul];omega
 have hm':(m:Int)≠0:=oO;constructor
 ·rw[e,x8 _ _ hm'];simp
 ·rw[e,rj];simp
theorem Ln {n m:Nat} (hm:0<m) (h0:n%m≠0):(-(n:Int))/(m:Int)= -((n/m+1:Nat):Int)/\((-(n:Int))%(m:Int)).toNat=m-n%m:=by
 have hd:=iC n m;have hl:=aL n hm;generalize n%m=r at*;have e: -(n:Int)=((m-r:Nat):Int)+(m:Int)*(-((n/m+1:Nat):Int)):=by
  rw[pN,<-Int.natCast_mul,kp,db];omega
 have hm':(m:Int)≠0:=oO;have h1:((m-r:Nat):Int)/(m:Int)=0:=xL oO oO;have h2:((m-r:Nat):Int)%(m:Int)=((m-r:Nat):Int):=Int.emod_eq_of_lt oO oO;constructor
 ·rw[e,x8 _ _ hm',h1,xT]
 ·rw[e,rj,h2];omega
theorem fL {a b:Nat}:(0<=bc a b)↔b<=a:=by unfold bc;split<;>(try split)<;>omega
