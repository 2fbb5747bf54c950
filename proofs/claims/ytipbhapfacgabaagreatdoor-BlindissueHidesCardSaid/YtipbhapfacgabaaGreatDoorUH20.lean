/- Part of the proof. -/
import Derived.Test.YtipbhapfacgabaaGreatDoorUH19
set_option linter.all false
set_option maxHeartbeats 16000000
set_option maxRecDepth 100000
namespace Go.Dom
variable {L a b i k:Nat}
def le:List Nat->Nat
 |[]=>0
 |x::r=>x+256*le r
theorem Nv: ∀(l:List Nat) (p v:Nat),p<l.length->le (l.set p (l.getD p 0+v))=le l+v*256^p
 |x::r,0,v,_=>by simp[le];omega
 |x::r,p+1,v,h=>by
  have:=Nv r p v (by simpa using h)
  simp only[List.set_cons_succ,le,iW,this,Nat.pow_succ,lA];have e:256*(v*256^p)=v*(256^p*256):=by rw[bw,cr]
  omega
theorem UT (n:Nat):le (List.replicate n 0)=0:=by induction n<;>simp_all[List.replicate_succ,le]
theorem yz: ∀(l:List Nat) (i:Nat),le l=le (l.take i)+256^i*le (l.drop i)
 |[],i=>by simp[le]
 |x::r,0=>by simp[le]
 |x::r,i+1=>by
  have:=yz r i;simp only[List.take_succ_cons,De,le,Nat.pow_succ];rw[this,lA,<-cr,bw 256 (256^i)];omega
theorem sJ {l:List Nat} (h:i<l.length):le (l.take (i+1))=le (l.take i)+l.getD i 0*256^i:=by
 have h1:=yz (l.take (i+1)) i;rw[List.take_take,pk (by omega)]at h1
 rw[h1];congr 1;have:(l.take (i+1)).drop i=[l.getD i 0]:=by
  rw[wW,show i+1-i=1 by omega,bR,bG h]
  rw[List.take_one,List.head?_drop,bG h];rfl
 rw[this];simp[le,bw]
theorem sy {l:List Nat} {i T:Nat} (h:i<l.length) (hT:T=le l):(le (l.take i)/256^i+l.getD i 0)%256=T/256^i%256/\(le (l.take i)/256^i+l.getD i 0)/256=le (l.take (i+1))/256^(i+1):=by
 have h1:=sJ h;have h2:=yz l (i+1);have hp:=il (n:=i) (show 0<256 by decide)
 have e1:le (l.take (i+1))/256^i=le (l.take i)/256^i+l.getD i 0:=by rw[h1,Nat.add_mul_div_right _ _ hp]
 rw[<-e1];constructor
 ·rw[hT,h2,Nat.pow_succ,cr,ny _ _ hp];omega
 ·rw[Nat.pow_succ,fj]
def DY (m:Nat) (l:List Nat):Prop:= ∀i,l.getD i 0<=m
theorem DY.rep (n m:Nat):DY m (List.replicate n 0):=fun i=>by
 rw[bR]
 by_cases h:i<n<;>simp[h]
theorem DY.le {m:Nat} {l:List Nat} (h:DY m l) (i:Nat):Dom.le (l.take i)<=m*256^i:=by
 induction i with
 |zero=>simp[Dom.le]
 |succ i ih=>
  by_cases hi:i<l.length
  ·rw[sJ hi,Nat.pow_succ];have:=cK (256^i) (h i);have e:m*(256^i*256)=m*256^i*256:=by rw[cr]
   omega
  ·rw[dc (by omega)]at ih⊢
   exact fV ih (lu _ (cW (by decide) (by omega)))
theorem DY.carry {m:Nat} {l:List Nat} (h:DY m l) (i:Nat):Dom.le (l.take i)/256^i<=m:=by
 have:=h.le i;exact Nat.div_le_of_le_mul (by rw[bw];exact this)
structure vT (L a b i k:Nat) (l:List Nat):Prop where
 len:l.length=L
 v:le l=a%256^i*b+a/256^i%256*(b%256^k)*256^i
 lo:DY (65025*(i+1)) l
 hi: ∀j,i+k<=j->l.getD j 0<=65025*i
theorem vT.start (L a b:Nat):vT L a b 0 0 (List.replicate L 0):=⟨DC,by rw[UT];simp[lK], .rep _ _,fun j _=>DY.rep L 0 j⟩
theorem vT.step {l:List Nat} (h:vT L a b i k l) (hp:i+k<L):vT L a b i (k+1) (l.set (i+k) (l.getD (i+k) 0+a/256^i%256*(b/256^k%256))):=by
 have hv:a/256^i%256*(b/256^k%256)<=65025:=jq (by omega:a/256^i%256<=255) (by omega:b/256^k%256<=255)
 have hh:=h.hi (i+k) (aB _);refine⟨by simp[h.len],?_,fun j=> ?_,fun j hj=> ?_⟩
 ·rw[Nv _ _ _ (by rw[h.len];exact hp),h.v,lk]
  congr 1;have e:=px (x:=b) (a:=256^k) (b:=256);rw[show 256^(k+1)=256^k*256 from Nat.pow_succ ..,e,cF]
  generalize a/256^i%256=x;generalize b/256^k%256=y;generalize b%256^k=z;rw[lA,cO,cr x y,cr x (256^k*y),bw (256^i) (256^k),<-cr y,bw y (256^k)]
 ·rw[bR,List.getElem?_set];split
  ·split
   ·simp only[Option.getD_some];omega
   ·simp
  ·have:=h.lo j;rw[bR]at this;exact this
 ·rw[bR,List.getElem?_set_ne (by omega),<-bR]
  exact h.hi j (by omega)
theorem vT.row {l:List Nat} (h:vT L a b i k l) (hk:b<256^k):vT L a b (i+1) 0 l:=by
 refine⟨h.len,?_,fun j=>by have:=h.lo j;omega,fun j _=>by have:=h.lo j;omega⟩
 rw[h.v,bM hk];have e:=px (x:=a) (a:=256^i) (b:=256);rw[show 256^(i+1)=256^i*256 from Nat.pow_succ ..,e,cO]
 simp only[Nat.pow_zero,lK,Nat.mul_zero,tO,Nat.add_zero];congr 1;rw[bw (256^i),cr,cr,bw b]
end Go.Dom
namespace Go.Proofs.Tryz
open Go Go.Dom
variable {a:Bytes}
abbrev E' (n:Nat):AV:= .v (.i .i64 n)
theorem za (n nm:Nat) (a b:Bytes) (la:a.length<=128) (lb:b.length<=128) (el:Option TypeId) (zs:List Nat) (hz:zs=List.replicate 256 0):jU prog 234 nm [(n,⟨0,aE .i64 zs,false,el⟩)] [.v (.s a), .v (.s b), .p n 0 0] (.v (.s (aZ (num a*num b)))) [(n,none)]:=by
 refine jU.w mixed call234 func234 rfl (j5.1 _ _ _ (by cbv)) (j5.2 _ _ (by cbv)) (obs:=[⟨0,aE .i64 zs,false,el⟩]) (args:=[.v (.s a), .v (.s b), .p 0 0 0]) (fs:=[some none]) (j:=none) (nw:=none) (v:= .v (.s (aZ (num a*num b)))) (ns:=[n]) (obsA:=[⟨0,aE .i64 zs,false,el⟩]) rfl ?_ (by simp) (by simp) rfl (by simp[aU,aC.ren,Fi]) (by simp[aU,AV.ren,cT]) (by simp[AV.ren]) (by simp[fT,outs])
 have r1:(aE .i64 zs).length=256:=by rw[bE,hz,DC]
 have r2:List.drop 256 (aE .i64 zs)=[]:=jM (by rw[r1];exact aB _)
 have r3:=ry .i64 256;rw[<-hz]at r3;simp only[go_sem,seval,r1,r2,r3,-List.reduceReplicate];refine aq (α:=Nat×List Nat) (fun x=>a.length-x.1) (fun x=>⟨[(0, .v (.s a)),(1, .v (.s b)),(2, .p 0 0 0),(18, .v (.i .i64 a.length)),(19, .v (.i .i64 x.1))],[(0,⟨0,aE .i64 x.2,false,el⟩)],_⟩) (fun x=>x.1<=a.length/\vT 256 (num a) (num b) x.1 0 x.2) (0,zs) (fun _=>aB _) ⟨aT _,hz▸ .start _ _ _⟩ ?_ ?_
 ·(refine AS.Le.of (by first|decide|omega) ?_ ?_<;>simp[dG,dF,aO,hget,AV.bd,AV.bd.bdL,u8,ar,au,az])
  all_goals skip
 ·rintro⟨i,l⟩ ⟨hi,hl⟩ R hR;simp only at hi hl;have l1:(aE .i64 l).length=256:=by rw[bE,hl.len]
  by_cases hlt:i<a.length
  ·repeat' first|simp only[go_sem,seval,l1]|refine cP (kW a i oO) ?_|refine oE ?_|apply xX<;>intro hc
   refine aq (α:=Nat×List Nat) (fun x=>b.length-x.1) (fun x=>⟨[(0, .v (.s a)),(1, .v (.s b)),(2, .p 0 0 0),(7,E' i),(8,E' (num a/256^i%256)),(18,E' a.length),(19,E' i),(26,E' b.length),(27,E' x.1)],[(0,⟨0,aE .i64 x.2,false,el⟩)],_⟩) (fun x=>x.1<=b.length/\vT 256 (num a) (num b) i x.1 x.2) (0,l) (fun _=>aB _) ⟨aT _,hl⟩ ?_ ?_
   ·exact lE
   ·rintro⟨k,m⟩ ⟨hk,hm⟩ R' hR';simp only at hk hm;have m1:(aE .i64 m).length=256:=by rw[bE,hm.len]
    by_cases hklt:k<b.length
    ·obtain⟨x,hx⟩: ∃x,x=num a/256^i%256:=⟨_,rfl⟩;obtain⟨y,hy⟩: ∃y,y=num b/256^k%256:=⟨_,rfl⟩;have hst:=hm.step oO;rw[<-hx,<-hy]at hst;have hxy:x*y<=65025:=jq (by omega:x<=255) (by omega:y<=255)
     have hc:=hm.hi (i+k) (aB _);have g1: ∀ _:True,(aE .i64 m).getD ((i:Int)+(k:Int)).toNat .u= .v (.i .i64 (m.getD (i+k) 0:Nat)):=fun _=>by
      rw[show((i:Int)+(k:Int)).toNat=i+k by omega,dy (by rw[hm.len];omega)]
     have g2: ∀ _:True,IntKind.i64.wrap ((x:Int)*(y:Int))=((x*y:Nat):Int):=fun _=>by
      rw[<-Int.natCast_mul,IntWalk.i64_in _ oO]
     have g3: ∀ _:True,IntKind.i64.wrap (((m.getD (i+k) 0:Nat):Int)+((x*y:Nat):Int))=((m.getD (i+k) 0+x*y:Nat):Int):=fun _=>by
      rw[<-Int.natCast_add,IntWalk.i64_in _ oO]
     have hd:=kW b k oO;rw[<-hy]at hd;rw[<-hx];clear hy hxy;refine qN (aN @m1 (aN (g1 oT) (aN (g2 oT) (g3 oT)))) @hd ?_;refine hR' (k+1,m.set (i+k) (m.getD (i+k) 0+x*y)) ⟨by show k+1<= _;omega,hst⟩ (by show b.length-(k+1)<b.length-k;omega) _ ?_
     rw[show((i:Int)+(k:Int)).toNat=i+k by omega,fg (by rw[hm.len];omega) rfl]
     (refine AS.Le.of (by first|decide|omega) ?_ ?_<;>simp[dG,dF,aO,hget,AV.bd,AV.bd.bdL,u8,ar,au,az])
     rw[hx];simp
    ·obtain rfl:k=b.length:=oO;refine xy ?_;refine hR (i+1,m) ⟨by show i+1<= _;omega,hm.row (cu b)⟩ (by show a.length-(i+1)<a.length-i;omega) _ ?_
     exact lE
  ·obtain rfl:i=a.length:=oO;refine eJ (aN @l1 @nA) ?_;have hv:=hl.v;have ha:=cu a;rw[bM ha]at hv;simp only[Nat.pow_zero,lK,Nat.mul_zero,tO,Nat.add_zero]at hv;obtain⟨n,hn⟩: ∃n,n=a.length+b.length:=⟨_,rfl⟩;have hn':((a.length:Int)+(b.length:Int))=(n:Int):=oO;obtain⟨T,hT⟩: ∃T,T=num a*num b:=⟨_,rfl⟩;rw[<-hT]at hv;have hTl:T<256^n:=by rw[hT,hn,cF];exact gK ha (cu b)
   rw[<-hT];simp only[hn',Int.toNat_natCast];refine aq (α:=Nat) (fun i=>n-i) (fun i=>⟨[(2, .p 0 0 0),(10,E' n),(11, .rs 1016 0 0 n 1),(12,E' (le (l.take i)/256^i)),(54,E' n),(55,E' i)],if i<n then[(0,⟨0,aE .i64 l,false,el⟩),(1016,⟨0,aH (List.replicate (n-i) 0++be i T),false,none⟩)]else[(1016,⟨0,aH (List.replicate (n-i) 0++be i T),false,none⟩)],_⟩) (fun i=>i<=n) 0 (fun _=>aB _) (aT _) ?_ ?_
   ·by_cases h0:0<n<;>simp only[h0,aA,ak]<;>(refine AS.Le.of (by first|decide|omega) ?_ ?_<;>simp[dG,dF,aO,hget,AV.bd,AV.bd.bdL,u8,ar,au,az])<;>simp[le,be]
   ·intro i hi R hR;have hb:=oF n i T hi
    by_cases hlt:i<n
    ·obtain⟨e1,e2⟩:=sy (l:=l) (i:=i) (by rw[hl.len];omega) hv.symm
     have hm:=hl.lo i;have hc:=hl.lo.carry i;have g1: ∀ _:True,(aE .i64 l).getD i .u= .v (.i .i64 (l.getD i 0:Nat)):=fun _=>dy (by rw[hl.len];omega)
     have g2: ∀ _:True,IntKind.i64.wrap (((le (l.take i)/256^i:Nat):Int)+((l.getD i 0:Nat):Int))=((le (l.take i)/256^i+l.getD i 0:Nat):Int):=fun _=>by
      have hs:le (l.take i)/256^i+l.getD i 0<=65025*(a.length+1)+65025*(a.length+1):=Nat.add_le_add hc hm;rw[<-Int.natCast_add];generalize le (l.take i)/256^i+l.getD i 0=z at hs⊢;rw[IntWalk.i64_in _ oO]
     rw[ah hlt];clear e1 e2 hm hc;refine eJ (aN @l1 (aN (g1 oT) (aN (g2 oT) @hb))) ?_;obtain⟨e1,e2⟩:=sy (l:=l) (i:=i) (by rw[hl.len];omega) hv.symm
     refine hR (i+1) oO oO _ ?_;rw[e2,show((n:Int)-1-i).toNat=n-1-i by omega,sj (c:=UInt8.ofNat (T/256^i)) oO (by rw[kK,iK,iK];exact congrArg _ e1),iE hlt]
     by_cases h0:i+1<n<;>simp only[h0,aA,ak]<;>(refine AS.Le.of (by first|decide|omega) ?_ ?_<;>simp[dG,dF,aO,hget,AV.bd,AV.bd.bdL,u8,ar,au,az])<;>rfl
    ·obtain rfl:i=n:=oO;have:=kq (be i T);have hl':(be i T).length=i:=cA _ _;rw[af hlt];repeat' first|simp only[go_sem,seval,hl',iX,List.replicate_zero,true_or,or_true,false_or,or_false,ai,iU,e7,iA,fN,gn,eN,pz,pI,gU,iF,dr,aK,AV.ren,AV.ren.renL,aI]|(refine iD this rfl rfl hl'.symm ?_)|refine oE ?_|apply xX<;>intro hc
     rw[jK hTl]
def nC (a b:Bytes):Bytes×Int:=if aa a&&aa b then(if num a*num b<dP then(aZ (num a*num b),0)else([],5))else([],3)
theorem cU (h:a.length<=8):num a<(2^64):=ba (cu a) (cW oC h)
theorem BH (a b:Bytes):aF 154 [.s a, .s b] (.tup [.s (nC a b).1,E (nC a b).2]):=by
 by_cases hv:aa a=true/\aa b=true
 case neg=>
  refine eW call154 func154 ?_;repeat' first|simp only[go_sem,seval]|refine cP (aD _) ?_|refine oE ?_|apply xX<;>intro hc
  all_goals simp_all[nC]
 obtain⟨hva,hvb⟩:=hv;have la:=eu hva;have lb:=eu hvb;have sa:=nL a;have sb:=nL b;rw[hva,cB]at sa;rw[hvb,cB]at sb;have hlim:(2^64)<=dP:=by unfold dP;decide+kernel
 by_cases h8:a.length<=8/\b.length<=8
 ·rw[aS h8.1]at sa;rw[aS h8.2]at sb;have ha:=cU h8.1;have hb:=cU h8.2;refine eW call154 func154 ?_;repeat' first|simp only[go_sem,seval,aA]|refine cP (aD _) ?_|refine cP sa ?_|refine cP sb ?_|refine cP (r8 _ _ ha hb) ?_|refine cP (pK _ (aL _ oC)) ?_|(refine aW (za _ _ a b la lb _ (List.replicate 256 0) rfl) (by intro p hp;cases ik.1 hp;rfl) ?_)|refine cP (ru _) ?_|refine oE ?_|apply xX<;>intro hc
  ·have hp:num a*num b<(2^64):=oO;have hq:num a*num b<dP:=ba hp hlim;simp[nC,hva,hvb,hq,bM hp]
  ·simp only[ql,nC,hva,hvb,dW,aA]
   split<;>simp
 ·have hn: ¬(a.length<=8/\b.length<=8):=h8;have hx:(if decide (a.length<=8)=true then((num a:Nat):Int)else 0)=((if a.length<=8 then num a else 0:Nat):Int):=by by_cases g:a.length<=8<;>simp[g]
  have hy:(if decide (b.length<=8)=true then((num b:Nat):Int)else 0)=((if b.length<=8 then num b else 0:Nat):Int):=by by_cases g:b.length<=8<;>simp[g]
  rw[hx]at sa;rw[hy]at sb;have ha:(if a.length<=8 then num a else 0)<(2^64):=by split;exact cU ‹_›;decide
  have hb:(if b.length<=8 then num b else 0)<(2^64):=by split;exact cU ‹_›;decide
  refine eW call154 func154 ?_;repeat' first|simp only[go_sem,seval]|refine cP (aD _) ?_|refine cP sa ?_|refine cP sb ?_|refine cP (r8 _ _ ha hb) ?_|(refine aW (za _ _ a b la lb _ (List.replicate 256 0) rfl) (by intro p hp;cases ik.1 hp;rfl) ?_)|refine cP (ru _) ?_|refine oE ?_|apply xX<;>intro hc
  all_goals simp only[ql,nC,hva,hvb,dW,aA]
  all_goals (split<;>simp)
theorem uy {b:Bytes} (ha:aa a=true) (hb:aa b=true) (h0:0<num b) (h:a.length<=8\/num a<num b):aF 222 [.s a, .s b] (.tup [.s (aZ (num a/num b)), .s (aZ (num a%num b))]):=by
 have hc:=oB (bY ha) (bY hb)
 by_cases hlt:num a<num b
 ·have e:bK (num a) (num b)= -1:=by simp[bK,hlt]
  rw[e]at hc;have e1:aZ (num a/num b)=[]:=by rw[iO hlt];rfl
  have e2:aZ (num a%num b)=a:=by rw[bM hlt];exact eU ha
  refine eW call222 func222 ?_;exact ot (aN @e1 @e2) @hc
 ·have la:a.length<=8:=h.resolve_right hlt;have lb:b.length<=8:=by
   rcases ij a.length b.length with g|g
   ·have:=iP (a:=a) (bY hb) g;omega
   ·omega
  have sa:=nL a;have sb:=nL b;rw[ha,cB,aS la]at sa;rw[hb,cB,aS lb]at sb;have na:=cU la;have nb:=cU lb;have hc':0<=bK (num a) (num b):=by unfold bK;split<;>(try split)<;>omega
  have hq:num a/num b<(2^64):=dD (fF _ _) na;have hr:num a%num b<(2^64):=dD (tI _ _) na;refine eW call222 func222 ?_;repeat' first|simp only[go_sem,seval,aA,uw,bM hq]|refine cP hc ?_|refine cP sa ?_|refine cP sb ?_|refine cP (pK _ hq) ?_|refine cP (pK _ hr) ?_|refine oE ?_|apply xX<;>intro hc
def sB (a b:Bytes):Bytes×Bytes×Int:=if aa a&&aa b then(if b=[]then([],[],11)else(aZ (num a/num b),aZ (num a%num b),0))else([],[],3)
theorem oI {b:Bytes} (h:Canon b) (h0:b≠[]):0<num b:=ba (il oC) (nO h h0)
theorem Jn (a b:Bytes) (h:aa a=true->aa b=true->b≠[]->a.length<=8\/num a<num b):aF 132 [.s a, .s b] (.tup [.s (sB a b).1, .s (sB a b).2.1,E (sB a b).2.2]):=by
 by_cases hv:aa a=true/\aa b=true
 case neg=>
  refine eW call132 func132 ?_;repeat' first|simp only[go_sem,seval]|refine cP (aD _) ?_|refine oE ?_|apply xX<;>intro hc
  all_goals simp_all[sB]
 obtain⟨hva,hvb⟩:=hv
 by_cases hb:b=[]
 ·subst hb;refine eW call132 func132 ?_;repeat' first|simp only[go_sem,seval]|refine cP (aD _) ?_|refine oE ?_|apply xX<;>intro hc
  all_goals simp_all[sB]
 ·have hp:=oI (bY hvb) hb;refine eW call132 func132 ?_;repeat' first|simp only[go_sem,seval]|refine cP (aD _) ?_|refine cP (uy hva hvb hp (h hva hvb hb)) ?_|refine oE ?_|apply xX<;>intro hc
  all_goals simp_all[sB]
abbrev N (n:Nat):PV:= .s (aZ n)
theorem vN {n:Nat} (h:n<(2^64)):aa (aZ n)=true:=kx (gj h (by decide+kernel))
theorem lN {n:Nat} (h:n<(2^64)):(aZ n).length<=8:=mN.2 h
theorem jC {a b:Nat} (ha:a<(2^64)) (hb:b<(2^64)) (h0:0<b):aF 132 [N a,N b] (.tup [N (a/b),N (a%b),E 0]):=by
 have:=Jn (aZ a) (aZ b) (fun _ _ _=> .inl (lN ha))
 have e:aZ b≠[]:=fun h=>by rw[gR]at h;omega
 simpa only[sB,vN ha,vN hb,dW,aA,e,ak,aP]using this
theorem MD {a b:Nat} (ha:a<(2^64)) (hb:b<(2^64)) (h0:0<b):aF 222 [N a,N b] (.tup [N (a/b),N (a%b)]):=by
 have:=uy (vN ha) (vN hb) (by rw[aP];exact h0) (.inl (lN ha))
 simpa only[aP]using this
theorem Cy:(aZ 0==([]:Bytes))=true:=rfl
theorem yQ {n:Nat} (h:n≠0):(aZ n==([]:Bytes))=false:=by
 rw[dY];intro e;exact h (gR.1 e)
theorem xR (m n:Nat):(aZ m==aZ n)=decide (m=n):=by
 rw[cI];simp[wz]
theorem WN {a b:Nat} (ha:a<(2^64)) (hb:b<(2^64)):aF 135 [N a,N b] (.tup [N (Nat.gcd a b),E 0]):=by
 have va:=aD (aZ a);have vb:=aD (aZ b);rw[vN ha]at va;rw[vN hb]at vb;refine eW call135 func135 ?_;refine zl2 @va @vb ?_;refine aq (α:=Nat×Nat) (fun x=>x.2) (fun x=>⟨[(0, .v (N x.1)),(1, .v (N x.2))],[],_⟩) (fun x=>x.1<(2^64)/\x.2<(2^64)/\Nat.gcd x.1 x.2=Nat.gcd a b) (a,b) (fun _=>aB _) ⟨ha,hb,rfl⟩ ?_ ?_
 ·exact lE
 ·rintro⟨x,y⟩ ⟨hx,hy,hg⟩ R hR;simp only at hx hy hg
  by_cases h0:y=0
  ·subst h0;refine eJ @Cy ?_;rw[<-hg,Di]
  ·have e:=yQ h0;have hd:=MD hx hy oO;refine qN @e @hd ?_;have hm:x%y<y:=aL _ oO;refine hR (y,x%y) ⟨hy,by show x%y< _;omega,?_⟩ hm _ ?_
   ·show Nat.gcd y (x%y)= _;rw[<-hg,lh x y,o5 y x,lh]
   ·exact lE
theorem nn:(([]:Bytes)==[])=true:=rfl
theorem cn (c:UInt8) (r:Bytes):((c::r:Bytes)==[])=false:=rfl
def cH (n:Nat):Nat:=if n=0 then 0 else n.log2+1
theorem wu (h:aa a=true):aF 94 [.s a] (E (cH (num a))):=by
 have hv:=aD a;rw[h]at hv
 cases a with
 |nil=>
  refine eW call94 func94 ?_;repeat' first|simp only[go_sem,seval,nn]|refine cP hv ?_|refine oE ?_|apply xX<;>intro hc
  rfl
 |cons c r=>
  have hc:=bY h;have hl:=eu h;have hp:=oI hc (by simp)
  have hn:num (c::r)=c.toNat*256^r.length+num r:=rfl;have hr:=cu r;have hc0:c≠0:=by rcases hc with e|e;cases e;exact e
  have hct:0<c.toNat:=by
   rcases kQ c.toNat with e|e
   ·exact aJ (jN.1 e:c=0) hc0
   ·exact e
  have hcl:=c.toNat_lt;have hb:=qT hct oO;have e256:256^r.length=2^(8*r.length):=by rw[show 256=2^8 from rfl,<-gX]
  have key:cH (num (c::r))=8*r.length+Lib.bitLen c.toNat:=by
   unfold cH;rw[af oO];have:(num (c::r)).log2=8*r.length+Lib.bitLen c.toNat-1:=by
    rw[Nat.log2_eq_iff oO];have a1:2^(8*r.length+Lib.bitLen c.toNat-1)=2^(Lib.bitLen c.toNat-1)*256^r.length:=by rw[e256,<-cF];congr 1;omega
    have a2:2^(8*r.length+Lib.bitLen c.toNat-1+1)=2^Lib.bitLen c.toNat*256^r.length:=by rw[e256,<-cF];congr 1;omega
    rw[a1,a2,hn];have b1:=cK (256^r.length) hb.2.1;have b2:=cK (256^r.length) (show c.toNat+1<=2^Lib.bitLen c.toNat from hb.2.2)
    rw[cO]at b2;omega
   omega
  have hL:=HF c.toNat oO;have hbl:=jE (x:=c.toNat) oO;have hl':r.length<=127:=by simpa using hl
  rw[key];clear hb e256 key hn hr hp hc;refine eW call94 func94 ?_;repeat' first|simp only[go_sem,seval,cn]|refine cP hv ?_|refine cP hL ?_|refine oE ?_|apply xX<;>intro hc
  congr 1;omega
theorem Xu {a b:Nat} (ha:a<9223372036854775808) (hb:b<9223372036854775808):my .i64 (a:Int) (b:Int)=((a&&&b:Nat):Int):=by
 have h1:a&&&b<9223372036854775808:=dD Nat.and_le_left ha;rw[my,gG,gG,BitVec.toNat_and,kC,kC];show IntKind.i64.wrap ((a%2^64&&&b%2^64:Nat):Int)= _;rw[bM oO,bM oO,IntWalk.i64_in _ oO]
theorem xz (h:aa a=true) (i:Nat) (hi:i<4611686018427387904):aF 97 [.s a,E i] (.b ((num a).testBit i)):=by
 have hv:=aD a;rw[h]at hv;have hl:=eu h;have e0:(i:Int).tdiv 8=((i/8:Nat):Int):=rfl;have e1:(i:Int).tmod 8=((i%8:Nat):Int):=rfl;have hd:=kW a (i/8) oO;have key:(num a).testBit i=decide (num a/256^(i/8)%256/2^(i%8)%2=1):=by
  rw[kN];congr 1;have e2:256^(i/8)=2^(8*(i/8)):=by rw[show 256=2^8 from rfl,<-gX]
  have e3:2^i=256^(i/8)*2^(i%8):=by rw[e2,<-cF];congr 1;omega
  rw[e3,<-fj];generalize num a/256^(i/8)=z;have h8:i%8<8:=aL _ oC;generalize i%8=j at h8;have:2^j*2^(8-j)=256:=by rw[<-cF,show j+(8-j)=8 by omega]
  have e5:z%256/2^j=z/2^j%2^(8-j):=by rw[<-this,qD]
  rw[e5];have e6:2^(8-j)=2*2^(7-j):=by rw[<-xj];congr 1;omega
  rw[e6,Nat.mod_mul_right_mod]
 obtain⟨d,hdd⟩: ∃d,d=num a/256^(i/8)%256:=⟨_,rfl⟩;rw[<-hdd]at key hd;have hdl:d<256:=by rw[hdd];exact aL _ oC
 have hm: ∀ _:True,(if i%8<=64 then i%8 else 64)=i%8:=fun _=>by split<;>omega
 have ha: ∀ _:True,my .i64 ((d/2^(i%8):Nat):Int) 1=((d/2^(i%8)%2:Nat):Int):=fun _=>by
  have hle:d/2^(i%8)<=d:=fF _ _;have:=Xu (a:=d/2^(i%8)) (b:=1) oO oC;rw[Nat.and_one_is_mod]at this;exact this
 have hs:a.length<=i/8->d=0:=fun g=>by rw[hdd,rD a g]
 rw[key];clear key hdd;refine eW call97 func97 ?_;repeat' first|simp only[go_sem,seval,e0,e1,hm oT,ha oT]|refine cP hv ?_|refine cP hd ?_|refine oE ?_|apply xX<;>intro hc
 ·congr 1;rw[cI];simp only[dZ,bc];omega
 ·rw[hs oO];simp
end Go.Proofs.Tryz
namespace Go.Proofs.Tryz
open Go Go.Dom
def wl (l:List Nat):List PV:=l.map fun n:Nat=>PV.i .u32 n
theorem Sj (l:List Nat):List.map AV.v (wl l)=aE .u32 l:=by simp[wl,aE]
theorem CZ (l:List Nat):(wl l).length=l.length:=aR ..
theorem mX {g:AV->Option PV} (hg: ∀n:Nat,g (.v (.i .u32 (n:Int)))=some (.i .u32 n)) (l:List Nat):aU g (aE .u32 l)=some (wl l):=by
 unfold aE wl
 induction l with
 |nil=>rfl
 |cons x l ih=>rw[br,br,aU,hg,ih]
theorem XH: ∀n:Fin 32,0<n.val->my .u64 (IntKind.u64.wrap (-(n.val:Int))) 31=((32-n.val:Nat):Int):=by decide+kernel
theorem TF (x n:Nat) (h0:0<n) (h:n<32):aF 394 [.i .u32 x,E (-(n:Int))] (.i .u32 (rr x n)):=by
 have e1:=XH ⟨n,h⟩ h0;simp only at e1;have e2: ∀ _:True,(if 32-n<=32 then 32-n else 32)=32-n:=fun _=>ah oO
 have e3: ∀ _:True,(32:Int)-((32-n:Nat):Int)=(n:Int):=fun _=>oO
 have e4: ∀ _:True,(if n<=32 then n else 32)=n:=fun _=>ah oO
 refine eW call394 func394 ?_;refine eJ (aN @e1 (aN (e2 oT) (aN (e3 oT) (aN (e4 oT) (aN @Y7 @o_r))))) ?_;rw[rr,NG]
theorem kJ (x n:Nat) (h0:0<n) (h:n<32):aF 389 [.i .u32 x,E n] (.i .u32 (rr x n)):=by
 have hr:=TF x n h0 h;have e:(0:Int)-(n:Int)= -(n:Int):=oO;refine eW call389 func389 ?_;exact ot @e @hr
theorem MN:aF 369 [] (.agg (wl sX)):=by
 refine eW call369 func369 ?_;exact z0
theorem BS:aF 387 [] (.agg (wl zG)):=by
 refine eW call387 func387 ?_;exact z0
theorem YT (a b c d:UInt8):Bh (Bh (Bh (vz a.toNat 24) (vz b.toNat 16)) (vz c.toNat 8)) d.toNat=num [a,b,c,d]:=by
 have ha:=a.toNat_lt;have hb:=b.toNat_lt;have hc:=c.toNat_lt;have hd:=d.toNat_lt;have e1:vz a.toNat 24=a.toNat*2^24:=by unfold vz;omega
 have e2:vz b.toNat 16=b.toNat*2^16:=by unfold vz;omega
 have e3:vz c.toNat 8=c.toNat*2^8:=by unfold vz;omega
 have f1:Bh (vz a.toNat 24) (vz b.toNat 16)=a.toNat*2^24+b.toNat*2^16:=by
  rw[Bh,e1,e2,bM oO,bM oO,EV oO]
 have f2:Bh (Bh (vz a.toNat 24) (vz b.toNat 16)) (vz c.toNat 8)=(a.toNat*2^8+b.toNat)*2^16+c.toNat*2^8:=by
  rw[Bh,f1,e3,bM oO,bM oO,show a.toNat*2^24+b.toNat*2^16=(a.toNat*2^8+b.toNat)*2^16 by omega,EV oO]
 rw[Bh,f2,bM oO,bM oO,show(a.toNat*2^8+b.toNat)*2^16+c.toNat*2^8=((a.toNat*2^8+b.toNat)*2^8+c.toNat)*2^8 by omega,EV oO]
 simp[num];omega
theorem four (l:Bytes) {i:Nat} (h:4*i+4<=l.length): ∃a b c d,(l.drop (4*i)).take 4=[a,b,c,d]/\((l.map u8).take (4*i+4)).drop (4*i)=[u8 a,u8 b,u8 c,u8 d]:=by
 have hl:((l.drop (4*i)).take 4).length=4:=by simp;omega
 have e:((l.map u8).take (4*i+4)).drop (4*i)=((l.drop (4*i)).take 4).map u8:=by
  rw[<-xu,<-tW,wW];congr 2;omega
 generalize (l.drop (4*i)).take 4=m at hl e
 match m,hl with
 |[a,b,c,d],_=>exact⟨a,b,c,d,rfl,e⟩
theorem ZZ (a:Nat):IntKind.u32.wrap ((a:Int)*16777216)=((vz a 24:Nat):Int):=Y7 a 24
theorem ZY (a:Nat):IntKind.u32.wrap ((a:Int)*65536)=((vz a 16:Nat):Int):=Y7 a 16
theorem mk8 (a:Nat):IntKind.u32.wrap ((a:Int)*256)=((vz a 8:Nat):Int):=Y7 a 8
theorem Z8 (c:UInt8):IntKind.u32.wrap ((c.toNat:Nat):Int)=((c.toNat:Nat):Int):=by
 have:=c.toNat_lt;rw[Sk];omega
theorem I6 (l:List Nat) (n x:Nat) (h:l.length<n):(l++List.replicate (n-l.length) 0).set l.length x=(l++[x])++List.replicate (n-(l++[x]).length) 0:=by
 obtain⟨k,hk⟩: ∃k,n-l.length=k+1:=⟨n-l.length-1,oO⟩;rw[hk,List.replicate_succ,List.set_append_right _ _ (aB _),iX,List.set_cons_zero];have:n-(l++[x]).length=k:=by simp;omega
 rw[this];simp
theorem Nb (l:List Nat) (k i:Nat) (h:i<l.length):(l++List.replicate k 0).getD i 0=l.getD i 0:=by
 simp[bR,tE h]
def zz (n:Nat):List Nat:=List.replicate n 0
theorem Jj:(aE .u32 (zz 64)).length=64:=by rw[bE];rfl
theorem Fq {blk:Bytes} (hb:blk.length=64):aF 388 [.sl (blk.map u8)] (.agg (wl (sched blk))):=by
 have lb:(blk.map u8).length=64:=by rw[aR,hb]
 refine eW call388 func388 ?_;refine Hw ?_;refine aq (α:=List Nat) (fun l=>16-l.length) (fun l=>⟨[(0, .v (.sl (blk.map u8))),(2, .p 1000 0 0),(3, .p 1001 0 0),(9,E' l.length)],[(1000,⟨0,aE .u32 (zz 64),false,some 411⟩),(1001,⟨0,aE .u32 (l++List.replicate (64-l.length) 0),false,some 411⟩)],_⟩) (fun l=>l.length<=16/\l=(List.range l.length).map (He blk)) [] (fun _=>aB _) ⟨by decide,rfl⟩ ?_ ?_
 ·refine lG ?_;all_goals exact⟨rfl,rfl⟩
 ·rintro l ⟨hl,he⟩ R hR;have hL:(aE .u32 (l++List.replicate (64-l.length) 0)).length=64:=by rw[bE];simp;omega
  obtain⟨i,hi⟩: ∃i,i=l.length:=⟨_,rfl⟩
  by_cases hlt:l.length<16
  ·obtain⟨a,b,c,d,h4,h5⟩:=four blk (i:=i) oO;have hV:He blk i=Bh (Bh (Bh (vz a.toNat 24) (vz b.toNat 16)) (vz c.toNat 8)) d.toNat:=by rw[YT,He,h4]
   have hgo:=hR (l++[He blk i]) ⟨by simp;omega,by
    rw[bU,List.length_singleton,List.range_succ,nk,<-he,<-hi];rfl⟩ (by simp;omega)
   have hse:=I6 l 64 (He blk i) oO;rw[hV]at hgo hse;have t1: ∀ _:True,((4:Int)*(i:Int)).toNat=4*i:=fun _=>oO
   have t2: ∀ _:True,((4:Int)*(i:Int)+4).toNat=4*i+4:=fun _=>oO
   have hcl: ∀x∈blk.map u8,x.cells.length=1:=fun x hx=>by obtain⟨c,-,rfl⟩:=cG.1 hx;rfl
   rw[<-hi]at hL⊢;clear hR he h4 hV;refine eJ (aN @lb (aN @hL (aN (t1 oT) (aN (t2 oT) (aN @h5 (aN @ZZ (aN @ZY (aN @mk8 (aN @Z8 @o_r))))))))) ?_;refine⟨⟨oO,hcl⟩,oO,oO,?_⟩;refine xy ?_;refine hgo _ ?_;rw[<-hi]at hse;rw[fg (x:=Bh (Bh (Bh (vz a.toNat 24) (vz b.toNat 16)) (vz c.toNat 8)) d.toNat) (by rw[bE]at hL;omega) rfl,hse]
   (refine AS.Le.of (by first|decide|omega) ?_ ?_<;>simp[dG,dF,aO,hget,AV.bd,AV.bd.bdL,u8,ar,au,az])
   all_goals first|omega|skip
  ·have hl16:l.length=16:=oO;have hs0:l=(List.range 16).map (He blk):=by rw[<-hl16];exact he
   rw[hl16];rw[hl16]at hL;clear hR he hlt hl hi;refine Hw ?_;refine aq (α:=List Nat) (fun l=>64-l.length) (fun l=>⟨[(2, .p 1000 0 0),(3, .p 1001 0 0),(6,E' l.length)],[(1000,⟨0,aE .u32 (zz 64),false,some 411⟩),(1001,⟨0,aE .u32 (l++List.replicate (64-l.length) 0),false,some 411⟩)],_⟩) (fun l=>16<=l.length/\l.length<=64/\OE (64-l.length) l=sched blk) l (fun _=>aB _) ⟨oO,oO,by rw[hl16,hs0];rfl⟩ ?_ ?_
   ·rw[hl16];exact lE
   ·clear hs0 hL hl16 i l;rintro l ⟨hl1,hl2,he⟩ R hR;have hL:(aE .u32 (l++List.replicate (64-l.length) 0)).length=64:=by rw[bE];simp;omega
    obtain⟨i,hi⟩: ∃i,i=l.length:=⟨_,rfl⟩
    by_cases hlt:l.length<64
    ·have hgo:=hR (l++[OB l]) ⟨by simp;omega,by simp;omega,by
      have:64-l.length=(64-(l++[OB l]).length)+1:=by simp;omega
      rw[this]at he;exact he⟩ (by simp;omega)
     have hse:=I6 l 64 (OB l) hlt;have hg: ∀k:Nat,0<k->k<=16->(aE .u32 (l++List.replicate (64-l.length) 0)).getD ((i:Int)-(k:Int)).toNat .u= .v (.i .u32 (l.getD (i-k) 0:Nat)):=fun k h0 h1=>by
      rw[show((i:Int)-(k:Int)).toNat=i-k by omega,dy (by simp;omega),Nb l _ _ oO]
     have g15:(aE .u32 (l++List.replicate (64-l.length) 0)).getD ((i:Int)-15).toNat .u= _:=hg 15 oC oC;have g2:(aE .u32 (l++List.replicate (64-l.length) 0)).getD ((i:Int)-2).toNat .u= _:=hg 2 oC oC;have g16:(aE .u32 (l++List.replicate (64-l.length) 0)).getD ((i:Int)-16).toNat .u= _:=hg 16 oC oC;have g7:(aE .u32 (l++List.replicate (64-l.length) 0)).getD ((i:Int)-7).toNat .u= _:=hg 7 oC oC;have hN:OB l=ad (ad (ad (l.getD (i-16) 0) (x32 (x32 (rr (l.getD (i-15) 0) 7) (rr (l.getD (i-15) 0) 18)) (l.getD (i-15) 0/8))) (l.getD (i-7) 0)) (x32 (x32 (rr (l.getD (i-2) 0) 17) (rr (l.getD (i-2) 0) 19)) (l.getD (i-2) 0/1024)):=by rw[hi];rfl
     rw[hN]at hgo hse;rw[<-hi]at hL hse g15 g2 g16 g7⊢;clear hR he hN hg;generalize l.getD (i-16) 0=w16 at*;generalize l.getD (i-15) 0=w15 at*;generalize l.getD (i-7) 0=w7 at*;generalize l.getD (i-2) 0=w2 at*;have r7:=kJ w15 7 oC oC;have r18:=kJ w15 18 oC oC;have r17:=kJ w2 17 oC oC;have r19:=kJ w2 19 oC oC;refine zT (aN @hL (aN @g15 (aN @g2 (aN @g16 (aN @g7 (aN @uk @x_r)))))) @r7 @r18 @r17 @r19 ?_;refine hgo _ ?_;rw[fg (x:=ad (ad (ad w16 (x32 (x32 (rr w15 7) (rr w15 18)) (w15/8))) w7) (x32 (x32 (rr w2 17) (rr w2 19)) (w2/1024))) (by rw[bE]at hL;omega) rfl,hse]
     (refine AS.Le.of (by first|decide|omega) ?_ ?_<;>simp[dG,dF,aO,hget,AV.bd,AV.bd.bdL,u8,ar,au,az])
     all_goals first|omega|skip
    ·have hl64:l.length=64:=oO;rw[hl64]at he hi hL⊢;have he:l=sched blk:=he;rw[iX,List.replicate_zero,jr]at hL⊢;rw[<-he];have k1:List.take 64 (aE .u32 l)=aE .u32 l:=dc (by rw[bE];omega)
     have k2:List.drop 64 (aE .u32 (zz 64))=[]:=jM (by rw[Jj];decide)
     have k3:(wl l).length=64:=by rw[CZ,hl64]
     repeat' first|simp only[go_sem,seval,hL,k1,k2,k3,mX,Sj,Jj]|refine oE ?_|apply xX<;>intro hc
     all_goals skip
theorem Zx {l:List Nat} (h:l.length=8): ∃a b c d e f g i,l=[a,b,c,d,e,f,g,i]:=by
 match l,h with
 |[a,b,c,d,e,f,g,i],_=>exact⟨_,_,_,_,_,_,_,_,rfl⟩
theorem ic8 (a b c d e f g h:Nat):aE .u32 [a,b,c,d,e,f,g,h]=[.v (.i .u32 (a:Int)), .v (.i .u32 (b:Int)), .v (.i .u32 (c:Int)), .v (.i .u32 (d:Int)), .v (.i .u32 (e:Int)), .v (.i .u32 (f:Int)), .v (.i .u32 (g:Int)), .v (.i .u32 (h:Int))]:=rfl
theorem Ya (k w a b c d e f g h:Nat):RX k w [a,b,c,d,e,f,g,h]=[ad (OD k w [a,b,c,d,e,f,g,h]) (V8 [a,b,c,d,e,f,g,h]),a,b,c,ad d (OD k w [a,b,c,d,e,f,g,h]),e,f,g]:=rfl
theorem Yd (k w a b c d e f g h:Nat):OD k w [a,b,c,d,e,f,g,h]=ad (ad (ad (ad h (x32 (x32 (rr e 6) (rr e 11)) (rr e 25))) (x32 (Lt e f) (Lt (XE e) g))) k) w:=rfl
theorem Ye (a b c d e f g h:Nat):V8 [a,b,c,d,e,f,g,h]=ad (x32 (x32 (rr a 2) (rr a 13)) (rr a 22)) (x32 (x32 (Lt a b) (Lt a c)) (Lt b c)):=rfl
theorem XG (e:Nat):IntKind.u32.wrap ((@BitVec.toNat 32 (@HXor.hXor (BitVec 32) (BitVec 32) (BitVec 32) (@instHXorOfXorOp (BitVec (IntKind.bits .u32)) (@BitVec.instXorOp (IntKind.bits .u32))) (BitVec.ofInt 32 (if IntKind.u32.signed=true then-1 else IntKind.u32.max)) (BitVec.ofNat 32 e)):Nat):Int)=((XE e:Nat):Int):=by
 have h:=n_r e;rw[gG]at h;exact h
theorem LP {st:List Nat} (hs:st.length=8) {blk:Bytes} (hb:blk.length=64):aF 370 [.agg (wl st), .sl (blk.map u8)] (.agg (wl (CM st blk))):=by
 have hc:=BS;have hd:=Fq hb;have k0:(wl st).length=8:=by rw[CZ,hs]
 have k1:(wl zG).length=64:=rfl;have k2:(wl (sched blk)).length=64:=by rw[CZ,qn]
 have k3:(aE .u32 st).length=8:=by rw[bE,hs]
 have k4:List.take 64 (aE .u32 (sched blk))=aE .u32 (sched blk):=dc (by rw[bE,qn];omega)
 have k5:List.take 64 (aE .u32 zG)=aE .u32 zG:=dc (by rw[bE];decide)
 have k6:List.take 8 (aE .u32 st)=aE .u32 st:=dc (by rw[bE];omega)
 have k7:(aE .u32 (sched blk)).length=64:=by rw[bE,qn]
 have k8:(aE .u32 zG).length=64:=by rw[bE];rfl
 refine eW call370 func370 ?_;refine Sm (aN @k0 (aN @k1 (aN @k2 (aN @k3 (aN @k4 (aN @k5 (aN @k6 (aN @k7 (aN @k8 (aN @Sj @mX)))))))))) @hc @hd ?_;refine aq (α:=List Nat×Nat) (fun p=>64-p.2) (fun p=>⟨[(2, .p 1000 0 0),(4, .p 1001 0 0),(5, .p 1005 0 0),(6, .p 1006 0 0),(7, .p 1010 0 0),(22,E' p.2)],[(1000,⟨0,aE .u32 st,false,none⟩),(1001,⟨0,[.v (.i .u32 0), .v (.i .u32 0), .v (.i .u32 0), .v (.i .u32 0), .v (.i .u32 0), .v (.i .u32 0), .v (.i .u32 0), .v (.i .u32 0)],false,some 397⟩),(1005,⟨0,aE .u32 zG,false,some 411⟩),(1006,⟨0,aE .u32 (sched blk),false,some 411⟩),(1010,⟨0,aE .u32 p.1,false,some 397⟩)],_⟩) (fun p=>p.1.length=8/\p.2<=64/\Hd (sched blk) (64-p.2) p.1=Hd (sched blk) 64 st) (st,0) (fun _=>aB _) ⟨hs,aT _,rfl⟩ ?_ ?_
 ·exact lE
 ·rintro⟨v,i⟩ ⟨hv,hi,he⟩ R hR;obtain⟨a,b,c,d,e,f,g,h,rfl⟩:=Zx hv
  by_cases hlt:i<64
  ·have hgo:=hR (RX (zG.getD i 0) ((sched blk).getD i 0) [a,b,c,d,e,f,g,h],i+1) ⟨rfl,hlt,by
    rw[show 64-i=(64-(i+1))+1 by omega,Hd,show 63-(64-(i+1))=i by omega]at he;exact he⟩ (by simp;omega)
   have gk:(aE .u32 zG).getD i .u= .v (.i .u32 (zG.getD i 0:Nat)):=dy (by exact hlt)
   have gw:(aE .u32 (sched blk)).getD i .u= .v (.i .u32 ((sched blk).getD i 0:Nat)):=dy (by rw[qn];exact hlt)
   have r6:=kJ e 6 oC oC;have r11:=kJ e 11 oC oC;have r25:=kJ e 25 oC oC;have r2:=kJ a 2 oC oC;have r13:=kJ a 13 oC oC;have r22:=kJ a 22 oC oC;simp only[Ya,Yd,Ye,ic8]at hgo⊢;generalize zG.getD i 0=ki at hgo gk;generalize (sched blk).getD i 0=wi at hgo gw;clear hR he hv;refine aaf (aN @k7 (aN @k8 (aN @gk (aN @gw (aN @uk (aN @x_r (aN @a_r @XG))))))) @r6 @r11 @r25 @r2 @r13 @r22 oT ?_;refine hgo _ ?_
   (refine AS.Le.of (by first|decide|omega) ?_ ?_<;>simp[dG,dF,aO,hget,AV.bd,AV.bd.bdL,u8,ar,au,az])
   all_goals first|omega|(erw [XG e];simp only[a_r,x_r,uk,and_self])
  ·have hl:i=64:=oO;subst hl;have he:[a,b,c,d,e,f,g,h]=Hd (sched blk) 64 st:=he;have hw:CM st blk=List.zipWith ad [a,b,c,d,e,f,g,h] st:=by rw[CM,<-he]
   rw[hw];clear hR he hv hw;obtain⟨s0,s1,s2,s3,s4,s5,s6,s7,rfl⟩:=Zx hs;simp only[ic8];repeat' first|simp only[go_sem,seval,k7,k8,uk]|refine oE ?_|apply xX<;>intro hc
   all_goals refine aj ?_
   repeat' first|simp only[go_sem,seval,k7,k8,uk]|refine oE ?_|apply xX<;>intro hc
   all_goals refine aj ?_
   repeat' first|simp only[go_sem,seval,k7,k8,uk]|refine oE ?_|apply xX<;>intro hc
   all_goals refine aj ?_
   repeat' first|simp only[go_sem,seval,k7,k8,uk]|refine oE ?_|apply xX<;>intro hc
   all_goals refine aj ?_
   repeat' first|simp only[go_sem,seval,k7,k8,uk]|refine oE ?_|apply xX<;>intro hc
   all_goals refine aj ?_
   repeat' first|simp only[go_sem,seval,k7,k8,uk]|refine oE ?_|apply xX<;>intro hc
   all_goals refine aj ?_
   repeat' first|simp only[go_sem,seval,k7,k8,uk]|refine oE ?_|apply xX<;>intro hc
   all_goals refine aj ?_
   repeat' first|simp only[go_sem,seval,k7,k8,uk]|refine oE ?_|apply xX<;>intro hc
   all_goals refine aj ?_
   repeat' first|simp only[go_sem,seval,k7,k8,uk]|refine oE ?_|apply xX<;>intro hc
   all_goals refine aj ?_
   exact oo (aN @k7 (aN @k8 @uk))
