/-
  Part of the proof, part KC21. Own work.
-/
import Derived.Test.YtmobkhegihemeaaGreatDoorKC20
set_option linter.all false
namespace Go.Dom
def le:List Nat→Nat
 |[]=>0
 |x::r=>x+256*le r
theorem JZ: ∀(l:List Nat) (p v:Nat),p<l.length→le (l.set p (l.getD p 0+v))=le l+v*256^p
 |x::r,0,v,_=>by simp[le];omega
 |x::r,p+1,v,h=>by
  have:=JZ r p v (by simpa using h)
  simp only[List.set_cons_succ,le,bI,this,Nat.pow_succ,iX];have e:256*(v*256^p)=v*(256^p*256):=by rw[a7,bY]
  omega
theorem Rb (n:Nat):le (List.replicate n 0)=0:=by induction n<;>simp_all[List.replicate_succ,le]
theorem wc: ∀(l:List Nat) (i:Nat),le l=le (l.take i)+256^i*le (l.drop i)
 |[],i=>by simp[le]
 |x::r,0=>by simp[le]
 |x::r,i+1=>by
  have:=wc r i;simp only[List.take_succ_cons,List.drop_succ_cons,le,Nat.pow_succ];rw[this,iX,←bY,a7 256 (256^i)];omega
theorem qw {l:List Nat} {i:Nat} (h:i<l.length):le (l.take (i+1))=le (l.take i)+l.getD i 0*256^i:=by
 have h1:=wc (l.take (i+1)) i;rw[List.take_take,oO (by omega)]at h1
 rw[h1];congr 1;have:(l.take (i+1)).drop i=[l.getD i 0]:=by
  rw[uK,show i+1-i=1 by omega,aX,aU h]
  rw[List.take_one,List.head?_drop,aU h];rfl
 rw[this];simp[le,a7]
theorem qk {l:List Nat} {i T:Nat} (h:i<l.length) (hT:T=le l):(le (l.take i)/256^i+l.getD i 0)%256=T/256^i%256∧(le (l.take i)/256^i+l.getD i 0)/256=le (l.take (i+1))/256^(i+1):=by
 have h1:=qw h;have h2:=wc l (i+1);have hp:=fL (n:=i) (show 0<256 by decide)
 have e1:le (l.take (i+1))/256^i=le (l.take i)/256^i+l.getD i 0:=by rw[h1,Nat.add_mul_div_right _ _ hp]
 rw[←e1];constructor
 ·rw[hT,h2,Nat.pow_succ,bY,ml _ _ hp];omega
 ·rw[Nat.pow_succ,dZ]
def Bd (m:Nat) (l:List Nat):Prop:= ∀i,l.getD i 0≤m
theorem Bd.rep (n m:Nat):Bd m (List.replicate n 0):=fun i=>by
 rw[aX]
 by_cases h:i<n<;>simp[h]
theorem Bd.le {m:Nat} {l:List Nat} (h:Bd m l) (i:Nat):Dom.le (l.take i)≤m*256^i:=by
 induction i with
 |zero=>simp[Dom.le]
 |succ i ih=>
  by_cases hi:i<l.length
  ·rw[qw hi,Nat.pow_succ];have:=cC (256^i) (h i);have e:m*(256^i*256)=m*256^i*256:=by rw[bY]
   omega
  ·rw[bM (by omega)]at ih⊢
   exact fg ih (ic _ (cQ (by decide) (by omega)))
theorem Bd.carry {m:Nat} {l:List Nat} (h:Bd m l) (i:Nat):Dom.le (l.take i)/256^i≤m:=by
 have:=h.le i;exact Nat.div_le_of_le_mul (by rw[a7];exact this)
structure tq (L a b i k:Nat) (l:List Nat):Prop where
 len:l.length=L
 v:le l=a%256^i*b+a/256^i%256*(b%256^k)*256^i
 lo:Bd (65025*(i+1)) l
 hi: ∀j,i+k≤j→l.getD j 0≤65025*i
theorem tq.start (L a b:Nat):tq L a b 0 0 (List.replicate L 0):=⟨ux,by rw[Rb];simp[kE], .rep _ _,fun j _=>Bd.rep L 0 j⟩
theorem tq.step {L a b i k:Nat} {l:List Nat} (h:tq L a b i k l) (hp:i+k<L):tq L a b i (k+1) (l.set (i+k) (l.getD (i+k) 0+a/256^i%256*(b/256^k%256))):=by
 have hv:a/256^i%256*(b/256^k%256)≤65025:=jH (by omega:a/256^i%256≤255) (by omega:b/256^k%256≤255)
 have hh:=h.hi (i+k) (au _);refine⟨by simp[h.len],?_,fun j=> ?_,fun j hj=> ?_⟩
 ·rw[JZ _ _ _ (by rw[h.len];exact hp),h.v,iU]
  congr 1;have e:=nr (x:=b) (a:=256^k) (b:=256);rw[show 256^(k+1)=256^k*256 from Nat.pow_succ ..,e,ct]
  generalize a/256^i%256=x;generalize b/256^k%256=y;generalize b%256^k=z;rw[iX,cr,bY x y,bY x (256^k*y),a7 (256^i) (256^k),←bY y,a7 y (256^k)]
 ·rw[aX,mj];split
  ·split
   ·simp only[Option.getD_some];omega
   ·simp
  ·have:=h.lo j;rw[aX]at this;exact this
 ·rw[aX,A1 (by omega),←aX]
  exact h.hi j (by omega)
theorem tq.row {L a b i k:Nat} {l:List Nat} (h:tq L a b i k l) (hk:b<256^k):tq L a b (i+1) 0 l:=by
 refine⟨h.len,?_,fun j=>by have:=h.lo j;omega,fun j _=>by have:=h.lo j;omega⟩
 rw[h.v,bA hk];have e:=nr (x:=a) (a:=256^i) (b:=256);rw[show 256^(i+1)=256^i*256 from Nat.pow_succ ..,e,cr]
 simp only[Nat.pow_zero,kE,Nat.mul_zero,nE,Nat.add_zero];congr 1;rw[a7 (256^i),bY,bY,a7 b]
end Go.Dom
namespace Go.Proofs.YtmobkhegihemeaaGreatDoor
open Go Go.Dom
set_option maxRecDepth 100000
set_option maxHeartbeats 4000000
abbrev E' (n:Nat):AV:= .v (.i .i64 n)
theorem wT (n nm:Nat) (a b:Bytes) (la:a.length≤128) (lb:b.length≤128) (el:Option TypeId) (zs:List Nat) (hz:zs=List.replicate 256 0):ik Tryz.prog 366 nm [(n,⟨0,aB .i64 zs,false,el⟩)] [.v (.s a), .v (.s b), .p n 0 0] (.v (.s (aP (num a*num b)))) [(n,none)]:=by
 refine ik.w mixed Tryz.call366 Tryz.func366 rfl (iL.1 _ _ _ (by cbv)) (iL.2 _ _ (by cbv)) (obs:=[⟨0,aB .i64 zs,false,el⟩]) (args:=[.v (.s a), .v (.s b), .p 0 0 0]) (fs:=[some none]) (j:=none) (nw:=none) (v:= .v (.s (aP (num a*num b)))) (ns:=[n]) (obsA:=[⟨0,aB .i64 zs,false,el⟩]) rfl ?_ (by simp) (by simp) rfl (by simp[aQ,ax.aI,Cn]) (by simp[aQ,AV.aI,cf]) (by simp[AV.aI]) (by simp[eH,outs])
 have r1:(aB .i64 zs).length=256:=by rw[aV,hz,ux]
 have r2:List.drop 256 (aB .i64 zs)=[]:=gS (by rw[r1];exact au _)
 have r3:=py .i64 256;rw[←hz]at r3;simp only[go_sem,seval,r1,r2,r3,-List.reduceReplicate];refine aj (α:=Nat×List Nat) (fun x=>a.length-x.1) (fun x=>⟨[(0, .v (.s a)),(1, .v (.s b)),(2, .p 0 0 0),(18, .v (.i .i64 a.length)),(19, .v (.i .i64 x.1))],[(0,⟨0,aB .i64 x.2,false,el⟩)],_⟩) (fun x=>x.1≤a.length∧tq 256 (num a) (num b) x.1 0 x.2) (0,zs) (fun _=>au _) ⟨aL _,hz▸ .start _ _ _⟩ ?_ ?_
 ·(refine AS.Le.of (by first|decide|omega) ?_ ?_<;>simp[cl,cj,aF,ar,AV.bd,AV.bd.bdL,u8,ah,ai,aq])
  all_goals skip
 ·rintro⟨i,l⟩ ⟨hi,hl⟩ R hR;simp only at hi hl;have l1:(aB .i64 l).length=256:=by rw[aV,hl.len]
  by_cases hlt:i<a.length
  ·repeat' first|simp only[go_sem,seval,l1]|(refine dF (jX a i (by omega)) rfl ?_)|refine sB ?_|(first|apply pX|apply bX)<;>intro hc|refine⟨oD,?_⟩|exact oD|fail
   refine aj (α:=Nat×List Nat) (fun x=>b.length-x.1) (fun x=>⟨[(0, .v (.s a)),(1, .v (.s b)),(2, .p 0 0 0),(7,E' i),(8,E' (num a/256^i%256)),(18,E' a.length),(19,E' i),(26,E' b.length),(27,E' x.1)],[(0,⟨0,aB .i64 x.2,false,el⟩)],_⟩) (fun x=>x.1≤b.length∧tq 256 (num a) (num b) i x.1 x.2) (0,l) (fun _=>au _) ⟨aL _,hl⟩ ?_ ?_
   ·exact lE
   ·rintro⟨k,m⟩ ⟨hk,hm⟩ R' hR';simp only at hk hm;have m1:(aB .i64 m).length=256:=by rw[aV,hm.len]
    by_cases hklt:k<b.length
    ·obtain⟨x,hx⟩: ∃x,x=num a/256^i%256:=⟨_,rfl⟩;obtain⟨y,hy⟩: ∃y,y=num b/256^k%256:=⟨_,rfl⟩;have hst:=hm.step (by omega)
     rw[←hx,←hy]at hst;have hxy:x*y≤65025:=jH (by omega:x≤255) (by omega:y≤255)
     have hc:=hm.hi (i+k) (au _);have g1: ∀ _:True,(aB .i64 m).getD ((i:Int)+(k:Int)).toNat .u= .v (.i .i64 (m.getD (i+k) 0:Nat)):=fun _=>by
      rw[show((i:Int)+(k:Int)).toNat=i+k by omega,da (by rw[hm.len];omega)]
     have g2: ∀ _:True,IntKind.i64.wrap ((x:Int)*(y:Int))=((x*y:Nat):Int):=fun _=>by
      rw[←Int.natCast_mul,IntWalk.i64_in _ (by omega)]
     have g3: ∀ _:True,IntKind.i64.wrap (((m.getD (i+k) 0:Nat):Int)+((x*y:Nat):Int))=((m.getD (i+k) 0+x*y:Nat):Int):=fun _=>by
      rw[←Int.natCast_add,IntWalk.i64_in _ (by omega)]
     have hd:=jX b k (by omega)
     rw[←hy]at hd;rw[←hx];clear hy hxy;repeat' first|simp only[go_sem,seval,m1,g1 trivial,g2 trivial,g3 trivial]|refine cP hd ?_|refine sB ?_|(first|apply pX|apply bX)<;>intro hc|refine⟨oD,?_⟩|exact oD|fail
     refine hR' (k+1,m.set (i+k) (m.getD (i+k) 0+x*y)) ⟨by show k+1≤ _;omega,hst⟩ (by show b.length-(k+1)<b.length-k;omega) _ ?_
     rw[show((i:Int)+(k:Int)).toNat=i+k by omega,dW (by rw[hm.len];omega) rfl]
     (refine AS.Le.of (by first|decide|omega) ?_ ?_<;>simp[cl,cj,aF,ar,AV.bd,AV.bd.bdL,u8,ah,ai,aq])
     rw[hx];simp
    ·obtain rfl:k=b.length:=by omega
     repeat' first|simp only[go_sem,seval]|refine sB ?_|(first|apply pX|apply bX)<;>intro hc|refine⟨oD,?_⟩|exact oD|fail
     refine hR (i+1,m) ⟨by show i+1≤ _;omega,hm.row (bV b)⟩ (by show a.length-(i+1)<a.length-i;omega) _ ?_
     exact lE
  ·obtain rfl:i=a.length:=by omega
   repeat' first|simp only[go_sem,seval,l1,mn]|refine sB ?_|(first|apply pX|apply bX)<;>intro hc|refine⟨oD,?_⟩|exact oD|fail
   have hv:=hl.v;have ha:=bV a;rw[bA ha]at hv;simp only[Nat.pow_zero,kE,Nat.mul_zero,nE,Nat.add_zero]at hv;obtain⟨n,hn⟩: ∃n,n=a.length+b.length:=⟨_,rfl⟩;have hn':((a.length:Int)+(b.length:Int))=(n:Int):=by omega
   obtain⟨T,hT⟩: ∃T,T=num a*num b:=⟨_,rfl⟩;rw[←hT]at hv;have hTl:T<256^n:=by rw[hT,hn,ct];exact fO ha (bV b)
   rw[←hT];simp only[hn',Int.toNat_natCast];refine aj (α:=Nat) (fun i=>n-i) (fun i=>⟨[(2, .p 0 0 0),(10,E' n),(11, .rs 1016 0 0 n 1),(12,E' (le (l.take i)/256^i)),(54,E' n),(55,E' i)],if i<n then[(0,⟨0,aB .i64 l,false,el⟩),(1016,⟨0,aC (List.replicate (n-i) 0++be i T),false,none⟩)]else[(1016,⟨0,aC (List.replicate (n-i) 0++be i T),false,none⟩)],_⟩) (fun i=>i≤n) 0 (fun _=>au _) (aL _) ?_ ?_
   ·by_cases h0:0<n<;>simp only[h0,if_true,if_false]<;>(refine AS.Le.of (by first|decide|omega) ?_ ?_<;>simp[cl,cj,aF,ar,AV.bd,AV.bd.bdL,u8,ah,ai,aq])<;>simp[le,be]
   ·intro i hi R hR;have hb:=mX n i T hi
    by_cases hlt:i<n
    ·obtain⟨e1,e2⟩:=qk (l:=l) (i:=i) (by rw[hl.len];omega) hv.symm
     have hm:=hl.lo i;have hc:=hl.lo.carry i;have g1: ∀ _:True,(aB .i64 l).getD i .u= .v (.i .i64 (l.getD i 0:Nat)):=fun _=>da (by rw[hl.len];omega)
     have g2: ∀ _:True,IntKind.i64.wrap (((le (l.take i)/256^i:Nat):Int)+((l.getD i 0:Nat):Int))=((le (l.take i)/256^i+l.getD i 0:Nat):Int):=fun _=>by
      have hs:le (l.take i)/256^i+l.getD i 0≤65025*(a.length+1)+65025*(a.length+1):=Nat.add_le_add hc hm;rw[←Int.natCast_add];generalize le (l.take i)/256^i+l.getD i 0=z at hs⊢;rw[IntWalk.i64_in _ (by omega)]
     rw[if_pos hlt];clear e1 e2 hm hc;repeat' first|simp only[go_sem,seval,l1,g1 trivial,g2 trivial,hb]|refine sB ?_|(first|apply pX|apply bX)<;>intro hc|refine⟨oD,?_⟩|exact oD|fail
     obtain⟨e1,e2⟩:=qk (l:=l) (i:=i) (by rw[hl.len];omega) hv.symm
     refine hR (i+1) (by omega) (by omega) _ ?_
     rw[e2,show((n:Int)-1-i).toNat=n-1-i by omega,qc (c:=UInt8.ofNat (T/256^i)) (by omega) (by rw[jO,ga,ga];exact congrArg _ e1),fX hlt]
     by_cases h0:i+1<n<;>simp only[h0,if_true,if_false]<;>(refine AS.Le.of (by first|decide|omega) ?_ ?_<;>simp[cl,cj,aF,ar,AV.bd,AV.bd.bdL,u8,ah,ai,aq])<;>rfl
    ·obtain rfl:i=n:=by omega
     have:=ju (be i T);have hl':(be i T).length=i:=b9 _ _;rw[if_neg hlt];repeat' first|simp only[go_sem,seval,hl',fh,List.replicate_zero,true_or,or_true,false_or,or_false,af,fU,dH,fG,eY,eZ,dJ,mR,nM,ft,fK,cJ,aE,AV.aI,AV.aI.renL,aA]|(refine fT this rfl rfl hl'.symm ?_)|refine sB ?_|(first|apply pX|apply bX)<;>intro hc|refine⟨oD,?_⟩|exact oD|fail
     rw[iR hTl]
def tB (a b:Bytes):Bytes×Int:=if aa a&&aa b then(if num a*num b<du then(aP (num a*num b),0)else([],5))else([],3)
theorem ep {a:Bytes} (h:a.length≤8):num a<18446744073709551616:=a9 (bV a) (cQ (by decide) h)
theorem Qa (a b:Bytes):aD Tryz.prog 326 [.s a, .s b] (.tup [.s (tB a b).1,E (tB a b).2]):=by
 by_cases hv:aa a=true∧aa b=true
 case neg=>
  refine eW Tryz.call326 Tryz.func326 ?_;repeat' first|simp only[go_sem,seval]|refine cP (aM _) ?_|refine sB ?_|(first|apply pX|apply bX)<;>intro hc|refine⟨oD,?_⟩|exact oD|fail
  all_goals simp_all[tB]
 obtain⟨hva,hvb⟩:=hv;have la:=cI hva;have lb:=cI hvb;have sa:=mD a;have sb:=mD b;rw[hva,bZ]at sa;rw[hvb,bZ]at sb;have hlim:18446744073709551616≤du:=by unfold du;decide+kernel
 by_cases h8:a.length≤8∧b.length≤8
 ·rw[decide_eq_true h8.1]at sa;rw[decide_eq_true h8.2]at sb;have ha:=ep h8.1;have hb:=ep h8.2;refine eW Tryz.call326 Tryz.func326 ?_;repeat' first|simp only[go_sem,seval,if_true]|refine cP (aM _) ?_|refine cP sa ?_|refine cP sb ?_|refine cP (pU _ _ ha hb) ?_|(refine dF (jT _ (aG _ (by decide))) rfl ?_)|(refine br (wT _ _ a b la lb _ (List.replicate 256 0) rfl) (by intro p hp;cases cO.1 hp;rfl) ?_)|refine cP (pw _) ?_|refine sB ?_|(first|apply pX|apply bX)<;>intro hc|refine⟨oD,?_⟩|exact oD|fail
  ·have hp:num a*num b<18446744073709551616:=by omega
   have hq:num a*num b<du:=a9 hp hlim;simp[tB,hva,hvb,hq,bA hp]
  ·simp only[oz,tB,hva,hvb,dh,if_true]
   split<;>simp
 ·have hn: ¬(a.length≤8∧b.length≤8):=h8;have hx:(if decide (a.length≤8)=true then((num a:Nat):Int)else 0)=((if a.length≤8 then num a else 0:Nat):Int):=by by_cases g:a.length≤8<;>simp[g]
  have hy:(if decide (b.length≤8)=true then((num b:Nat):Int)else 0)=((if b.length≤8 then num b else 0:Nat):Int):=by by_cases g:b.length≤8<;>simp[g]
  rw[hx]at sa;rw[hy]at sb;have ha:(if a.length≤8 then num a else 0)<18446744073709551616:=by split;exact ep ‹_›;decide
  have hb:(if b.length≤8 then num b else 0)<18446744073709551616:=by split;exact ep ‹_›;decide
  refine eW Tryz.call326 Tryz.func326 ?_;repeat' first|simp only[go_sem,seval]|refine cP (aM _) ?_|refine cP sa ?_|refine cP sb ?_|refine cP (pU _ _ ha hb) ?_|(refine br (wT _ _ a b la lb _ (List.replicate 256 0) rfl) (by intro p hp;cases cO.1 hp;rfl) ?_)|refine cP (pw _) ?_|refine sB ?_|(first|apply pX|apply bX)<;>intro hc|refine⟨oD,?_⟩|exact oD|fail
  all_goals simp only[oz,tB,hva,hvb,dh,if_true]
  all_goals (split<;>simp)
end Go.Proofs.YtmobkhegihemeaaGreatDoor
namespace Go.Proofs.YtmobkhegihemeaaGreatDoor
open Go Go.Dom
set_option maxRecDepth 100000
set_option maxHeartbeats 16000000
def wl (l:List Nat):List PV:=l.map fun n:Nat=>PV.i .u32 n
theorem OU (l:List Nat):List.map AV.v (wl l)=aB .u32 l:=by simp[wl,aB]
theorem Ap (l:List Nat):(wl l).length=l.length:=aH ..
theorem lJ {g:AV→Option PV} (hg: ∀n:Nat,g (.v (.i .u32 (n:Int)))=some (.i .u32 n)) (l:List Nat):aQ g (aB .u32 l)=some (wl l):=by
 unfold aB wl
 induction l with
 |nil=>rfl
 |cons x l ih=>rw[ba,ba,aQ,hg,ih]
theorem TN: ∀n:Fin 32,0<n.val→kR .u64 (IntKind.u64.wrap (-(n.val:Int))) 31=((32-n.val:Nat):Int):=by decide+kernel
theorem Qg (x n:Nat) (h0:0<n) (h:n<32):aD Tryz.prog 385 [.i .u32 x,E (-(n:Int))] (.i .u32 (rr x n)):=by
 have e1:=TN ⟨n,h⟩ h0;simp only at e1;have e2: ∀ _:True,(if 32-n≤32 then 32-n else 32)=32-n:=fun _=>if_pos (by omega)
 have e3: ∀ _:True,(32:Int)-((32-n:Nat):Int)=(n:Int):=fun _=>by omega
 have e4: ∀ _:True,(if n≤32 then n else 32)=n:=fun _=>if_pos (by omega)
 refine eW Tryz.call385 Tryz.func385 ?_;repeat' first|simp only[go_sem,seval,e1,e2 trivial,e3 trivial,e4 trivial,UY,Wp]|refine sB ?_|(first|apply pX|apply bX)<;>intro hc|refine⟨oD,?_⟩|exact oD|fail
 rw[rr,Ke]
theorem jN (x n:Nat) (h0:0<n) (h:n<32):aD Tryz.prog 383 [.i .u32 x,E n] (.i .u32 (rr x n)):=by
 have hr:=Qg x n h0 h;have e:(0:Int)-(n:Int)= -(n:Int):=by omega
 refine eW Tryz.call383 Tryz.func383 ?_;repeat' first|simp only[go_sem,seval,e]|refine cP hr ?_|refine sB ?_|(first|apply pX|apply bX)<;>intro hc|refine⟨oD,?_⟩|exact oD|fail
theorem Jy:aD Tryz.prog 368 [] (.agg (wl qN)):=by
 refine eW Tryz.call368 Tryz.func368 ?_;repeat' first|simp only[go_sem,seval]|refine sB ?_|(first|apply pX|apply bX)<;>intro hc|refine⟨oD,?_⟩|exact oD|fail
 all_goals rfl
theorem zh:aD Tryz.prog 381 [] (.agg (wl xl)):=by
 refine eW Tryz.call381 Tryz.func381 ?_;repeat' first|simp only[go_sem,seval]|refine sB ?_|(first|apply pX|apply bX)<;>intro hc|refine⟨oD,?_⟩|exact oD|fail
 all_goals rfl
theorem UQ (a b c d:UInt8):yF (yF (yF (sW a.toNat 24) (sW b.toNat 16)) (sW c.toNat 8)) d.toNat=num [a,b,c,d]:=by
 have ha:=a.toNat_lt;have hb:=b.toNat_lt;have hc:=c.toNat_lt;have hd:=d.toNat_lt;have e1:sW a.toNat 24=a.toNat*2^24:=by unfold sW;omega
 have e2:sW b.toNat 16=b.toNat*2^16:=by unfold sW;omega
 have e3:sW c.toNat 8=c.toNat*2^8:=by unfold sW;omega
 have f1:yF (sW a.toNat 24) (sW b.toNat 16)=a.toNat*2^24+b.toNat*2^16:=by
  rw[yF,e1,e2,bA (by omega),bA (by omega),B9 (by omega)]
 have f2:yF (yF (sW a.toNat 24) (sW b.toNat 16)) (sW c.toNat 8)=(a.toNat*2^8+b.toNat)*2^16+c.toNat*2^8:=by
  rw[yF,f1,e3,bA (by omega),bA (by omega),show a.toNat*2^24+b.toNat*2^16=(a.toNat*2^8+b.toNat)*2^16 by omega,B9 (by omega)]
 rw[yF,f2,bA (by omega),bA (by omega),show(a.toNat*2^8+b.toNat)*2^16+c.toNat*2^8=((a.toNat*2^8+b.toNat)*2^8+c.toNat)*2^8 by omega,B9 (by omega)]
 simp[num];omega
theorem four (l:Bytes) {i:Nat} (h:4*i+4≤l.length): ∃a b c d,(l.drop (4*i)).take 4=[a,b,c,d]∧((l.map u8).take (4*i+4)).drop (4*i)=[u8 a,u8 b,u8 c,u8 d]:=by
 have hl:((l.drop (4*i)).take 4).length=4:=by simp;omega
 have e:((l.map u8).take (4*i+4)).drop (4*i)=((l.drop (4*i)).take 4).map u8:=by
  rw[←ua,←qZ,uK];congr 2;omega
 generalize (l.drop (4*i)).take 4=m at hl e
 match m,hl with
 |[a,b,c,d],_=>exact⟨a,b,c,d,rfl,e⟩
theorem VX (a:Nat):IntKind.u32.wrap ((a:Int)*16777216)=((sW a 24:Nat):Int):=UY a 24
theorem VW (a:Nat):IntKind.u32.wrap ((a:Int)*65536)=((sW a 16:Nat):Int):=UY a 16
theorem Xo (a:Nat):IntKind.u32.wrap ((a:Int)*256)=((sW a 8:Nat):Int):=UY a 8
theorem V7 (c:UInt8):IntKind.u32.wrap ((c.toNat:Nat):Int)=((c.toNat:Nat):Int):=by
 have:=c.toNat_lt;rw[OV];omega
theorem F9 (l:List Nat) (n x:Nat) (h:l.length<n):(l++List.replicate (n-l.length) 0).set l.length x=(l++[x])++List.replicate (n-(l++[x]).length) 0:=by
 obtain⟨k,hk⟩: ∃k,n-l.length=k+1:=⟨n-l.length-1,by omega⟩
 rw[hk,List.replicate_succ,As _ _ (au _),fh,List.set_cons_zero];have:n-(l++[x]).length=k:=by simp;omega
 rw[this];simp
theorem JF (l:List Nat) (k i:Nat) (h:i<l.length):(l++List.replicate k 0).getD i 0=l.getD i 0:=by
 simp[aX,rf h]
def zz (n:Nat):List Nat:=List.replicate n 0
theorem Gj:(aB .u32 (zz 64)).length=64:=by rw[aV];rfl
theorem CA {blk:Bytes} (hb:blk.length=64):aD Tryz.prog 382 [.sl (blk.map u8)] (.agg (wl (sched blk))):=by
 have lb:(blk.map u8).length=64:=by rw[aH,hb]
 refine eW Tryz.call382 Tryz.func382 ?_;repeat' first|simp only[go_sem,seval]|refine sB ?_|(first|apply pX|apply bX)<;>intro hc|refine⟨oD,?_⟩|exact oD|fail
 refine aj (α:=List Nat) (fun l=>16-l.length) (fun l=>⟨[(0, .v (.sl (blk.map u8))),(2, .p 1000 0 0),(3, .p 1001 0 0),(9,E' l.length)],[(1000,⟨0,aB .u32 (zz 64),false,some 406⟩),(1001,⟨0,aB .u32 (l++List.replicate (64-l.length) 0),false,some 406⟩)],_⟩) (fun l=>l.length≤16∧l=(List.range l.length).map (Eh blk)) [] (fun _=>au _) ⟨by decide,rfl⟩ ?_ ?_
 ·(refine AS.Le.of (by first|decide|omega) ?_ ?_<;>simp[cl,cj,aF,ar,AV.bd,AV.bd.bdL,u8,ah,ai,aq])
  all_goals exact⟨rfl,rfl⟩
 ·rintro l ⟨hl,he⟩ R hR;have hL:(aB .u32 (l++List.replicate (64-l.length) 0)).length=64:=by rw[aV];simp;omega
  obtain⟨i,hi⟩: ∃i,i=l.length:=⟨_,rfl⟩
  by_cases hlt:l.length<16
  ·obtain⟨a,b,c,d,h4,h5⟩:=four blk (i:=i) (by omega)
   have hV:Eh blk i=yF (yF (yF (sW a.toNat 24) (sW b.toNat 16)) (sW c.toNat 8)) d.toNat:=by rw[UQ,Eh,h4]
   have hgo:=hR (l++[Eh blk i]) ⟨by simp;omega,by
    rw[bC,List.length_singleton,rk,eB,←he,←hi];rfl⟩ (by simp;omega)
   have hse:=F9 l 64 (Eh blk i) (by omega)
   rw[hV]at hgo hse;have t1: ∀ _:True,((4:Int)*(i:Int)).toNat=4*i:=fun _=>by omega
   have t2: ∀ _:True,((4:Int)*(i:Int)+4).toNat=4*i+4:=fun _=>by omega
   have hcl: ∀x∈blk.map u8,x.cells.length=1:=fun x hx=>by obtain⟨c,-,rfl⟩:=a5.1 hx;rfl
   rw[←hi]at hL⊢;clear hR he h4 hV;repeat' first|simp only[go_sem,seval,lb,hL,t1 trivial,t2 trivial,h5,VX,VW,Xo,V7,Wp]|refine sB ?_|(first|apply pX|apply bX)<;>intro hc|refine⟨oD,?_⟩|exact oD|fail
   refine⟨⟨by omega,hcl⟩,by omega,by omega,?_⟩
   repeat' first|simp only[go_sem,seval]|refine sB ?_|(first|apply pX|apply bX)<;>intro hc|refine⟨oD,?_⟩|exact oD|fail
   refine hgo _ ?_;rw[←hi]at hse;rw[dW (x:=yF (yF (yF (sW a.toNat 24) (sW b.toNat 16)) (sW c.toNat 8)) d.toNat) (by rw[aV]at hL;omega) rfl,hse]
   (refine AS.Le.of (by first|decide|omega) ?_ ?_<;>simp[cl,cj,aF,ar,AV.bd,AV.bd.bdL,u8,ah,ai,aq])
   all_goals first|omega|skip
  ·have hl16:l.length=16:=by omega
   have hs0:l=(List.range 16).map (Eh blk):=by rw[←hl16];exact he
   rw[hl16];rw[hl16]at hL;clear hR he hlt hl hi;repeat' first|simp only[go_sem,seval]|refine sB ?_|(first|apply pX|apply bX)<;>intro hc|refine⟨oD,?_⟩|exact oD|fail
   refine aj (α:=List Nat) (fun l=>64-l.length) (fun l=>⟨[(2, .p 1000 0 0),(3, .p 1001 0 0),(6,E' l.length)],[(1000,⟨0,aB .u32 (zz 64),false,some 406⟩),(1001,⟨0,aB .u32 (l++List.replicate (64-l.length) 0),false,some 406⟩)],_⟩) (fun l=>16≤l.length∧l.length≤64∧Ld (64-l.length) l=sched blk) l (fun _=>au _) ⟨by omega,by omega,by rw[hl16,hs0];rfl⟩ ?_ ?_
   ·rw[hl16];exact lE
   ·clear hs0 hL hl16 i l;rintro l ⟨hl1,hl2,he⟩ R hR;have hL:(aB .u32 (l++List.replicate (64-l.length) 0)).length=64:=by rw[aV];simp;omega
    obtain⟨i,hi⟩: ∃i,i=l.length:=⟨_,rfl⟩
    by_cases hlt:l.length<64
    ·have hgo:=hR (l++[La l]) ⟨by simp;omega,by simp;omega,by
      have:64-l.length=(64-(l++[La l]).length)+1:=by simp;omega
      rw[this]at he;exact he⟩ (by simp;omega)
     have hse:=F9 l 64 (La l) hlt;have hg: ∀k:Nat,0<k→k≤16→(aB .u32 (l++List.replicate (64-l.length) 0)).getD ((i:Int)-(k:Int)).toNat .u= .v (.i .u32 (l.getD (i-k) 0:Nat)):=fun k h0 h1=>by
      rw[show((i:Int)-(k:Int)).toNat=i-k by omega,da (by simp;omega),JF l _ _ (by omega)]
     have g15:(aB .u32 (l++List.replicate (64-l.length) 0)).getD ((i:Int)-15).toNat .u= _:=hg 15 (by decide) (by decide)
     have g2:(aB .u32 (l++List.replicate (64-l.length) 0)).getD ((i:Int)-2).toNat .u= _:=hg 2 (by decide) (by decide)
     have g16:(aB .u32 (l++List.replicate (64-l.length) 0)).getD ((i:Int)-16).toNat .u= _:=hg 16 (by decide) (by decide)
     have g7:(aB .u32 (l++List.replicate (64-l.length) 0)).getD ((i:Int)-7).toNat .u= _:=hg 7 (by decide) (by decide)
     have hN:La l=ad (ad (ad (l.getD (i-16) 0) (rC (rC (rr (l.getD (i-15) 0) 7) (rr (l.getD (i-15) 0) 18)) (l.getD (i-15) 0/8))) (l.getD (i-7) 0)) (rC (rC (rr (l.getD (i-2) 0) 17) (rr (l.getD (i-2) 0) 19)) (l.getD (i-2) 0/1024)):=by rw[hi];rfl
     rw[hN]at hgo hse;rw[←hi]at hL hse g15 g2 g16 g7⊢;clear hR he hN hg;generalize l.getD (i-16) 0=w16 at*;generalize l.getD (i-15) 0=w15 at*;generalize l.getD (i-7) 0=w7 at*;generalize l.getD (i-2) 0=w2 at*;have r7:=jN w15 7 (by decide) (by decide)
     have r18:=jN w15 18 (by decide) (by decide)
     have r17:=jN w2 17 (by decide) (by decide)
     have r19:=jN w2 19 (by decide) (by decide)
     repeat' first|simp only[go_sem,seval,hL,g15,g2,g16,g7,rO,Wc]|refine cP r7 ?_|refine cP r18 ?_|refine cP r17 ?_|refine cP r19 ?_|refine sB ?_|(first|apply pX|apply bX)<;>intro hc|refine⟨oD,?_⟩|exact oD|fail
     refine hgo _ ?_;rw[dW (x:=ad (ad (ad w16 (rC (rC (rr w15 7) (rr w15 18)) (w15/8))) w7) (rC (rC (rr w2 17) (rr w2 19)) (w2/1024))) (by rw[aV]at hL;omega) rfl,hse]
     (refine AS.Le.of (by first|decide|omega) ?_ ?_<;>simp[cl,cj,aF,ar,AV.bd,AV.bd.bdL,u8,ah,ai,aq])
     all_goals first|omega|skip
    ·have hl64:l.length=64:=by omega
     rw[hl64]at he hi hL⊢;have he:l=sched blk:=he;rw[fh,List.replicate_zero,ia]at hL⊢;rw[←he];have k1:List.take 64 (aB .u32 l)=aB .u32 l:=bM (by rw[aV];omega)
     have k2:List.drop 64 (aB .u32 (zz 64))=[]:=gS (by rw[Gj];decide)
     have k3:(wl l).length=64:=by rw[Ap,hl64]
     repeat' first|simp only[go_sem,seval,hL,k1,k2,k3,lJ,OU,Gj]|refine sB ?_|(first|apply pX|apply bX)<;>intro hc|refine⟨oD,?_⟩|exact oD|fail
     all_goals skip
theorem Vt {l:List Nat} (h:l.length=8): ∃a b c d e f g i,l=[a,b,c,d,e,f,g,i]:=by
 match l,h with
 |[a,b,c,d,e,f,g,i],_=>exact⟨_,_,_,_,_,_,_,_,rfl⟩
theorem Wm (a b c d e f g h:Nat):aB .u32 [a,b,c,d,e,f,g,h]=[.v (.i .u32 (a:Int)), .v (.i .u32 (b:Int)), .v (.i .u32 (c:Int)), .v (.i .u32 (d:Int)), .v (.i .u32 (e:Int)), .v (.i .u32 (f:Int)), .v (.i .u32 (g:Int)), .v (.i .u32 (h:Int))]:=rfl
theorem Uc (k w a b c d e f g h:Nat):OD k w [a,b,c,d,e,f,g,h]=[ad (Lc k w [a,b,c,d,e,f,g,h]) (Sv [a,b,c,d,e,f,g,h]),a,b,c,ad d (Lc k w [a,b,c,d,e,f,g,h]),e,f,g]:=rfl
theorem Uf (k w a b c d e f g h:Nat):Lc k w [a,b,c,d,e,f,g,h]=ad (ad (ad (ad h (rC (rC (rr e 6) (rr e 11)) (rr e 25))) (rC (H9 e f) (H9 (TK e) g))) k) w:=rfl
theorem Ug (a b c d e f g h:Nat):Sv [a,b,c,d,e,f,g,h]=ad (rC (rC (rr a 2) (rr a 13)) (rr a 22)) (rC (rC (H9 a b) (H9 a c)) (H9 b c)):=rfl
theorem TL (e:Nat):IntKind.u32.wrap ((@BitVec.toNat 32 (@HXor.hXor (BitVec 32) (BitVec 32) (BitVec 32) (@instHXorOfXorOp (BitVec (IntKind.bits .u32)) (@BitVec.instXorOp (IntKind.bits .u32))) (BitVec.ofInt 32 (if IntKind.u32.signed=true then-1 else IntKind.u32.max)) (BitVec.ofNat 32 e)):Nat):Int)=((TK e:Nat):Int):=by
 have h:=Xp e;rw[fw]at h;exact h
theorem Iw {st:List Nat} (hs:st.length=8) {blk:Bytes} (hb:blk.length=64):aD Tryz.prog 369 [.agg (wl st), .sl (blk.map u8)] (.agg (wl (Ae st blk))):=by
 have hc:=zh;have hd:=CA hb;have k0:(wl st).length=8:=by rw[Ap,hs]
 have k1:(wl xl).length=64:=rfl;have k2:(wl (sched blk)).length=64:=by rw[Ap,oG]
 have k3:(aB .u32 st).length=8:=by rw[aV,hs]
 have k4:List.take 64 (aB .u32 (sched blk))=aB .u32 (sched blk):=bM (by rw[aV,oG];omega)
 have k5:List.take 64 (aB .u32 xl)=aB .u32 xl:=bM (by rw[aV];decide)
 have k6:List.take 8 (aB .u32 st)=aB .u32 st:=bM (by rw[aV];omega)
 have k7:(aB .u32 (sched blk)).length=64:=by rw[aV,oG]
 have k8:(aB .u32 xl).length=64:=by rw[aV];rfl
 refine eW Tryz.call369 Tryz.func369 ?_;repeat' first|simp only[go_sem,seval,k0,k1,k2,k3,k4,k5,k6,k7,k8,OU,lJ]|refine cP hc ?_|refine cP hd ?_|refine sB ?_|(first|apply pX|apply bX)<;>intro hc|refine⟨oD,?_⟩|exact oD|fail
 refine aj (α:=List Nat×Nat) (fun p=>64-p.2) (fun p=>⟨[(2, .p 1000 0 0),(4, .p 1001 0 0),(5, .p 1005 0 0),(6, .p 1006 0 0),(7, .p 1010 0 0),(22,E' p.2)],[(1000,⟨0,aB .u32 st,false,none⟩),(1001,⟨0,[.v (.i .u32 0), .v (.i .u32 0), .v (.i .u32 0), .v (.i .u32 0), .v (.i .u32 0), .v (.i .u32 0), .v (.i .u32 0), .v (.i .u32 0)],false,some 393⟩),(1005,⟨0,aB .u32 xl,false,some 406⟩),(1006,⟨0,aB .u32 (sched blk),false,some 406⟩),(1010,⟨0,aB .u32 p.1,false,some 393⟩)],_⟩) (fun p=>p.1.length=8∧p.2≤64∧Eg (sched blk) (64-p.2) p.1=Eg (sched blk) 64 st) (st,0) (fun _=>au _) ⟨hs,aL _,rfl⟩ ?_ ?_
 ·exact lE
 ·rintro⟨v,i⟩ ⟨hv,hi,he⟩ R hR;obtain⟨a,b,c,d,e,f,g,h,rfl⟩:=Vt hv
  by_cases hlt:i<64
  ·have hgo:=hR (OD (xl.getD i 0) ((sched blk).getD i 0) [a,b,c,d,e,f,g,h],i+1) ⟨rfl,hlt,by
    rw[show 64-i=(64-(i+1))+1 by omega,Eg,show 63-(64-(i+1))=i by omega]at he;exact he⟩ (by simp;omega)
   have gk:(aB .u32 xl).getD i .u= .v (.i .u32 (xl.getD i 0:Nat)):=da (by exact hlt)
   have gw:(aB .u32 (sched blk)).getD i .u= .v (.i .u32 ((sched blk).getD i 0:Nat)):=da (by rw[oG];exact hlt)
   have r6:=jN e 6 (by decide) (by decide)
   have r11:=jN e 11 (by decide) (by decide)
   have r25:=jN e 25 (by decide) (by decide)
   have r2:=jN a 2 (by decide) (by decide)
   have r13:=jN a 13 (by decide) (by decide)
   have r22:=jN a 22 (by decide) (by decide)
   simp only[Uc,Uf,Ug,Wm]at hgo⊢;generalize xl.getD i 0=ki at hgo gk;generalize (sched blk).getD i 0=wi at hgo gw;clear hR he hv;repeat' first|simp only[go_sem,seval,k7,k8,gk,gw,rO,Wc,Wi,TL]|refine cP r6 ?_|refine cP r11 ?_|refine cP r25 ?_|refine cP r2 ?_|refine cP r13 ?_|refine cP r22 ?_|refine sB ?_|(first|apply pX|apply bX)<;>intro hc|refine⟨oD,?_⟩|exact oD|fail
   refine hgo _ ?_
   (refine AS.Le.of (by first|decide|omega) ?_ ?_<;>simp[cl,cj,aF,ar,AV.bd,AV.bd.bdL,u8,ah,ai,aq])
   all_goals first|omega|(erw [TL e];simp only[Wi,Wc,rO,and_self])
  ·have hl:i=64:=by omega
   subst hl;have he:[a,b,c,d,e,f,g,h]=Eg (sched blk) 64 st:=he;have hw:Ae st blk=List.zipWith ad [a,b,c,d,e,f,g,h] st:=by rw[Ae,←he]
   rw[hw];clear hR he hv hw;obtain⟨s0,s1,s2,s3,s4,s5,s6,s7,rfl⟩:=Vt hs;simp only[Wm];repeat' first|simp only[go_sem,seval,k7,k8,rO]|refine sB ?_|(first|apply pX|apply bX)<;>intro hc|refine⟨oD,?_⟩|exact oD|fail
   all_goals refine ae ?_
   repeat' first|simp only[go_sem,seval,k7,k8,rO]|refine sB ?_|(first|apply pX|apply bX)<;>intro hc|refine⟨oD,?_⟩|exact oD|fail
   all_goals refine ae ?_
   repeat' first|simp only[go_sem,seval,k7,k8,rO]|refine sB ?_|(first|apply pX|apply bX)<;>intro hc|refine⟨oD,?_⟩|exact oD|fail
   all_goals refine ae ?_
   repeat' first|simp only[go_sem,seval,k7,k8,rO]|refine sB ?_|(first|apply pX|apply bX)<;>intro hc|refine⟨oD,?_⟩|exact oD|fail
   all_goals refine ae ?_
   repeat' first|simp only[go_sem,seval,k7,k8,rO]|refine sB ?_|(first|apply pX|apply bX)<;>intro hc|refine⟨oD,?_⟩|exact oD|fail
   all_goals refine ae ?_
   repeat' first|simp only[go_sem,seval,k7,k8,rO]|refine sB ?_|(first|apply pX|apply bX)<;>intro hc|refine⟨oD,?_⟩|exact oD|fail
   all_goals refine ae ?_
   repeat' first|simp only[go_sem,seval,k7,k8,rO]|refine sB ?_|(first|apply pX|apply bX)<;>intro hc|refine⟨oD,?_⟩|exact oD|fail
   all_goals refine ae ?_
   repeat' first|simp only[go_sem,seval,k7,k8,rO]|refine sB ?_|(first|apply pX|apply bX)<;>intro hc|refine⟨oD,?_⟩|exact oD|fail
   all_goals refine ae ?_
   repeat' first|simp only[go_sem,seval,k7,k8,rO]|refine sB ?_|(first|apply pX|apply bX)<;>intro hc|refine⟨oD,?_⟩|exact oD|fail
   all_goals refine ae ?_
   repeat' first|simp only[go_sem,seval,k7,k8,rO]|refine sB ?_|(first|apply pX|apply bX)<;>intro hc|refine⟨oD,?_⟩|exact oD|fail
   all_goals rfl
end Go.Proofs.YtmobkhegihemeaaGreatDoor
namespace Go.Proofs.YtmobkhegihemeaaGreatDoor
open Go Go.Dom
set_option maxRecDepth 100000
set_option maxHeartbeats 8000000
theorem HL (a b:Bytes) (la:a.length<1048576) (lb:b.length<1048576):aD Tryz.prog 233 [.s a, .s b] (.s (aP (num a*num b))):=by
 obtain⟨n,hn⟩: ∃n,n=a.length+b.length:=⟨_,rfl⟩;have hn':((a.length:Int)+(b.length:Int))=(n:Int):=by omega
 have hmul:num a*num b<256^n:=by rw[hn,ct];exact fO (bV a) (bV b)
 by_cases h8:n≤8
 ·have hu1:=qH a (by omega)
  have hu2:=qH b (by omega)
  have hp:num a*num b<18446744073709551616:=a9 hmul (cQ (by decide) h8)
  have ho:=gP (num a*num b) hp;have hw: ∀ _:True,IntKind.u64.wrap ((num a:Int)*(num b:Int))=((num a*num b:Nat):Int):=fun _=>by
   rw[←Int.natCast_mul,IntWalk.u64_in _ (by omega)]
  clear hmul;refine eW Tryz.call233 Tryz.func233 ?_;repeat' first|simp only[go_sem,seval,hn',hw trivial]|refine cP hu1 ?_|refine cP hu2 ?_|refine cP ho ?_|refine sB ?_|(first|apply pX|apply bX)<;>intro hc|refine⟨oD,?_⟩|exact oD|fail
 have hcz: ∀m:Nat,(List.replicate m [AV.v (PV.i IntKind.i64 0)]).flatten=aB .i64 (List.replicate m 0):=by
  intro m
  induction m with
  |zero=>rfl
  |succ m ih=>rw[List.replicate_succ,List.flatten_cons,ih,List.replicate_succ];rfl
 have hw1: ∀ _:True,((n:Int)+1)=((n+1:Nat):Int):=fun _=>rfl
 refine eW Tryz.call233 Tryz.func233 ?_;repeat' first|simp only[go_sem,seval,hn',mn,hw1 trivial,hcz]|refine sB ?_|(first|apply pX|apply bX)<;>intro hc|refine⟨oD,?_⟩|exact oD|fail
 refine aj (α:=Nat×List Nat) (fun x=>a.length-x.1) (fun x=>⟨[(0, .v (.s a)),(1, .v (.s b)),(5,E' n),(6, .rs 1015 0 0 (n+1) 1),(7, .v (.i .i64 x.1))],[(1015,⟨0,aB .i64 x.2,false,none⟩)],_⟩) (fun x=>x.1≤a.length∧tq (n+1) (num a) (num b) x.1 0 x.2) (0,List.replicate (n+1) 0) (fun _=>au _) ⟨aL _, .start _ _ _⟩ ?_ ?_
 ·(refine AS.Le.of (by first|decide|omega) ?_ ?_<;>simp[cl,cj,aF,ar,AV.bd,AV.bd.bdL,u8,ah,ai,aq])
  all_goals skip
 ·rintro⟨i,l⟩ ⟨hi,hl⟩ R hR;simp only at hi hl;have l1:(aB .i64 l).length=n+1:=by rw[aV,hl.len]
  by_cases hlt:i<a.length
  ·repeat' first|simp only[go_sem,seval,l1]|refine sB ?_|(first|apply pX|apply bX)<;>intro hc|refine⟨oD,?_⟩|exact oD|fail
   refine aj (α:=Nat×List Nat) (fun x=>b.length-x.1) (fun x=>⟨[(0, .v (.s a)),(1, .v (.s b)),(5,E' n),(6, .rs 1015 0 0 (n+1) 1),(7,E' i),(8,E' x.1)],[(1015,⟨0,aB .i64 x.2,false,none⟩)],_⟩) (fun x=>x.1≤b.length∧tq (n+1) (num a) (num b) i x.1 x.2) (0,l) (fun _=>au _) ⟨aL _,hl⟩ ?_ ?_
   ·exact lE
   ·rintro⟨k,m⟩ ⟨hk,hm⟩ R' hR';simp only at hk hm;have m1:(aB .i64 m).length=n+1:=by rw[aV,hm.len]
    by_cases hklt:k<b.length
    ·obtain⟨x,hx⟩: ∃x,x=num a/256^i%256:=⟨_,rfl⟩;obtain⟨y,hy⟩: ∃y,y=num b/256^k%256:=⟨_,rfl⟩;have hst:=hm.step (by omega)
     rw[←hx,←hy]at hst;have hxy:x*y≤65025:=jH (by omega:x≤255) (by omega:y≤255)
     have hc:=hm.hi (i+k) (au _);have g1: ∀ _:True,(aB .i64 m).getD ((i:Int)+(k:Int)).toNat .u= .v (.i .i64 (m.getD (i+k) 0:Nat)):=fun _=>by
      rw[show((i:Int)+(k:Int)).toNat=i+k by omega,da (by rw[hm.len];omega)]
     have g2: ∀ _:True,IntKind.i64.wrap ((x:Int)*(y:Int))=((x*y:Nat):Int):=fun _=>by
      rw[←Int.natCast_mul,IntWalk.i64_in _ (by omega)]
     have g3: ∀ _:True,IntKind.i64.wrap (((m.getD (i+k) 0:Nat):Int)+((x*y:Nat):Int))=((m.getD (i+k) 0+x*y:Nat):Int):=fun _=>by
      rw[←Int.natCast_add,IntWalk.i64_in _ (by omega)]
     have hd1:=pF a i (by omega)
     have hd:=pF b k (by omega)
     rw[←hy]at hd;rw[←hx]at hd1;clear hy hxy hx;repeat' first|simp only[go_sem,seval,m1,g1 trivial,g2 trivial,g3 trivial]|refine cP hd1 ?_|refine cP hd ?_|refine sB ?_|(first|apply pX|apply bX)<;>intro hc|refine⟨oD,?_⟩|exact oD|fail
     refine hR' (k+1,m.set (i+k) (m.getD (i+k) 0+x*y)) ⟨by show k+1≤ _;omega,hst⟩ (by show b.length-(k+1)<b.length-k;omega) _ ?_
     rw[show((i:Int)+(k:Int)).toNat=i+k by omega,dW (by rw[hm.len];omega) rfl]
     exact lE
    ·obtain rfl:k=b.length:=by omega
     repeat' first|simp only[go_sem,seval]|refine sB ?_|(first|apply pX|apply bX)<;>intro hc|refine⟨oD,?_⟩|exact oD|fail
     refine hR (i+1,m) ⟨by show i+1≤ _;omega,hm.row (bV b)⟩ (by show a.length-(i+1)<a.length-i;omega) _ ?_
     exact lE
  ·obtain rfl:i=a.length:=by omega
   repeat' first|simp only[go_sem,seval,l1,mn]|refine sB ?_|(first|apply pX|apply bX)<;>intro hc|refine⟨oD,?_⟩|exact oD|fail
   have hv:=hl.v;have ha:=bV a;rw[bA ha]at hv;simp only[Nat.pow_zero,kE,Nat.mul_zero,nE,Nat.add_zero]at hv;obtain⟨T,hT⟩: ∃T,T=num a*num b:=⟨_,rfl⟩;rw[←hT]at hv;have hTl:T<256^n:=by rw[hT];exact hmul
   rw[←hT];refine aj (α:=Nat) (fun i=>n-i) (fun i=>⟨[(5,E' n),(6, .rs 1015 0 0 (n+1) 1),(9, .rs 1023 0 0 n 1),(10,E' (le (l.take i)/256^i)),(11,E' i)],[(1015,⟨0,aB .i64 l,false,none⟩),(1023,⟨0,aC (List.replicate (n-i) 0++be i T),false,none⟩)],_⟩) (fun i=>i≤n) 0 (fun _=>au _) (aL _) ?_ ?_
   ·(refine AS.Le.of (by first|decide|omega) ?_ ?_<;>simp[cl,cj,aF,ar,AV.bd,AV.bd.bdL,u8,ah,ai,aq])
    all_goals first|rfl|simp[le,be]
   ·intro i hi R hR;have hb:=mX n i T hi
    by_cases hlt:i<n
    ·obtain⟨e1,e2⟩:=qk (l:=l) (i:=i) (by rw[hl.len];omega) hv.symm
     have hm:=hl.lo i;have hc:=hl.lo.carry i;have g1: ∀ _:True,(aB .i64 l).getD i .u= .v (.i .i64 (l.getD i 0:Nat)):=fun _=>da (by rw[hl.len];omega)
     have g2: ∀ _:True,IntKind.i64.wrap (((l.getD i 0:Nat):Int)+((le (l.take i)/256^i:Nat):Int))=((le (l.take i)/256^i+l.getD i 0:Nat):Int):=fun _=>by
      have hs:le (l.take i)/256^i+l.getD i 0≤65025*(a.length+1)+65025*(a.length+1):=Nat.add_le_add hc hm;rw[←Int.natCast_add,fP];generalize le (l.take i)/256^i+l.getD i 0=z at hs⊢;rw[IntWalk.i64_in _ (by omega)]
     clear e1 e2 hm hc;repeat' first|simp only[go_sem,seval,l1,g1 trivial,g2 trivial,hb]|refine sB ?_|(first|apply pX|apply bX)<;>intro hc|refine⟨oD,?_⟩|exact oD|fail
     obtain⟨e1,e2⟩:=qk (l:=l) (i:=i) (by rw[hl.len];omega) hv.symm
     have hs:le (l.take (i+1))/256^(i+1)≤65025*(a.length+1):=hl.lo.carry (i+1);have hw:IntKind.i64.wrap ((le (l.take (i+1))/256^(i+1):Nat):Int)=((le (l.take (i+1))/256^(i+1):Nat):Int):=by
      generalize le (l.take (i+1))/256^(i+1)=z at hs⊢;rw[IntWalk.i64_in _ (by omega)]
     refine hR (i+1) (by omega) (by omega) _ ?_
     rw[e2,hw,show((n:Int)-1-i).toNat=n-1-i by omega,qc (c:=UInt8.ofNat (T/256^i)) (by omega) (by rw[jO,ga,ga];exact congrArg _ (by omega)),fX hlt]
     (refine AS.Le.of (by first|decide|omega) ?_ ?_<;>simp[cl,cj,aF,ar,AV.bd,AV.bd.bdL,u8,ah,ai,aq])
     all_goals rfl
    ·obtain rfl:i=n:=by omega
     have:=oe (be i T) (by rw[b9];omega)
     have hl':(be i T).length=i:=b9 _ _;repeat' first|simp only[go_sem,seval,hl',fh,List.replicate_zero]|(refine fT this rfl rfl hl'.symm ?_)|refine sB ?_|(first|apply pX|apply bX)<;>intro hc|refine⟨oD,?_⟩|exact oD|fail
     rw[iR hTl]
end Go.Proofs.YtmobkhegihemeaaGreatDoor
