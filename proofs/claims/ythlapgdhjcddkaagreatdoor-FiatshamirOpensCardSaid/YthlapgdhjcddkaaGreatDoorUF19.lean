/- Part of the proof. -/
import Derived.Test.YthlapgdhjcddkaaGreatDoorUF18
set_option linter.all false
set_option maxHeartbeats 16000000
set_option maxRecDepth 100000
namespace Go.Dom
variable {L a b i k:Nat}
def le:List Nat->Nat
 |[]=>0
 |x::r=>x+256*le r
theorem OE: ∀(l:List Nat) (p v:Nat),p<l.length->le (l.set p (l.getD p 0+v))=le l+v*256^p
 |x::r,0,v,_=>by simp[le];omega
 |x::r,p+1,v,h=>by
  have:=OE r p v (by simpa using h)
  simp only[List.set_cons_succ,le,gA,this,Nat.pow_succ,kN];have e:256*(v*256^p)=v*(256^p*256):=by rw[cv,de]
  omega
theorem WX (n:Nat):le (List.replicate n 0)=0:=by induction n<;>simp_all[List.replicate_succ,le]
theorem Ar: ∀(l:List Nat) (i:Nat),le l=le (l.take i)+256^i*le (l.drop i)
 |[],i=>by simp[le]
 |x::r,0=>by simp[le]
 |x::r,i+1=>by
  have:=Ar r i;simp only[List.take_succ_cons,List.drop_succ_cons,le,Nat.pow_succ];rw[this,kN,<-de,cv 256 (256^i)];omega
theorem uH {l:List Nat} (h:i<l.length):le (l.take (i+1))=le (l.take i)+l.getD i 0*256^i:=by
 have h1:=Ar (l.take (i+1)) i;rw[List.take_take,oS (by omega)]at h1
 rw[h1];congr 1;have:(l.take (i+1)).drop i=[l.getD i 0]:=by
  rw[vE,show i+1-i=1 by omega,bu,bC h]
  rw[List.take_one,List.head?_drop,bC h];rfl
 rw[this];simp[le,cv]
theorem uq {l:List Nat} {i T:Nat} (h:i<l.length) (hT:T=le l):(le (l.take i)/256^i+l.getD i 0)%256=T/256^i%256/\(le (l.take i)/256^i+l.getD i 0)/256=le (l.take (i+1))/256^(i+1):=by
 have h1:=uH h;have h2:=Ar l (i+1);have hp:=iJ (n:=i) (show 0<256 by decide)
 have e1:le (l.take (i+1))/256^i=le (l.take i)/256^i+l.getD i 0:=by rw[h1,Nat.add_mul_div_right _ _ hp]
 rw[<-e1];constructor
 ·rw[hT,h2,Nat.pow_succ,de,oZ _ _ hp];omega
 ·rw[Nat.pow_succ,ff]
def Fb (m:Nat) (l:List Nat):Prop:= ∀i,l.getD i 0<=m
theorem Fb.rep (n m:Nat):Fb m (List.replicate n 0):=fun i=>by
 rw[bu]
 by_cases h:i<n<;>simp[h]
theorem Fb.le {m:Nat} {l:List Nat} (h:Fb m l) (i:Nat):Dom.le (l.take i)<=m*256^i:=by
 induction i with
 |zero=>simp[Dom.le]
 |succ i ih=>
  by_cases hi:i<l.length
  ·rw[uH hi,Nat.pow_succ];have:=dQ (256^i) (h i);have e:m*(256^i*256)=m*256^i*256:=by rw[de]
   omega
  ·rw[cQ (by omega)]at ih⊢
   exact fw ih (jR _ (dp (by decide) (by omega)))
theorem Fb.carry {m:Nat} {l:List Nat} (h:Fb m l) (i:Nat):Dom.le (l.take i)/256^i<=m:=by
 have:=h.le i;exact Nat.div_le_of_le_mul (by rw[cv];exact this)
structure xK (L a b i k:Nat) (l:List Nat):Prop where
 len:l.length=L
 v:le l=a%256^i*b+a/256^i%256*(b%256^k)*256^i
 lo:Fb (65025*(i+1)) l
 hi: ∀j,i+k<=j->l.getD j 0<=65025*i
theorem xK.start (L a b:Nat):xK L a b 0 0 (List.replicate L 0):=⟨EI,by rw[WX];simp[mT], .rep _ _,fun j _=>Fb.rep L 0 j⟩
theorem xK.step {l:List Nat} (h:xK L a b i k l) (hp:i+k<L):xK L a b i (k+1) (l.set (i+k) (l.getD (i+k) 0+a/256^i%256*(b/256^k%256))):=by
 have hv:a/256^i%256*(b/256^k%256)<=65025:=lD (by omega:a/256^i%256<=255) (by omega:b/256^k%256<=255)
 have hh:=h.hi (i+k) (aA _);refine⟨by simp[h.len],?_,fun j=> ?_,fun j hj=> ?_⟩
 ·rw[OE _ _ _ (by rw[h.len];exact hp),h.v,jQ]
  congr 1;have e:=ql (x:=b) (a:=256^k) (b:=256);rw[show 256^(k+1)=256^k*256 from Nat.pow_succ ..,e,dD]
  generalize a/256^i%256=x;generalize b/256^k%256=y;generalize b%256^k=z;rw[kN,dK,de x y,de x (256^k*y),cv (256^i) (256^k),<-de y,cv y (256^k)]
 ·rw[bu,yM];split
  ·split
   ·simp only[Option.getD_some];omega
   ·simp
  ·have:=h.lo j;rw[bu]at this;exact this
 ·rw[bu,List.getElem?_set_ne (by omega),<-bu]
  exact h.hi j (by omega)
theorem xK.row {l:List Nat} (h:xK L a b i k l) (hk:b<256^k):xK L a b (i+1) 0 l:=by
 refine⟨h.len,?_,fun j=>by have:=h.lo j;omega,fun j _=>by have:=h.lo j;omega⟩
 rw[h.v,bV hk];have e:=ql (x:=a) (a:=256^i) (b:=256);rw[show 256^(i+1)=256^i*256 from Nat.pow_succ ..,e,dK]
 simp only[Nat.pow_zero,mT,Nat.mul_zero,vJ,Nat.add_zero];congr 1;rw[cv (256^i),de,de,cv b]
end Go.Dom
namespace Go.Proofs.Tryz
open Go Go.Dom
variable {a:Bytes}
abbrev E' (n:Nat):AV:= .v (.i .i64 n)
theorem AW (n nm:Nat) (a b:Bytes) (la:a.length<=128) (lb:b.length<=128) (el:Option TypeId) (zs:List Nat) (hz:zs=List.replicate 256 0):jS prog 283 nm [(n,⟨0,aF .i64 zs,false,el⟩)] [.v (.s a), .v (.s b), .p n 0 0] (.v (.s (b7 (num a*num b)))) [(n,none)]:=by
 refine jS.w mixed call283 func283 rfl (jq.1 _ _ _ (by cbv)) (jq.2 _ _ (by cbv)) (obs:=[⟨0,aF .i64 zs,false,el⟩]) (args:=[.v (.s a), .v (.s b), .p 0 0 0]) (fs:=[some none]) (j:=none) (nw:=none) (v:= .v (.s (b7 (num a*num b)))) (ns:=[n]) (obsA:=[⟨0,aF .i64 zs,false,el⟩]) rfl ?_ (by simp) (by simp) rfl (by simp[bA,aI.aR,Gy]) (by simp[bA,AV.aR,dq]) (by simp[AV.aR]) (by simp[fh,outs])
 have r1:(aF .i64 zs).length=256:=by rw[bH,hz,EI]
 have r2:List.drop 256 (aF .i64 zs)=[]:=gG (by rw[r1];exact aA _)
 have r3:=tB .i64 256;rw[<-hz]at r3;simp only[go_sem,seval,r1,r2,r3,-List.reduceReplicate];refine ah (α:=Nat×List Nat) (fun x=>a.length-x.1) (fun x=>⟨[(0, .v (.s a)),(1, .v (.s b)),(2, .p 0 0 0),(18, .v (.i .i64 a.length)),(19, .v (.i .i64 x.1))],[(0,⟨0,aF .i64 x.2,false,el⟩)],_⟩) (fun x=>x.1<=a.length/\xK 256 (num a) (num b) x.1 0 x.2) (0,zs) (fun _=>aA _) ⟨aD _,hz▸ .start _ _ _⟩ ?_ ?_
 ·(refine AS.Le.of (by first|decide|omega) ?_ ?_<;>simp[cU,cT,aO,az,AV.bd,AV.bd.bdL,u8,aj,ak,an])
  all_goals skip
 ·rintro⟨i,l⟩ ⟨hi,hl⟩ R hR;simp only at hi hl;have l1:(aF .i64 l).length=256:=by rw[bH,hl.len]
  by_cases hlt:i<a.length
  ·repeat' first|simp only[go_sem,seval,l1]|refine cP (mw a i oO) ?_|refine oE ?_|apply xX<;>intro hc
   refine ah (α:=Nat×List Nat) (fun x=>b.length-x.1) (fun x=>⟨[(0, .v (.s a)),(1, .v (.s b)),(2, .p 0 0 0),(7,E' i),(8,E' (num a/256^i%256)),(18,E' a.length),(19,E' i),(26,E' b.length),(27,E' x.1)],[(0,⟨0,aF .i64 x.2,false,el⟩)],_⟩) (fun x=>x.1<=b.length/\xK 256 (num a) (num b) i x.1 x.2) (0,l) (fun _=>aA _) ⟨aD _,hl⟩ ?_ ?_
   ·exact lE
   ·rintro⟨k,m⟩ ⟨hk,hm⟩ R' hR';simp only at hk hm;have m1:(aF .i64 m).length=256:=by rw[bH,hm.len]
    by_cases hklt:k<b.length
    ·obtain⟨x,hx⟩: ∃x,x=num a/256^i%256:=⟨_,rfl⟩;obtain⟨y,hy⟩: ∃y,y=num b/256^k%256:=⟨_,rfl⟩;have hst:=hm.step oO;rw[<-hx,<-hy]at hst;have hxy:x*y<=65025:=lD (by omega:x<=255) (by omega:y<=255)
     have hc:=hm.hi (i+k) (aA _);have g1: ∀ _:True,(aF .i64 m).getD ((i:Int)+(k:Int)).toNat .u= .v (.i .i64 (m.getD (i+k) 0:Nat)):=fun _=>by
      rw[show((i:Int)+(k:Int)).toNat=i+k by omega,dV (by rw[hm.len];omega)]
     have g2: ∀ _:True,IntKind.i64.wrap ((x:Int)*(y:Int))=((x*y:Nat):Int):=fun _=>by
      rw[<-Int.natCast_mul,IntWalk.i64_in _ oO]
     have g3: ∀ _:True,IntKind.i64.wrap (((m.getD (i+k) 0:Nat):Int)+((x*y:Nat):Int))=((m.getD (i+k) 0+x*y:Nat):Int):=fun _=>by
      rw[<-Int.natCast_add,IntWalk.i64_in _ oO]
     have hd:=mw b k oO;rw[<-hy]at hd;rw[<-hx];clear hy hxy;refine gR (aN @m1 (aN (g1 oT) (aN (g2 oT) (g3 oT)))) @hd ?_;refine hR' (k+1,m.set (i+k) (m.getD (i+k) 0+x*y)) ⟨by show k+1<= _;omega,hst⟩ (by show b.length-(k+1)<b.length-k;omega) _ ?_
     rw[show((i:Int)+(k:Int)).toNat=i+k by omega,eL (by rw[hm.len];omega) rfl]
     (refine AS.Le.of (by first|decide|omega) ?_ ?_<;>simp[cU,cT,aO,az,AV.bd,AV.bd.bdL,u8,aj,ak,an])
     rw[hx];simp
    ·obtain rfl:k=b.length:=oO;refine ye ?_;refine hR (i+1,m) ⟨by show i+1<= _;omega,hm.row (cO b)⟩ (by show a.length-(i+1)<a.length-i;omega) _ ?_
     exact lE
  ·obtain rfl:i=a.length:=oO;refine dw (aN @l1 @o5) ?_;have hv:=hl.v;have ha:=cO a;rw[bV ha]at hv;simp only[Nat.pow_zero,mT,Nat.mul_zero,vJ,Nat.add_zero]at hv;obtain⟨n,hn⟩: ∃n,n=a.length+b.length:=⟨_,rfl⟩;have hn':((a.length:Int)+(b.length:Int))=(n:Int):=oO;obtain⟨T,hT⟩: ∃T,T=num a*num b:=⟨_,rfl⟩;rw[<-hT]at hv;have hTl:T<256^n:=by rw[hT,hn,dD];exact fT ha (cO b)
   rw[<-hT];simp only[hn',Int.toNat_natCast];refine ah (α:=Nat) (fun i=>n-i) (fun i=>⟨[(2, .p 0 0 0),(10,E' n),(11, .rs 1016 0 0 n 1),(12,E' (le (l.take i)/256^i)),(54,E' n),(55,E' i)],if i<n then[(0,⟨0,aF .i64 l,false,el⟩),(1016,⟨0,aM (List.replicate (n-i) 0++be i T),false,none⟩)]else[(1016,⟨0,aM (List.replicate (n-i) 0++be i T),false,none⟩)],_⟩) (fun i=>i<=n) 0 (fun _=>aA _) (aD _) ?_ ?_
   ·by_cases h0:0<n<;>simp only[h0,aC,aB]<;>(refine AS.Le.of (by first|decide|omega) ?_ ?_<;>simp[cU,cT,aO,az,AV.bd,AV.bd.bdL,u8,aj,ak,an])<;>simp[le,be]
   ·intro i hi R hR;have hb:=pV n i T hi
    by_cases hlt:i<n
    ·obtain⟨e1,e2⟩:=uq (l:=l) (i:=i) (by rw[hl.len];omega) hv.symm
     have hm:=hl.lo i;have hc:=hl.lo.carry i;have g1: ∀ _:True,(aF .i64 l).getD i .u= .v (.i .i64 (l.getD i 0:Nat)):=fun _=>dV (by rw[hl.len];omega)
     have g2: ∀ _:True,IntKind.i64.wrap (((le (l.take i)/256^i:Nat):Int)+((l.getD i 0:Nat):Int))=((le (l.take i)/256^i+l.getD i 0:Nat):Int):=fun _=>by
      have hs:le (l.take i)/256^i+l.getD i 0<=65025*(a.length+1)+65025*(a.length+1):=Nat.add_le_add hc hm;rw[<-Int.natCast_add];generalize le (l.take i)/256^i+l.getD i 0=z at hs⊢;rw[IntWalk.i64_in _ oO]
     rw[af hlt];clear e1 e2 hm hc;refine dw (aN @l1 (aN (g1 oT) (aN (g2 oT) @hb))) ?_;obtain⟨e1,e2⟩:=uq (l:=l) (i:=i) (by rw[hl.len];omega) hv.symm
     refine hR (i+1) oO oO _ ?_;rw[e2,show((n:Int)-1-i).toNat=n-1-i by omega,uh (c:=UInt8.ofNat (T/256^i)) oO (by rw[l8,jd,jd];exact congrArg _ e1),iR hlt]
     by_cases h0:i+1<n<;>simp only[h0,aC,aB]<;>(refine AS.Le.of (by first|decide|omega) ?_ ?_<;>simp[cU,cT,aO,az,AV.bd,AV.bd.bdL,u8,aj,ak,an])<;>rfl
    ·obtain rfl:i=n:=oO;have:=lu (be i T);have hl':(be i T).length=i:=cX _ _;rw[aa hlt];repeat' first|simp only[go_sem,seval,hl',gD,List.replicate_zero,true_or,or_true,false_or,or_false,ar,gX,ey,gM,fp,fH,eA,nT,om,fO,gS,dE,aK,AV.aR,AV.aR.renL,aG]|(refine iQ this rfl rfl hl'.symm ?_)|refine oE ?_|apply xX<;>intro hc
     rw[kF hTl]
def xV (a b:Bytes):Bytes×Int:=if ae a&&ae b then(if num a*num b<ek then(b7 (num a*num b),0)else([],5))else([],3)
theorem ga (h:a.length<=8):num a<(2^64):=bM (cO a) (dp oC h)
theorem VK (a b:Bytes):aH 197 [.s a, .s b] (.tup [.s (xV a b).1,E (xV a b).2]):=by
 by_cases hv:ae a=true/\ae b=true
 case neg=>
  refine eW call197 func197 ?_;repeat' first|simp only[go_sem,seval]|refine cP (aX _) ?_|refine oE ?_|apply xX<;>intro hc
  all_goals simp_all[xV]
 obtain⟨hva,hvb⟩:=hv;have la:=eU hva;have lb:=eU hvb;have sa:=pk a;have sb:=pk b;rw[hva,bE]at sa;rw[hvb,bE]at sb;have hlim:(2^64)<=ek:=by unfold ek;decide+kernel
 by_cases h8:a.length<=8/\b.length<=8
 ·rw[aQ h8.1]at sa;rw[aQ h8.2]at sb;have ha:=ga h8.1;have hb:=ga h8.2;refine eW call197 func197 ?_;repeat' first|simp only[go_sem,seval,aC]|refine cP (aX _) ?_|refine cP sa ?_|refine cP sb ?_|refine cP (uc _ _ ha hb) ?_|refine cP (iC _ (aV _ oC)) ?_|(refine bK (AW _ _ a b la lb _ (List.replicate 256 0) rfl) (by intro p hp;cases fa.1 hp;rfl) ?_)|refine cP (tu _) ?_|refine oE ?_|apply xX<;>intro hc
  ·have hp:num a*num b<(2^64):=oO;have hq:num a*num b<ek:=bM hp hlim;simp[xV,hva,hvb,hq,bV hp]
  ·simp only[ov,xV,hva,hvb,dF,aC]
   split<;>simp
 ·have hn: ¬(a.length<=8/\b.length<=8):=h8;have hx:(if decide (a.length<=8)=true then((num a:Nat):Int)else 0)=((if a.length<=8 then num a else 0:Nat):Int):=by by_cases g:a.length<=8<;>simp[g]
  have hy:(if decide (b.length<=8)=true then((num b:Nat):Int)else 0)=((if b.length<=8 then num b else 0:Nat):Int):=by by_cases g:b.length<=8<;>simp[g]
  rw[hx]at sa;rw[hy]at sb;have ha:(if a.length<=8 then num a else 0)<(2^64):=by split;exact ga ‹_›;decide
  have hb:(if b.length<=8 then num b else 0)<(2^64):=by split;exact ga ‹_›;decide
  refine eW call197 func197 ?_;repeat' first|simp only[go_sem,seval]|refine cP (aX _) ?_|refine cP sa ?_|refine cP sb ?_|refine cP (uc _ _ ha hb) ?_|(refine bK (AW _ _ a b la lb _ (List.replicate 256 0) rfl) (by intro p hp;cases fa.1 hp;rfl) ?_)|refine cP (tu _) ?_|refine oE ?_|apply xX<;>intro hc
  all_goals simp only[ov,xV,hva,hvb,dF,aC]
  all_goals (split<;>simp)
theorem wA {b:Bytes} (ha:ae a=true) (hb:ae b=true) (h0:0<num b) (h:a.length<=8\/num a<num b):aH 348 [.s a, .s b] (.tup [.s (b7 (num a/num b)), .s (b7 (num a%num b))]):=by
 have hc:=pQ (bJ ha) (bJ hb)
 by_cases hlt:num a<num b
 ·have e:a7 (num a) (num b)= -1:=by simp[a7,hlt]
  rw[e]at hc;have e1:b7 (num a/num b)=[]:=by rw[iZ hlt];rfl
  have e2:b7 (num a%num b)=a:=by rw[bV hlt];exact jr ha
  refine eW call348 func348 ?_;exact iE (aN @e1 @e2) @hc
 ·have la:a.length<=8:=h.resolve_right hlt;have lb:b.length<=8:=by
   rcases qn a.length b.length with g|g
   ·have:=ji (a:=a) (bJ hb) g;omega
   ·omega
  have sa:=pk a;have sb:=pk b;rw[ha,bE,aQ la]at sa;rw[hb,bE,aQ lb]at sb;have na:=ga la;have nb:=ga lb;have hc':0<=a7 (num a) (num b):=by unfold a7;split<;>(try split)<;>omega
  have hq:num a/num b<(2^64):=eR (fx _ _) na;have hr:num a%num b<(2^64):=eR (Nat.mod_le _ _) na;refine eW call348 func348 ?_;repeat' first|simp only[go_sem,seval,aC,uw,bV hq]|refine cP hc ?_|refine cP sa ?_|refine cP sb ?_|refine cP (iC _ hq) ?_|refine cP (iC _ hr) ?_|refine oE ?_|apply xX<;>intro hc
def uu (a b:Bytes):Bytes×Bytes×Int:=if ae a&&ae b then(if b=[]then([],[],11)else(b7 (num a/num b),b7 (num a%num b),0))else([],[],3)
theorem ow {b:Bytes} (h:Canon b) (h0:b≠[]):0<num b:=bM (iJ oC) (pq h h0)
theorem Kd (a b:Bytes) (h:ae a=true->ae b=true->b≠[]->a.length<=8\/num a<num b):aH 289 [.s a, .s b] (.tup [.s (uu a b).1, .s (uu a b).2.1,E (uu a b).2.2]):=by
 by_cases hv:ae a=true/\ae b=true
 case neg=>
  refine eW call289 func289 ?_;repeat' first|simp only[go_sem,seval]|refine cP (aX _) ?_|refine oE ?_|apply xX<;>intro hc
  all_goals simp_all[uu]
 obtain⟨hva,hvb⟩:=hv
 by_cases hb:b=[]
 ·subst hb;refine eW call289 func289 ?_;repeat' first|simp only[go_sem,seval]|refine cP (aX _) ?_|refine oE ?_|apply xX<;>intro hc
  all_goals simp_all[uu]
 ·have hp:=ow (bJ hvb) hb;refine eW call289 func289 ?_;repeat' first|simp only[go_sem,seval]|refine cP (aX _) ?_|refine cP (wA hva hvb hp (h hva hvb hb)) ?_|refine oE ?_|apply xX<;>intro hc
  all_goals simp_all[uu]
abbrev N (n:Nat):PV:= .s (b7 n)
theorem vN {n:Nat} (h:n<(2^64)):ae (b7 n)=true:=rZ (j5 h (by decide+kernel))
theorem lN {n:Nat} (h:n<(2^64)):(b7 n).length<=8:=lQ.2 h
theorem tY {a b:Nat} (ha:a<(2^64)) (hb:b<(2^64)) (h0:0<b):aH 289 [N a,N b] (.tup [N (a/b),N (a%b),E 0]):=by
 have:=Kd (b7 a) (b7 b) (fun _ _ _=> .inl (lN ha))
 have e:b7 b≠[]:=fun h=>by rw[jh]at h;omega
 simpa only[uu,vN ha,vN hb,dF,aC,e,aB,bG]using this
theorem Ns {a b:Nat} (ha:a<(2^64)) (hb:b<(2^64)) (h0:0<b):aH 348 [N a,N b] (.tup [N (a/b),N (a%b)]):=by
 have:=wA (vN ha) (vN hb) (by rw[bG];exact h0) (.inl (lN ha))
 simpa only[bG]using this
theorem HV:(b7 0==([]:Bytes))=true:=rfl
theorem tF {n:Nat} (h:n≠0):(b7 n==([]:Bytes))=false:=by
 rw[du];intro e;exact h (jh.1 e)
theorem Ca (m n:Nat):(b7 m==b7 n)=decide (m=n):=by
 rw[cu];simp[IY]
theorem abR {a b:Nat} (ha:a<(2^64)) (hb:b<(2^64)):aH 380 [N a,N b] (.tup [N (Nat.gcd a b),E 0]):=by
 have va:=aX (b7 a);have vb:=aX (b7 b);rw[vN ha]at va;rw[vN hb]at vb;refine eW call380 func380 ?_;refine zl2 @va @vb ?_;refine ah (α:=Nat×Nat) (fun x=>x.2) (fun x=>⟨[(0, .v (N x.1)),(1, .v (N x.2))],[],_⟩) (fun x=>x.1<(2^64)/\x.2<(2^64)/\Nat.gcd x.1 x.2=Nat.gcd a b) (a,b) (fun _=>aA _) ⟨ha,hb,rfl⟩ ?_ ?_
 ·exact lE
 ·rintro⟨x,y⟩ ⟨hx,hy,hg⟩ R hR;simp only at hx hy hg
  by_cases h0:y=0
  ·subst h0;refine dw @HV ?_;rw[<-hg,EL]
  ·have e:=tF h0;have hd:=Ns hx hy oO;refine gR @e @hd ?_;have hm:x%y<y:=aV _ oO;refine hR (y,x%y) ⟨hy,by show x%y< _;omega,?_⟩ hm _ ?_
   ·show Nat.gcd y (x%y)= _;rw[<-hg,lB x y,mQ y x,lB]
   ·exact lE
theorem nn:(([]:Bytes)==[])=true:=rfl
theorem cn (c:UInt8) (r:Bytes):((c::r:Bytes)==[])=false:=rfl
def dG (n:Nat):Nat:=if n=0 then 0 else n.log2+1
theorem yf (h:ae a=true):aH 299 [.s a] (E (dG (num a))):=by
 have hv:=aX a;rw[h]at hv
 cases a with
 |nil=>
  refine eW call299 func299 ?_;repeat' first|simp only[go_sem,seval,nn]|refine cP hv ?_|refine oE ?_|apply xX<;>intro hc
  rfl
 |cons c r=>
  have hc:=bJ h;have hl:=eU h;have hp:=ow hc (by simp)
  have hn:num (c::r)=c.toNat*256^r.length+num r:=rfl;have hr:=cO r;have hc0:c≠0:=by rcases hc with e|e;cases e;exact e
  have hct:0<c.toNat:=by
   rcases kH c.toNat with e|e
   ·exact aJ (kP.1 e:c=0) hc0
   ·exact e
  have hcl:=c.toNat_lt;have hb:=sP hct oO;have e256:256^r.length=2^(8*r.length):=by rw[show 256=2^8 from rfl,<-kR]
  have key:dG (num (c::r))=8*r.length+Lib.bitLen c.toNat:=by
   unfold dG;rw[aa oO];have:(num (c::r)).log2=8*r.length+Lib.bitLen c.toNat-1:=by
    rw[Nat.log2_eq_iff oO];have a1:2^(8*r.length+Lib.bitLen c.toNat-1)=2^(Lib.bitLen c.toNat-1)*256^r.length:=by rw[e256,<-dD];congr 1;omega
    have a2:2^(8*r.length+Lib.bitLen c.toNat-1+1)=2^Lib.bitLen c.toNat*256^r.length:=by rw[e256,<-dD];congr 1;omega
    rw[a1,a2,hn];have b1:=dQ (256^r.length) hb.2.1;have b2:=dQ (256^r.length) (show c.toNat+1<=2^Lib.bitLen c.toNat from hb.2.2)
    rw[dK]at b2;omega
   omega
  have hL:=IQ c.toNat oO;have hbl:=kA (x:=c.toNat) oO;have hl':r.length<=127:=by simpa using hl
  rw[key];clear hb e256 key hn hr hp hc;refine eW call299 func299 ?_;repeat' first|simp only[go_sem,seval,cn]|refine cP hv ?_|refine cP hL ?_|refine oE ?_|apply xX<;>intro hc
  congr 1;omega
theorem ZV {a b:Nat} (ha:a<9223372036854775808) (hb:b<9223372036854775808):nE .i64 (a:Int) (b:Int)=((a&&&b:Nat):Int):=by
 have h1:a&&&b<9223372036854775808:=eR Nat.and_le_left ha;rw[nE,ib,ib,BitVec.toNat_and,lK,lK];show IntKind.i64.wrap ((a%2^64&&&b%2^64:Nat):Int)= _;rw[bV oO,bV oO,IntWalk.i64_in _ oO]
theorem zp (h:ae a=true) (i:Nat) (hi:i<4611686018427387904):aH 340 [.s a,E i] (.b ((num a).testBit i)):=by
 have hv:=aX a;rw[h]at hv;have hl:=eU h;have e0:(i:Int).tdiv 8=((i/8:Nat):Int):=rfl;have e1:(i:Int).tmod 8=((i%8:Nat):Int):=rfl;have hd:=mw a (i/8) oO;have key:(num a).testBit i=decide (num a/256^(i/8)%256/2^(i%8)%2=1):=by
  rw[l9];congr 1;have e2:256^(i/8)=2^(8*(i/8)):=by rw[show 256=2^8 from rfl,<-kR]
  have e3:2^i=256^(i/8)*2^(i%8):=by rw[e2,<-dD];congr 1;omega
  rw[e3,<-ff];generalize num a/256^(i/8)=z;have h8:i%8<8:=aV _ oC;generalize i%8=j at h8;have:2^j*2^(8-j)=256:=by rw[<-dD,show j+(8-j)=8 by omega]
  have e5:z%256/2^j=z/2^j%2^(8-j):=by rw[<-this,sf]
  rw[e5];have e6:2^(8-j)=2*2^(7-j):=by rw[<-yY];congr 1;omega
  rw[e6,Nat.mod_mul_right_mod]
 obtain⟨d,hdd⟩: ∃d,d=num a/256^(i/8)%256:=⟨_,rfl⟩;rw[<-hdd]at key hd;have hdl:d<256:=by rw[hdd];exact aV _ oC
 have hm: ∀ _:True,(if i%8<=64 then i%8 else 64)=i%8:=fun _=>by split<;>omega
 have ha: ∀ _:True,nE .i64 ((d/2^(i%8):Nat):Int) 1=((d/2^(i%8)%2:Nat):Int):=fun _=>by
  have hle:d/2^(i%8)<=d:=fx _ _;have:=ZV (a:=d/2^(i%8)) (b:=1) oO oC;rw[Nat.and_one_is_mod]at this;exact this
 have hs:a.length<=i/8->d=0:=fun g=>by rw[hdd,tG a g]
 rw[key];clear key hdd;refine eW call340 func340 ?_;repeat' first|simp only[go_sem,seval,e0,e1,hm oT,ha oT]|refine cP hv ?_|refine cP hd ?_|refine oE ?_|apply xX<;>intro hc
 ·congr 1;rw[cu];simp only[fK,a8];omega
 ·rw[hs oO];simp
end Go.Proofs.Tryz
namespace Go.Proofs.Tryz
open Go Go.Dom
def wl (l:List Nat):List PV:=l.map fun n:Nat=>PV.i .u32 n
theorem QH (l:List Nat):List.map AV.v (wl l)=aF .u32 l:=by simp[wl,aF]
theorem rv (l:List Nat):(wl l).length=l.length:=au ..
theorem ko {g:AV->Option PV} (hg: ∀n:Nat,g (.v (.i .u32 (n:Int)))=some (.i .u32 n)) (l:List Nat):bA g (aF .u32 l)=some (wl l):=by
 unfold aF wl
 induction l with
 |nil=>rfl
 |cons x l ih=>rw[b8,b8,bA,hg,ih]
theorem aaf: ∀n:Fin 32,0<n.val->nE .u64 (IntKind.u64.wrap (-(n.val:Int))) 31=((32-n.val:Nat):Int):=by decide+kernel
theorem VP (x n:Nat) (h0:0<n) (h:n<32):aH 393 [.i .u32 x,E (-(n:Int))] (.i .u32 (rr x n)):=by
 have e1:=aaf ⟨n,h⟩ h0;simp only at e1;have e2: ∀ _:True,(if 32-n<=32 then 32-n else 32)=32-n:=fun _=>af oO
 have e3: ∀ _:True,(32:Int)-((32-n:Nat):Int)=(n:Int):=fun _=>oO
 have e4: ∀ _:True,(if n<=32 then n else 32)=n:=fun _=>af oO
 refine eW call393 func393 ?_;refine dw (aN @e1 (aN (e2 oT) (aN (e3 oT) (aN (e4 oT) (aN @l_r @o_r))))) ?_;rw[rr,OZ]
theorem lZ (x n:Nat) (h0:0<n) (h:n<32):aH 362 [.i .u32 x,E n] (.i .u32 (rr x n)):=by
 have hr:=VP x n h0 h;have e:(0:Int)-(n:Int)= -(n:Int):=oO;refine eW call362 func362 ?_;exact iE @e @hr
theorem NL:aH 319 [] (.agg (wl pK)):=by
 refine eW call319 func319 ?_;exact z0
theorem Dl:aH 360 [] (.agg (wl qF)):=by
 refine eW call360 func360 ?_;exact z0
theorem abo (a b c d:UInt8):CC (CC (CC (xy a.toNat 24) (xy b.toNat 16)) (xy c.toNat 8)) d.toNat=num [a,b,c,d]:=by
 have ha:=a.toNat_lt;have hb:=b.toNat_lt;have hc:=c.toNat_lt;have hd:=d.toNat_lt;have e1:xy a.toNat 24=a.toNat*2^24:=by unfold xy;omega
 have e2:xy b.toNat 16=b.toNat*2^16:=by unfold xy;omega
 have e3:xy c.toNat 8=c.toNat*2^8:=by unfold xy;omega
 have f1:CC (xy a.toNat 24) (xy b.toNat 16)=a.toNat*2^24+b.toNat*2^16:=by
  rw[CC,e1,e2,bV oO,bV oO,Gk oO]
 have f2:CC (CC (xy a.toNat 24) (xy b.toNat 16)) (xy c.toNat 8)=(a.toNat*2^8+b.toNat)*2^16+c.toNat*2^8:=by
  rw[CC,f1,e3,bV oO,bV oO,show a.toNat*2^24+b.toNat*2^16=(a.toNat*2^8+b.toNat)*2^16 by omega,Gk oO]
 rw[CC,f2,bV oO,bV oO,show(a.toNat*2^8+b.toNat)*2^16+c.toNat*2^8=((a.toNat*2^8+b.toNat)*2^8+c.toNat)*2^8 by omega,Gk oO]
 simp[num];omega
theorem four (l:Bytes) {i:Nat} (h:4*i+4<=l.length): ∃a b c d,(l.drop (4*i)).take 4=[a,b,c,d]/\((l.map u8).take (4*i+4)).drop (4*i)=[u8 a,u8 b,u8 c,u8 d]:=by
 have hl:((l.drop (4*i)).take 4).length=4:=by simp;omega
 have e:((l.map u8).take (4*i+4)).drop (4*i)=((l.drop (4*i)).take 4).map u8:=by
  rw[<-yS,<-vL,vE];congr 2;omega
 generalize (l.drop (4*i)).take 4=m at hl e
 match m,hl with
 |[a,b,c,d],_=>exact⟨a,b,c,d,rfl,e⟩
theorem acF (a:Nat):IntKind.u32.wrap ((a:Int)*16777216)=((xy a 24:Nat):Int):=l_r a 24
theorem acE (a:Nat):IntKind.u32.wrap ((a:Int)*65536)=((xy a 16:Nat):Int):=l_r a 16
theorem mk8 (a:Nat):IntKind.u32.wrap ((a:Int)*256)=((xy a 8:Nat):Int):=l_r a 8
theorem abe (c:UInt8):IntKind.u32.wrap ((c.toNat:Nat):Int)=((c.toNat:Nat):Int):=by
 have:=c.toNat_lt;rw[LV];omega
theorem D8 (l:List Nat) (n x:Nat) (h:l.length<n):(l++List.replicate (n-l.length) 0).set l.length x=(l++[x])++List.replicate (n-(l++[x]).length) 0:=by
 obtain⟨k,hk⟩: ∃k,n-l.length=k+1:=⟨n-l.length-1,oO⟩;rw[hk,List.replicate_succ,EG _ _ (aA _),gD,List.set_cons_zero];have:n-(l++[x]).length=k:=by simp;omega
 rw[this];simp
theorem FK (l:List Nat) (k i:Nat) (h:i<l.length):(l++List.replicate k 0).getD i 0=l.getD i 0:=by
 simp[bu,sr h]
def zz (n:Nat):List Nat:=List.replicate n 0
theorem Ka:(aF .u32 (zz 64)).length=64:=by rw[bH];rfl
theorem GH {blk:Bytes} (hb:blk.length=64):aH 361 [.sl (blk.map u8)] (.agg (wl (sched blk))):=by
 have lb:(blk.map u8).length=64:=by rw[au,hb]
 refine eW call361 func361 ?_;refine pO ?_;refine ah (α:=List Nat) (fun l=>16-l.length) (fun l=>⟨[(0, .v (.sl (blk.map u8))),(2, .p 1000 0 0),(3, .p 1001 0 0),(9,E' l.length)],[(1000,⟨0,aF .u32 (zz 64),false,some 380⟩),(1001,⟨0,aF .u32 (l++List.replicate (64-l.length) 0),false,some 380⟩)],_⟩) (fun l=>l.length<=16/\l=(List.range l.length).map (ya blk)) [] (fun _=>aA _) ⟨by decide,rfl⟩ ?_ ?_
 ·refine lG ?_;all_goals exact⟨rfl,rfl⟩
 ·rintro l ⟨hl,he⟩ R hR;have hL:(aF .u32 (l++List.replicate (64-l.length) 0)).length=64:=by rw[bH];simp;omega
  obtain⟨i,hi⟩: ∃i,i=l.length:=⟨_,rfl⟩
  by_cases hlt:l.length<16
  ·obtain⟨a,b,c,d,h4,h5⟩:=four blk (i:=i) oO;have hV:ya blk i=CC (CC (CC (xy a.toNat 24) (xy b.toNat 16)) (xy c.toNat 8)) d.toNat:=by rw[abo,ya,h4]
   have hgo:=hR (l++[ya blk i]) ⟨by simp;omega,by
    rw[bR,List.length_singleton,List.range_succ,mR,<-he,<-hi];rfl⟩ (by simp;omega)
   have hse:=D8 l 64 (ya blk i) oO;rw[hV]at hgo hse;have t1: ∀ _:True,((4:Int)*(i:Int)).toNat=4*i:=fun _=>oO
   have t2: ∀ _:True,((4:Int)*(i:Int)+4).toNat=4*i+4:=fun _=>oO
   have hcl: ∀x∈blk.map u8,x.cells.length=1:=fun x hx=>by obtain⟨c,-,rfl⟩:=cx.1 hx;rfl
   rw[<-hi]at hL⊢;clear hR he h4 hV;refine dw (aN @lb (aN @hL (aN (t1 oT) (aN (t2 oT) (aN @h5 (aN @acF (aN @acE (aN @mk8 (aN @abe @o_r))))))))) ?_;refine⟨⟨oO,hcl⟩,oO,oO,?_⟩;refine ye ?_;refine hgo _ ?_;rw[<-hi]at hse;rw[eL (x:=CC (CC (CC (xy a.toNat 24) (xy b.toNat 16)) (xy c.toNat 8)) d.toNat) (by rw[bH]at hL;omega) rfl,hse]
   (refine AS.Le.of (by first|decide|omega) ?_ ?_<;>simp[cU,cT,aO,az,AV.bd,AV.bd.bdL,u8,aj,ak,an])
   all_goals first|omega|skip
  ·have hl16:l.length=16:=oO;have hs0:l=(List.range 16).map (ya blk):=by rw[<-hl16];exact he
   rw[hl16];rw[hl16]at hL;clear hR he hlt hl hi;refine pO ?_;refine ah (α:=List Nat) (fun l=>64-l.length) (fun l=>⟨[(2, .p 1000 0 0),(3, .p 1001 0 0),(6,E' l.length)],[(1000,⟨0,aF .u32 (zz 64),false,some 380⟩),(1001,⟨0,aF .u32 (l++List.replicate (64-l.length) 0),false,some 380⟩)],_⟩) (fun l=>16<=l.length/\l.length<=64/\LL (64-l.length) l=sched blk) l (fun _=>aA _) ⟨oO,oO,by rw[hl16,hs0];rfl⟩ ?_ ?_
   ·rw[hl16];exact lE
   ·clear hs0 hL hl16 i l;rintro l ⟨hl1,hl2,he⟩ R hR;have hL:(aF .u32 (l++List.replicate (64-l.length) 0)).length=64:=by rw[bH];simp;omega
    obtain⟨i,hi⟩: ∃i,i=l.length:=⟨_,rfl⟩
    by_cases hlt:l.length<64
    ·have hgo:=hR (l++[D9 l]) ⟨by simp;omega,by simp;omega,by
      have:64-l.length=(64-(l++[D9 l]).length)+1:=by simp;omega
      rw[this]at he;exact he⟩ (by simp;omega)
     have hse:=D8 l 64 (D9 l) hlt;have hg: ∀k:Nat,0<k->k<=16->(aF .u32 (l++List.replicate (64-l.length) 0)).getD ((i:Int)-(k:Int)).toNat .u= .v (.i .u32 (l.getD (i-k) 0:Nat)):=fun k h0 h1=>by
      rw[show((i:Int)-(k:Int)).toNat=i-k by omega,dV (by simp;omega),FK l _ _ oO]
     have g15:(aF .u32 (l++List.replicate (64-l.length) 0)).getD ((i:Int)-15).toNat .u= _:=hg 15 oC oC;have g2:(aF .u32 (l++List.replicate (64-l.length) 0)).getD ((i:Int)-2).toNat .u= _:=hg 2 oC oC;have g16:(aF .u32 (l++List.replicate (64-l.length) 0)).getD ((i:Int)-16).toNat .u= _:=hg 16 oC oC;have g7:(aF .u32 (l++List.replicate (64-l.length) 0)).getD ((i:Int)-7).toNat .u= _:=hg 7 oC oC;have hN:D9 l=ad (ad (ad (l.getD (i-16) 0) (qI (qI (rr (l.getD (i-15) 0) 7) (rr (l.getD (i-15) 0) 18)) (l.getD (i-15) 0/8))) (l.getD (i-7) 0)) (qI (qI (rr (l.getD (i-2) 0) 17) (rr (l.getD (i-2) 0) 19)) (l.getD (i-2) 0/1024)):=by rw[hi];rfl
     rw[hN]at hgo hse;rw[<-hi]at hL hse g15 g2 g16 g7⊢;clear hR he hN hg;generalize l.getD (i-16) 0=w16 at*;generalize l.getD (i-15) 0=w15 at*;generalize l.getD (i-7) 0=w7 at*;generalize l.getD (i-2) 0=w2 at*;have r7:=lZ w15 7 oC oC;have r18:=lZ w15 18 oC oC;have r17:=lZ w2 17 oC oC;have r19:=lZ w2 19 oC oC;refine nX (aN @hL (aN @g15 (aN @g2 (aN @g16 (aN @g7 (aN @qL @YW)))))) @r7 @r18 @r17 @r19 ?_;refine hgo _ ?_;rw[eL (x:=ad (ad (ad w16 (qI (qI (rr w15 7) (rr w15 18)) (w15/8))) w7) (qI (qI (rr w2 17) (rr w2 19)) (w2/1024))) (by rw[bH]at hL;omega) rfl,hse]
     (refine AS.Le.of (by first|decide|omega) ?_ ?_<;>simp[cU,cT,aO,az,AV.bd,AV.bd.bdL,u8,aj,ak,an])
     all_goals first|omega|skip
    ·have hl64:l.length=64:=oO;rw[hl64]at he hi hL⊢;have he:l=sched blk:=he;rw[gD,List.replicate_zero,j6]at hL⊢;rw[<-he];have k1:List.take 64 (aF .u32 l)=aF .u32 l:=cQ (by rw[bH];omega)
     have k2:List.drop 64 (aF .u32 (zz 64))=[]:=gG (by rw[Ka];decide)
     have k3:(wl l).length=64:=by rw[rv,hl64]
     repeat' first|simp only[go_sem,seval,hL,k1,k2,k3,ko,QH,Ka]|refine oE ?_|apply xX<;>intro hc
     all_goals skip
theorem YQ {l:List Nat} (h:l.length=8): ∃a b c d e f g i,l=[a,b,c,d,e,f,g,i]:=by
 match l,h with
 |[a,b,c,d,e,f,g,i],_=>exact⟨_,_,_,_,_,_,_,_,rfl⟩
theorem ic8 (a b c d e f g h:Nat):aF .u32 [a,b,c,d,e,f,g,h]=[.v (.i .u32 (a:Int)), .v (.i .u32 (b:Int)), .v (.i .u32 (c:Int)), .v (.i .u32 (d:Int)), .v (.i .u32 (e:Int)), .v (.i .u32 (f:Int)), .v (.i .u32 (g:Int)), .v (.i .u32 (h:Int))]:=rfl
theorem Vb (k w a b c d e f g h:Nat):Qe k w [a,b,c,d,e,f,g,h]=[ad (Qh k w [a,b,c,d,e,f,g,h]) (Yp [a,b,c,d,e,f,g,h]),a,b,c,ad d (Qh k w [a,b,c,d,e,f,g,h]),e,f,g]:=rfl
theorem Vc (k w a b c d e f g h:Nat):Qh k w [a,b,c,d,e,f,g,h]=ad (ad (ad (ad h (qI (qI (rr e 6) (rr e 11)) (rr e 25))) (qI (L1 e f) (L1 (n32 e) g))) k) w:=rfl
theorem Vd (a b c d e f g h:Nat):Yp [a,b,c,d,e,f,g,h]=ad (qI (qI (rr a 2) (rr a 13)) (rr a 22)) (qI (qI (L1 a b) (L1 a c)) (L1 b c)):=rfl
theorem Xa (e:Nat):IntKind.u32.wrap ((@BitVec.toNat 32 (@HXor.hXor (BitVec 32) (BitVec 32) (BitVec 32) (@instHXorOfXorOp (BitVec (IntKind.bits .u32)) (@BitVec.instXorOp (IntKind.bits .u32))) (BitVec.ofInt 32 (if IntKind.u32.signed=true then-1 else IntKind.u32.max)) (BitVec.ofNat 32 e)):Nat):Int)=((n32 e:Nat):Int):=by
 have h:=n_r e;rw[ib]at h;exact h
theorem Mt {st:List Nat} (hs:st.length=8) {blk:Bytes} (hb:blk.length=64):aH 320 [.agg (wl st), .sl (blk.map u8)] (.agg (wl (sL st blk))):=by
 have hc:=Dl;have hd:=GH hb;have k0:(wl st).length=8:=by rw[rv,hs]
 have k1:(wl qF).length=64:=rfl;have k2:(wl (sched blk)).length=64:=by rw[rv,nh]
 have k3:(aF .u32 st).length=8:=by rw[bH,hs]
 have k4:List.take 64 (aF .u32 (sched blk))=aF .u32 (sched blk):=cQ (by rw[bH,nh];omega)
 have k5:List.take 64 (aF .u32 qF)=aF .u32 qF:=cQ (by rw[bH];decide)
 have k6:List.take 8 (aF .u32 st)=aF .u32 st:=cQ (by rw[bH];omega)
 have k7:(aF .u32 (sched blk)).length=64:=by rw[bH,nh]
 have k8:(aF .u32 qF).length=64:=by rw[bH];rfl
 refine eW call320 func320 ?_;refine Bw (aN @k0 (aN @k1 (aN @k2 (aN @k3 (aN @k4 (aN @k5 (aN @k6 (aN @k7 (aN @k8 (aN @QH @ko)))))))))) @hc @hd ?_;refine ah (α:=List Nat×Nat) (fun p=>64-p.2) (fun p=>⟨[(2, .p 1000 0 0),(4, .p 1001 0 0),(5, .p 1005 0 0),(6, .p 1006 0 0),(7, .p 1010 0 0),(22,E' p.2)],[(1000,⟨0,aF .u32 st,false,none⟩),(1001,⟨0,[.v (.i .u32 0), .v (.i .u32 0), .v (.i .u32 0), .v (.i .u32 0), .v (.i .u32 0), .v (.i .u32 0), .v (.i .u32 0), .v (.i .u32 0)],false,some 348⟩),(1005,⟨0,aF .u32 qF,false,some 380⟩),(1006,⟨0,aF .u32 (sched blk),false,some 380⟩),(1010,⟨0,aF .u32 p.1,false,some 348⟩)],_⟩) (fun p=>p.1.length=8/\p.2<=64/\w9 (sched blk) (64-p.2) p.1=w9 (sched blk) 64 st) (st,0) (fun _=>aA _) ⟨hs,aD _,rfl⟩ ?_ ?_
 ·exact lE
 ·rintro⟨v,i⟩ ⟨hv,hi,he⟩ R hR;obtain⟨a,b,c,d,e,f,g,h,rfl⟩:=YQ hv
  by_cases hlt:i<64
  ·have hgo:=hR (Qe (qF.getD i 0) ((sched blk).getD i 0) [a,b,c,d,e,f,g,h],i+1) ⟨rfl,hlt,by
    rw[show 64-i=(64-(i+1))+1 by omega,w9,show 63-(64-(i+1))=i by omega]at he;exact he⟩ (by simp;omega)
   have gk:(aF .u32 qF).getD i .u= .v (.i .u32 (qF.getD i 0:Nat)):=dV (by exact hlt)
   have gw:(aF .u32 (sched blk)).getD i .u= .v (.i .u32 ((sched blk).getD i 0:Nat)):=dV (by rw[nh];exact hlt)
   have r6:=lZ e 6 oC oC;have r11:=lZ e 11 oC oC;have r25:=lZ e 25 oC oC;have r2:=lZ a 2 oC oC;have r13:=lZ a 13 oC oC;have r22:=lZ a 22 oC oC;simp only[Vb,Vc,Vd,ic8]at hgo⊢;generalize qF.getD i 0=ki at hgo gk;generalize (sched blk).getD i 0=wi at hgo gw;clear hR he hv;refine abv (aN @k7 (aN @k8 (aN @gk (aN @gw (aN @qL (aN @YW (aN @a_r @Xa))))))) @r6 @r11 @r25 @r2 @r13 @r22 oT ?_;refine hgo _ ?_
   (refine AS.Le.of (by first|decide|omega) ?_ ?_<;>simp[cU,cT,aO,az,AV.bd,AV.bd.bdL,u8,aj,ak,an])
   all_goals first|omega|(erw [Xa e];simp only[a_r,YW,qL,and_self])
  ·have hl:i=64:=oO;subst hl;have he:[a,b,c,d,e,f,g,h]=w9 (sched blk) 64 st:=he;have hw:sL st blk=List.zipWith ad [a,b,c,d,e,f,g,h] st:=by rw[sL,<-he]
   rw[hw];clear hR he hv hw;obtain⟨s0,s1,s2,s3,s4,s5,s6,s7,rfl⟩:=YQ hs;simp only[ic8];repeat' first|simp only[go_sem,seval,k7,k8,qL]|refine oE ?_|apply xX<;>intro hc
   all_goals refine aq ?_
   repeat' first|simp only[go_sem,seval,k7,k8,qL]|refine oE ?_|apply xX<;>intro hc
   all_goals refine aq ?_
   repeat' first|simp only[go_sem,seval,k7,k8,qL]|refine oE ?_|apply xX<;>intro hc
   all_goals refine aq ?_
   repeat' first|simp only[go_sem,seval,k7,k8,qL]|refine oE ?_|apply xX<;>intro hc
   all_goals refine aq ?_
   repeat' first|simp only[go_sem,seval,k7,k8,qL]|refine oE ?_|apply xX<;>intro hc
   all_goals refine aq ?_
   repeat' first|simp only[go_sem,seval,k7,k8,qL]|refine oE ?_|apply xX<;>intro hc
   all_goals refine aq ?_
   repeat' first|simp only[go_sem,seval,k7,k8,qL]|refine oE ?_|apply xX<;>intro hc
   all_goals refine aq ?_
   repeat' first|simp only[go_sem,seval,k7,k8,qL]|refine oE ?_|apply xX<;>intro hc
   all_goals refine aq ?_
   repeat' first|simp only[go_sem,seval,k7,k8,qL]|refine oE ?_|apply xX<;>intro hc
   all_goals refine aq ?_
   exact fz (aN @k7 (aN @k8 @qL))
