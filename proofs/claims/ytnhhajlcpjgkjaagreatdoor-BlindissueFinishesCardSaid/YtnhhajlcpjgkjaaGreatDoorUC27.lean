/- Part of the proof. -/
import Derived.Test.YtnhhajlcpjgkjaaGreatDoorUC26
set_option linter.all false
set_option maxHeartbeats 16000000
set_option maxRecDepth 100000
namespace Go.Proofs.Tryz
open Go Go.Dom Go.Num
variable {i n:Nat}
theorem Dz (k:Key):aE 82 [k.pv] (.fc 174 [] [.pt k.pv 0]):=by
 unfold Key.pv;refine eW call82 func82 ?_;exact z0
def Fo:List PV->Bytes
 |[_, .s b]=>b
 | _=>[]
def Xj:List PV->Int
 |[.i _ n,_]=>n
 | _=>0
theorem rh (k:Key): ∀y∈k.iT,∃n b,y=rV n b:=by
 intro y hy;simp only[Key.iT,cd,cv]at hy;rcases hy with rfl|rfl|rfl|rfl|⟨b,-,rfl⟩<;>exact⟨_,_,rfl⟩
theorem Aj (k:Key): ∀y∈k.iT,y.length=2:=by
 intro y hy;obtain⟨n,b,rfl⟩:=rh k y hy;rfl
def rB (m:Bytes) (y:List PV):Bool:= !dx m [] (Fo y)||(Xj y==2&&(Fo y==[1]))
def fa (pe:Int) (k:Key):Int:=if pe≠0 then pe else if !(aa k.m&&aa k.o)then 3 else if !(k.iT.all fun y=>aa (Fo y))then 3 else if !mi k.name then 1
 else if !(k.o==[])||decide (AL k.m≠0)then 13 else if k.r.length<2\/k.r.length>18 then 6 else if k.iT.any (rB k.m)then 13 else 0
theorem Hf {α:Type} {p:α->Bool} {l a:List α} {y:α} {ys:List α} (h:l=a++y::ys) (hy:p y=true):l.any p=true:=by
 rw[h];simp[hy]
theorem Dv {α:Type} {p:α->Bool} {a:List α} {y:α} (h:a.any p=false) (hy:p y=false):(a++[y]).any p=false:=by simp[h,hy]
theorem OZ {α:Type} {p:α->Bool} {l a:List α} {y:α} {ys:List α} (h:l=a++y::ys) (hy:p y=false):l.all p=false:=by
 rw[h];simp[hy]
theorem KO {α:Type} {p:α->Bool} {a:List α} {y:α} (h:a.all p=true) (hy:p y=true):(a++[y]).all p=true:=by rw[List.all_append,h];simp[hy]
theorem yg {α:Type} {l a:List α} {y:α} {ys:List α} (h:l=a++y::ys):l=(a++[y])++ys:=by rw[h];simp
theorem kN (p:cq) (k:Key) (pe:Int) (hp:aE 81 [p.pv] (E pe)) (lm:k.m.length<=8) (ln:k.name.length<=60) (lr:k.r.length<=20):aE 29 [p.pv,k.pv] (E (fa pe k)):=by
 have v1:=aG k.m;have v2:=aG k.o;have hb:=Dz k;have hnm:=JB k.name ln;have hpw:=rG k.m;have hit:=Dy k oO;have hbl:=Aj k;have hbf:=rh k;have hhas:=yJ lm;have hE: ∀e,fa pe k=e->aE 29 [p.pv,k.pv] (E e)->aE 29 [p.pv,k.pv] (E (fa pe k)):=fun e h g=>by rw[h];exact g
 by_cases h0:pe=0
 case neg=>
  refine hE pe (by simp[fa,h0]) ?_
  unfold cq.pv Key.pv at*;refine eW call29 func29 ?_;exact z1 @hp
 subst h0
 by_cases hv:aa k.m=true/\aa k.o=true
 case neg=>
  refine hE 3 (by
   have:(aa k.m&&aa k.o)=false:=by (rw[dy];intro g;simp at g;exact hv g)
   simp[fa,this]) ?_
  generalize aa k.m=b1 at*;generalize aa k.o=b2 at*;unfold cq.pv Key.pv at*;refine eW call29 func29 ?_;exact YM @hp @v1 @v2 oT
 obtain⟨hm,ho⟩:=hv;rw[hm]at v1;rw[ho]at v2;clear hE;unfold fa;rw[hm,ho,af (by simp),af (by simp)]
 unfold cq.pv at*;have hkp:k.pv= .agg [.s k.name, .s k.m, .s k.o, .s k.z, .s k.s, .sl (k.r.map .s), .s k.u, .s k.h]:=rfl;rw[hkp]at hb hit⊢;clear hkp;generalize k.iT=bs at*;obtain⟨name,m,o,z,s,r,u,h⟩:=k;simp only at*;refine eW call29 func29 ?_;repeat' first|simp only[go_sem,seval]|refine cP hp ?_|refine cP v1 ?_|refine cP v2 ?_|refine cP hb ?_|(refine xd hit rfl hbl ?_)|refine oE ?_|apply xX<;>intro hc
 refine Ck (α:=Unit) (fun _=>⟨[(3, .p 1001 0 0),(4, .p 1002 0 0)],[(1001,⟨0,[.v (.s name), .v (.s m), .v (.s o), .v (.s z), .v (.s s), .v (.sl (r.map .s)), .v (.s u), .v (.s h)],false,none⟩),(1002,⟨0,[.v (E 0)],false,some 53⟩)],_⟩) (fun ys _=> ∃pre,bs=pre++ys/\pre.all (fun y=>aa (Fo y))=true) () (fun _=>aD _) ⟨[],rfl,rfl⟩ ?_ ?_ ?_
 ·exact lE
 ·rintro-⟨pre,hpre,hall⟩;rw[iu]at hpre;subst hpre;rw[hall,af (by simp)]
  by_cases hn:mi name=true
  case neg=>
   have hn:mi name=false:=by simpa using hn
   rw[hn]at hnm⊢;exact z1 @hnm
  rw[hn]at hnm⊢;rw[af (by simp)]
  by_cases h1:o=[]
  case neg=>
   have h1:(o==([]:Bytes))=false:=by simpa using h1
   rw[h1,ah (by simp)]
   have h1':(o !=([]:Bytes))=true:=by simp[bne,h1]
   exact lF (aN @h1 @h1') @hnm
  subst h1;rw[nn]
  by_cases h2:AL m=0
  case neg=>
   rw[ah (by simp[h2])]
   repeat' first|simp only[go_sem,seval,nn]|refine cP hnm ?_|refine cP hpw ?_|refine oE ?_|apply xX<;>intro hc
   all_goals first|(exact aM (by assumption) h2)|skip
  rw[h2]at hpw;rw[af (by simp[h2])]
  by_cases h3:r.length<2\/r.length>18
  case pos=>
   rw[ah h3];exact zA @nn @hnm @hpw
  rw[af h3];repeat' first|simp only[go_sem,seval,nn]|refine cP hnm ?_|refine cP hpw ?_|refine cP hb ?_|(refine xd hit rfl hbl ?_)|refine oE ?_|apply xX<;>intro hc
  refine Ck (α:=Unit) (fun _=>⟨[(3, .p 1001 0 0),(4, .p 1002 0 0)],[(1001,⟨0,[.v (.s name), .v (.s m), .v (.s []), .v (.s z), .v (.s s), .v (.sl (r.map .s)), .v (.s u), .v (.s h)],false,none⟩),(1002,⟨0,[.v (E 0)],false,some 53⟩)],_⟩) (fun ys _=> ∃pre,bs=pre++ys/\pre.any (rB m)=false) () (fun _=>aD _) ⟨[],rfl,rfl⟩ ?_ ?_ ?_
  ·exact lE
  ·rintro-⟨pre,hpre,hany⟩;rw[iu]at hpre;subst hpre;rw[hany,af (by simp)]
   exact z0
  ·rintro y ys-⟨pre,hpre,hany⟩ R hR;obtain⟨n,b,rfl⟩:=hbf y (by rw[hpre];simp)
   have hb1:=hhas b;have hbd:rB m (rV n b)=true->bs.any (rB m)=true:=Hf hpre;have hgo:rB m (rV n b)=false-> ∀s',_->R s':=fun g=>hR () ⟨_,yg hpre,Dv hany g⟩
   have e1:rB m (rV n b)=(!dx m [] b||(n==2&&(b==[1]))):=rfl;rw[e1]at hbd hgo;clear e1 hR;generalize dx m [] b=b1 at*;repeat' first|simp only[go_sem,seval,rV]|refine cP hb1 ?_|refine cP xo ?_|refine oE ?_|apply xX<;>intro hc
   all_goals first
    |(rw[hbd (by simp_all),ah rfl];done)
    |(refine hgo (by simp_all) _ ?_;(refine AS.Le.of (by first|decide|omega) ?_ ?_<;>simp[dA,dz,aS,aB,AV.bd,AV.bd.bdL,u8,aq,au,aA]);done)
    |fail
 ·rintro y ys-⟨pre,hpre,hall⟩ R hR;obtain⟨n,b,rfl⟩:=hbf y (by rw[hpre];simp)
  have vb:=aG b;have hbd:aa b=false->bs.all (fun y=>aa (Fo y))=false:=OZ (p:=fun y=>aa (Fo y)) hpre
  have hgo:aa b=true-> ∀s',_->R s':=fun g=>hR () ⟨_,yg hpre,KO (p:=fun y=>aa (Fo y)) hall g⟩
  generalize aa b=b1 at*;repeat' first|simp only[go_sem,seval,rV]|refine cP vb ?_|refine oE ?_|apply xX<;>intro hc
  all_goals first
   |(rw[hbd (by simp_all),ah (by simp)];done)
   |(refine hgo (by simp_all) _ ?_;(refine AS.Le.of (by first|decide|omega) ?_ ?_<;>simp[dA,dz,aS,aB,AV.bd,AV.bd.bdL,u8,aq,au,aA]);done)
   |fail
def Jp (m o p q:Bytes) (y:List PV):Bool:= !(decide (Dk m o p q (Fo y)=0)&&(if Xj y==0 then Q8 p q (Fo y)else L8 p q (Fo y)))||decide (Dk m o p q (Fo y)≠0)
def LX (ke:Int) (k:Key) (p q:Bytes):Int:=if ke≠0 then ke else if jo k.m k.o p q≠0 then jo k.m k.o p q else if k.iT.any (Jp k.m k.o p q)then 13 else 0
theorem OB (pa:cq) (k:Key) (p q:Bytes) (ke:Int) (hk:aE 29 [pa.pv,k.pv] (E ke)) (lm:k.m.length<=8) (lr:k.r.length<=20):aE 71 [pa.pv,k.pv,G p q] (E (LX ke k p q)):=by
 have hb:=Dz k;have hit:=Dy k oO;have hbl:=Aj k;have hbf:=rh k;have hrc:=AQ k.m k.o p q;have hsq:=Dp lm k.o p q;have hge:=xj lm k.o p q;unfold LX;unfold cq.pv at*;have hkp:k.pv= .agg [.s k.name, .s k.m, .s k.o, .s k.z, .s k.s, .sl (k.r.map .s), .s k.u, .s k.h]:=rfl;rw[hkp]at hb hit hk⊢;clear hkp;generalize k.iT=bs at*;obtain⟨name,m,o,z,s,r,u,h⟩:=k;simp only at*
 by_cases h0:ke=0
 case neg=>
  rw[ah h0];refine eW call71 func71 ?_;exact z1 @hk
 subst h0;rw[af (by simp)]
 by_cases h1:jo m o p q=0
 case neg=>
  rw[ah h1];generalize jo m o p q=ce at*;refine eW call71 func71 ?_;exact z2 @hk @hrc
 rw[af (by simp[h1])]
 rw[h1]at hrc;refine eW call71 func71 ?_;repeat' first|simp only[go_sem,seval]|refine cP hk ?_|refine cP hrc ?_|refine cP hb ?_|(refine xd hit rfl hbl ?_)|refine oE ?_|apply xX<;>intro hc
 refine Ck (α:=Unit) (fun _=>⟨[(4, .p 1001 0 0),(5, .p 1002 0 0),(6, .p 1003 0 0)],[(1001,⟨0,[.v (.s name), .v (.s m), .v (.s o), .v (.s z), .v (.s s), .v (.sl (r.map .s)), .v (.s u), .v (.s h)],false,none⟩),(1002,⟨0,[.v (.s p), .v (.s q)],false,none⟩),(1003,⟨0,[.v (E 0)],false,some 53⟩)],_⟩) (fun ys _=> ∃pre,bs=pre++ys/\pre.any (Jp m o p q)=false) () (fun _=>aD _) ⟨[],rfl,rfl⟩ ?_ ?_ ?_
 ·exact lE
 ·rintro-⟨pre,hpre,hany⟩;rw[iu]at hpre;subst hpre;rw[hany,af (by simp)]
  exact z0
 ·rintro y ys-⟨pre,hpre,hany⟩ R hR;obtain⟨n,b,rfl⟩:=hbf y (by rw[hpre];simp)
  have hs:=hsq b;have hg:=hge b;have hbd:Jp m o p q (rV n b)=true->bs.any (Jp m o p q)=true:=Hf hpre;have hgo:Jp m o p q (rV n b)=false-> ∀s',_->R s':=fun g=>hR () ⟨_,yg hpre,Dv hany g⟩
  have e1:Jp m o p q (rV n b)=(!(decide (Dk m o p q b=0)&&(if n==0 then Q8 p q b else L8 p q b))||decide (Dk m o p q b≠0)):=rfl
  rw[e1]at hbd hgo;clear e1 hR hsq hge;generalize Q8 p q b=b1 at*;generalize L8 p q b=b2 at*;generalize Dk m o p q b=ee at*;repeat' first|simp only[go_sem,seval,rV]|refine cP hs ?_|refine cP hg ?_|refine oE ?_|apply xX<;>intro hc
  all_goals first
   |(rw[hbd (by clear hbd hgo;rcases Classical.em (ee=0)with he|he<;>simp_all),ah rfl];done)
   |(refine hgo (by clear hbd hgo;rcases Classical.em (ee=0)with he|he<;>simp_all) _ ?_;(refine AS.Le.of (by first|decide|omega) ?_ ?_<;>simp[dA,dz,aS,aB,AV.bd,AV.bd.bdL,u8,aq,au,aA]);done)
   |skip
theorem jm {l:List Bytes} {x:Nat} (h:x<l.length):(l.map PV.s).getD x .fn0= .s (l.getD x []):=by
 simp[ca,h]
theorem kq {l:List Bytes} {y:PV} (h:y∈l.map PV.s):y.cells.length=1:=by
 obtain⟨c,_,rfl⟩:=cv.1 h;rfl
def ec {α:Type} (p:α->Bool):Nat->List α->Int
 | _,[]=> -1
 |k,x::r=>if p x then(k:Int)else ec p (k+1) r
theorem iH {α:Type} {p:α->Bool}: ∀{l:List α} {k:Nat},0<=ec p k l↔l.any p=true
 |[],k=>by simp[ec]
 |x::r,k=>by
  simp only[ec,List.any_cons];split
  ·rename_i h;simp[h]
  ·rename_i h;simp only[C6]at h;rw[iH,h,jx]
theorem drop_cons {l:List Bytes} (h:i<l.length):l.drop i=l.getD i []::l.drop (i+1):=by
 rw[jt h,ca,bZ h];rfl
theorem zE (l:List Bytes) (f:FuncId) (p:Bytes->Bool) (hl:l.length<4611686018427387904) (h: ∀x,aE f [.s x] (.b (p x))):aE 268 [.sl (l.map .s), .fn (.func f)] (E (ec p 0 l)):=by
 refine eW call268 func268 ?_;refine qY ?_;refine ak (α:=Nat) (fun i=>l.length-i) (fun i=>⟨[(0, .v (.sl (l.map .s))),(1, .v (.fn (.func f))),(7, .v (.i .i64 l.length)),(8, .v (.i .i64 (i:Nat)))],[],_⟩) (fun i=>i<=l.length/\ec p i (l.drop i)=ec p 0 l) 0 (fun _=>aD _) ⟨aR _,rfl⟩ ?_ ?_
 ·exact lE
 ·rintro i ⟨hi,hx⟩ R hR;rw[<-hx]
  by_cases hlt:i<l.length
  ·have e1:=jm hlt;have hf:=h (l.getD i []);have hgo:=hR (i+1);rw[<-hx,drop_cons hlt]at hgo;rw[drop_cons hlt];simp only[ec]at hgo⊢;clear hx hR h;generalize p (l.getD i [])=b at*;repeat' first|simp only[go_sem,seval,e1]|refine cP hf ?_|refine oE ?_|apply xX<;>intro hc
   all_goals first
    |(refine hgo ⟨oO,by simp_all⟩ oO _ ?_;(refine AS.Le.of (by first|decide|omega) ?_ ?_<;>simp[dA,dz,aS,aB,AV.bd,AV.bd.bdL,u8,aq,au,aA]);done)
    |(simp_all;done)
    |skip
  ·obtain rfl:i=l.length:=oO;rw[dn];repeat' first|simp only[go_sem,seval]|refine oE ?_|apply xX<;>intro hc
   all_goals simp[ec]
theorem tQ (l:List Bytes) (f:FuncId) (p:Bytes->Bool) (hl:l.length<4611686018427387904) (h: ∀x,aE f [.s x] (.b (p x))):aE 131 [.sl (l.map .s), .fn (.func f)] (.b (l.any p)):=by
 have hi:=zE l f p hl h;have e:decide (ec p 0 l>=0)=l.any p:=by
  rw[dk,decide_eq_true_iff];exact iH
 refine eW call131 func131 ?_;exact lF @e @hi
abbrev T (vs:List Bytes) (sd:Bytes) (at':Int):PV:= .agg [.sl (vs.map .s), .s sd, .i .i64 at']
theorem L9 (x:Bytes):aE 299 [.s x] (.b (!aa x)):=by
 have hv:=aG x;refine eW call299 func299 ?_;exact z1 @hv
def fK (vs:List Bytes) (at':Int):Bool:=decide (at'>=0)&&decide (at'<=2147483647)&& !(vs.any fun x=> !aa x)
theorem Bx (vs:List Bytes) (sd:Bytes) (at':Int) (hl:vs.length<4611686018427387904):aE 178 [T vs sd at'] (.b (fK vs at')):=by
 have hcf:=tQ vs _ (fun x=> !aa x) hl L9
 unfold fK;generalize (vs.any fun x=> !aa x)=b at*
 refine eW call178 func178 ?_;repeat' first|simp only[go_sem,seval]|refine cP hcf ?_|refine oE ?_|apply xX<;>intro hc
 all_goals simp_all
 all_goals (intros;omega)
def uI (vs:List Bytes) (at':Int) (n:Bytes):Int:=if !(fK vs at'&&aa n)then 3 else if n=[]then 11 else 0
theorem yS (vs:List Bytes) (sd:Bytes) (at':Int) (n:Bytes) (hl:vs.length<4611686018427387904):aE 90 [T vs sd at', .s n] (E (uI vs at' n)):=by
 have hg:=Bx vs sd at' hl;have hv:=aG n;unfold uI;generalize fK vs at'=b at*;generalize aa n=b2 at*;refine eW call90 func90 ?_;exact Og @hg @hv
def LN (vs:List Bytes) (sd:Bytes) (i:Nat) (n:Bytes):PV:=
 if num n<=num (vs.getD i [])then .tup [.s [],T [] [] 0,E 2]else .tup [.s (vs.getD i []),T vs sd (i+1:Nat),E 0]
theorem ry (l:List Bytes):(l.map PV.s).flatMap PV.cells=l.map PV.s:=by
 induction l with
 |nil=>rfl
 |cons x r ih=>simp_all[PV.cells]
theorem ow {l:List Bytes} {y:AV} (h:y∈List.map AV.v (List.flatMap PV.cells (l.map PV.s))):y.one=true:=by
 rw[ry,iF]at h;obtain⟨c,_,rfl⟩:=cv.1 h;rfl
theorem l9 (n:Nat) (x:AV):(List.replicate n [x]).flatten.length=n:=by
 induction n with
 |zero=>rfl
 |succ n ih=>rw[List.replicate_succ,List.flatten_cons,bY,ih,List.length_singleton];omega
theorem Nv (vs:List Bytes):List.drop vs.length (List.replicate vs.length [AV.v (PV.s [])]).flatten=[]/\(List.map AV.v (List.map PV.s vs)).all AV.one=true/\List.take vs.length (List.map AV.v (List.map PV.s vs))=List.map AV.v (List.map PV.s vs)/\chunk 1 vs.length (List.map PV.s vs)=List.map PV.s vs:=by
 refine⟨?_,?_,?_,?_⟩
 ·rw[iS (by rw[l9];exact aD _)]
 ·simp[bH,AV.one,PV.one]
 ·rw[c9 (by simp)]
 ·have:=Bv (List.map PV.s vs);rwa[aL]at this
theorem D6 {vs:List Bytes} (hi:i<vs.length):vs.getD i []∈vs:=by
 rw[ca,bZ hi];exact ka hi
theorem PC {vs:List Bytes} (sd:Bytes) {n:Bytes} (hv:vs.all aa=true) (hn:aa n=true) (hi:i<vs.length) (hl:vs.length<1000000):aE 91 [T vs sd i, .s n] (LN vs sd i n):=by
 have hx:aa (vs.getD i [])=true:=bH.1 hv _ (D6 hi);have hcm:=lV (vs.getD i []) n;rw[hx,hn]at hcm;simp only[cX,az]at hcm;have e1:=jm hi;have e2:(aZ (num (vs.getD i [])) (num n)>=0)=(num n<=num (vs.getD i [])):=xH _ _;unfold LN;generalize aZ (num (vs.getD i [])) (num n)=cm at*
 by_cases hle:num n<=num (vs.getD i [])
 ·rw[ah hle];have e3:cm>=0:=by rw[e2];exact hle
  refine eW call91 func91 ?_;repeat' first|simp only[go_sem,seval,e1]|refine cP hcm ?_|refine oE ?_|apply xX<;>intro hc
  rfl
 ·rw[af hle];have e3: ¬cm>=0:=by rw[e2];exact hle
  refine eW call91 func91 ?_;refine jd @e1 @hcm ?_;refine⟨⟨fun x hx=>kq hx,fun y hy=>ow hy,by rw[l9];exact aD _⟩,?_⟩
  obtain⟨r1,r2,r3,r4⟩:=Nv vs;refine eC (aN @e1 (aN @l9 (aN @ry (aN @r1 (aN @r2 (aN @r3 (aN @r4 @ie))))))) ?_;simp
theorem HH {p:Bytes} (vp:aa p=true) (lp:p.length<=8) (h1:1<=num p):aE 287 [.s p] (N ((num p-1)/2)):=by
 have hs:=SP (dO lp) (show 1<(2^64) by decide)
 rw[ah h1,ah h1,dZ vp]at hs;have hd:=jf (a:=num p-1) (b:=2) (by have:=dO lp;omega) oC oC
 refine eW call287 func287 ?_;exact zB @Cv @wk @V3 @hs @hd
theorem KC {p q:Bytes} (vp:aa p=true) (vq:aa q=true) (lp:p.length<=4) (lq:q.length<=4) (h1:1<=num p) (h2:1<=num q) (hs:Bb p q=0):aE 161 [G p q] (.tup [N ((num p-1)/2*((num q-1)/2)),E 0]):=by
 have v1:=aG p;have v2:=aG q;rw[vp]at v1;rw[vq]at v2;have hsf:=Iw p q;rw[hs]at hsf;have a1:=HH vp oO h1;have a2:=HH vq oO h2;have b1:num p<4294967296:=b9 (ct p) (cM oC lp);have b2:num q<4294967296:=b9 (ct q) (cM oC lq);have hm:=Bn (bR ((num p-1)/2)) (bR ((num q-1)/2));have hx:(num p-1)/2*((num q-1)/2)<(2^64):=b9 (fE (show _<4294967296 by omega) (show _<4294967296 by omega)) oC
 have hl:(num p-1)/2*((num q-1)/2)<dC:=b9 hx (by unfold dC;decide+kernel)
 simp only[ny,vN (show(num p-1)/2<(2^64) by omega),vN (show(num q-1)/2<(2^64) by omega),cX,az,aY,hl]at hm
 refine eW call161 func161 ?_;exact z7 @v1 @v2 @hsf @a1 @a2 @hm oT
def cq.H0 (p:cq):List Bytes:=[p.c,p.sl,p.mm,p.mo,p.mg,p.mh,p.wm,p.wo,p.wg,p.wh,p.se,p.at',p.ha,p.el,p.es,p.bl,p.ma]
theorem xl (p:cq):aE 222 [p.pv] (.sl (p.H0.map .s)):=by
 obtain⟨c,sl,mm,mo,mg,mh,wm,wo,wg,wh,se,at',ha,el,es,bl,ma⟩:=p;unfold cq.pv cq.H0;simp only;refine eW call222 func222 ?_;exact z0
theorem lT (n1 n2 nm:Nat) (hne:n1≠n2) {a b m:Nat} (o:Bytes) (el el2:Option TypeId) (ha:a<(2^64)) (hb:b<(2^64)) (hm:m<(2^64)) (h0:0<m):jD prog 96 nm [(n1,⟨0,[.v (N a)],false,el⟩),(n2,⟨0,[.v (N m), .v (.s o)],false,el2⟩)] [.v (N b), .p n1 0 0, .p n2 0 0] (.tup []) [(n1,some ⟨0,[.v (N (a*b%m))],false,el⟩)]:=by
 have hx:=Mr ha hb hm h0;refine jD.w mixed call96 func96 rfl (jJ.1 _ _ _ (by cbv)) (jJ.2 _ _ (by cbv)) (obs:=[⟨0,[.v (N a)],false,el⟩,⟨0,[.v (N m), .v (.s o)],false,el2⟩]) (args:=[.v (N b), .p 0 0 0, .p 1 0 0]) (fs:=[some (some ⟨0,[.v (N (a*b%m))],false,el⟩),none]) (j:=none) (nw:=none) (v:= .tup []) (ns:=[n1,n2]) (obsA:=[⟨0,[.v (N a)],false,el⟩,⟨0,[.v (N m), .v (.s o)],false,el2⟩]) rfl ?_ (by simp) (by simp[hne]) rfl (by simp[aW,aH.aU,AV.aU,AV.aU.renL]) (by simp[aW,AV.aU,dp,hne,j7 hne]) (by simp[AV.aU,AV.aU.renL]) (by simp[fC,outs,aH.aU,AV.aU,AV.aU.renL])
 simp only[go_sem,seval];repeat' first|simp only[go_sem,seval,true_or,or_true,false_or,or_false,an,iB,eS,gY,ft,fT,eN,pc,pq,gF,ib,dI,aO,AV.aU,AV.aU.renL,aK]|refine cP hx ?_|refine oE ?_|apply xX<;>intro hc
 all_goals skip
theorem JK {x:AV}:(List.replicate 1 [x]).flatten=[x]:=rfl
theorem Aq {x:AV}:List.drop 1 [x]=[]:=rfl
theorem pW {x:AV}:List.take 1 [x]=[x]:=rfl
theorem Ki {x y:AV}:List.set [x] 0 y=[y]:=rfl
theorem RC:n/2^cZ n=0:=by
 refine ir ?_;unfold cZ;split
 ·rename_i h;rw[h];decide
 ·rename_i h;exact tJ
theorem lf (x:PV) (l:List PV):my (.v x::l.map .v)=some (x::l):=by
 have h: ∀l:List PV,my (l.map .v)=some l:=by
  intro l
  induction l with
  |nil=>rfl
  |cons y l ih=>
   unfold my at ih⊢;rw[bV,aW,ih];rfl
 have:=h (x::l);exact this
theorem Gs (a:Bytes):aE 276 [.s a] (.b (aa a)):=by
 rw[uR];refine eW call276 func276 ?_;repeat' first|simp only[go_sem,seval]|refine oE ?_|apply xX<;>intro hc
 all_goals simp_all
 all_goals first|omega|(cases a<;>simp_all)
theorem B5 {a:Bytes} (h:i<a.length):(num (a.take i)%(2^64)*256%(2^64)+(a.getD i 0).toNat)%(2^64)=num (a.take (i+1))%(2^64):=by
 rw[kx h];omega
theorem XK (a:Bytes) (la:a.length<1099511627776):aE 277 [.s a] (.tup [.i .u64 (num a%(2^64):Nat), .b (decide (a.length<=8))]):=by
 refine eW call277 func277 ?_;refine qY ?_;refine ak (α:=Nat) (fun i=>a.length-i) (fun i=>⟨[(0, .v (.s a)),(4, .v (.i .u64 (num (a.take i)%(2^64):Nat))),(5, .v (.i .i64 i))],[],_⟩) (fun i=>i<=a.length) 0 (fun _=>aD _) (aR _) ?_ ?_
 ·(refine AS.Le.of (by first|decide|omega) ?_ ?_<;>simp[dA,dz,aS,aB,AV.bd,AV.bd.bdL,u8,aq,au,aA])
  all_goals rfl
 ·intro i hi R hR
  by_cases hlt:i<a.length
  ·have h1:=B5 hlt;have hgo:=hR (i+1) oO oO;rw[<-h1]at hgo;clear h1 hR;obtain⟨u,hu⟩: ∃u,u=num (a.take i)%(2^64):=⟨_,rfl⟩;have hul:u<(2^64):=by rw[hu];exact aP _ oC
   rw[<-hu]at hgo⊢;have hw1: ∀ _:True,IntKind.u64.wrap ((u:Int)*256)=((u*256%(2^64):Nat):Int):=fun _=>by rw[zZ];omega
   have hw2: ∀x:Nat,IntKind.u64.wrap (((u*256%(2^64):Nat):Int)+(x:Int))=(((u*256%(2^64)+x)%(2^64):Nat):Int):=fun x=>by rw[zZ];omega
   have hwb: ∀c:UInt8,IntKind.u64.wrap ((c.toNat:Nat):Int)=((c.toNat:Nat):Int):=fun c=>IntWalk.u64_in _ (by have:=c.toNat_lt;omega)
   exact ko (aN (hw1 oT) (aN @hw2 @hwb)) @hgo
  ·obtain rfl:i=a.length:=oO;rw[cg];have hd:decide ((a.length:Int)<=8)=decide (a.length<=8):=by rw[dk];simp only[bM];omega
   exact gU @hd
theorem yN {a b m:Nat} (ha:a<m) (hb:b<m) (hm:m<(2^64)):aE 508 [.i .u64 a, .i .u64 b, .i .u64 m] (.i .u64 ((a+b)%m:Nat)):=by
 by_cases h:m<=a+b
 ·have e:(a+b)%m=a+b-m:=by rw[Nat.mod_eq_sub_mod h,bw oO]
  rw[e];refine eW call508 func508 ?_;repeat' first|simp only[go_sem,seval]|refine oE ?_|apply xX<;>intro hc
  all_goals first|rfl|(congr 1;omega)
 ·have e:(a+b)%m=a+b:=bw oO;rw[e];refine eW call508 func508 ?_;repeat' first|simp only[go_sem,seval]|refine oE ?_|apply xX<;>intro hc
  all_goals first|rfl|(congr 1;omega)
theorem rI {a b m:Nat} (ha:a<m) (hb:b<m) (hm:m<(2^64)):aE 466 [.i .u64 a, .i .u64 b, .i .u64 m] (.i .u64 (a*b%m:Nat)):=by
 by_cases h32:m<4294967296
 ·have hlt:a*b<4294967296*4294967296:=fE oO oO;have hw: ∀ _:True,IntKind.u64.wrap ((a:Int)*(b:Int))=((a*b:Nat):Int):=fun _=>by rw[<-Int.natCast_mul,IntWalk.u64_in _ oO]
  clear hlt;refine eW call466 func466 ?_;repeat' first|simp only[go_sem,seval,hw oT]|refine oE ?_|apply xX<;>intro hc
  all_goals skip
 ·refine eW call466 func466 ?_;refine qY ?_;refine ak (α:=Nat×Nat×Nat) (fun s=>s.2.2) (fun s=>⟨[(0,U s.2.1),(1,U s.2.2),(2,U m),(7,U s.1)],[],_⟩) (fun s=>s.1<m/\s.2.1<m/\s.2.2<(2^64)/\(s.1+s.2.1*s.2.2)%m=a*b%m) (0,a,b) (fun _=>aD _) ⟨by show 0<m;omega,ha,by show b< _;omega,by simp⟩ ?_ ?_
  ·exact lE
  ·rintro⟨u,x,y⟩ ⟨hu,hx,hy,he⟩ R hR;simp only at hu hx hy he
   by_cases h0:y=0
   ·subst h0;rw[Nat.mul_zero,Nat.add_zero,bw hu]at he;refine vP ?_;rw[he]
   ·have a1:=yN hu hx hm;have a2:=yN hx hx hm;have hm1:(u+x)%m<m:=aP _ oO;have hm2:(x+x)%m<m:=aP _ oO;have hy2:((y:Int)).tmod 2=((y%2:Nat):Int):=rfl;have hyd:y/2<=y:=eT _ _;have hxx: ∀k,(x+x)%m*k%m=x*(2*k)%m:=fun k=>by rw[jy,<-qx,bU 2 x,cA]
    rcases(show y%2=1\/y%2=0 by omega)with g|g
    ·have he2:((u+x)%m+(x+x)%m*(y/2))%m=a*b%m:=by
      rw[<-he,kU,hxx,ew,<-kU];have:x*y=x+x*(2*(y/2)):=by
       have:y=1+2*(y/2):=oO
       conv=>lhs;rw[this,jz,dK]
      rw[this];congr 1;omega
     have hgo:=hR ((u+x)%m,(x+x)%m,y/2) ⟨hm1,hm2,by show y/2< _;omega,he2⟩ (by show y/2<y;omega)
     clear he he2 hR hxx;exact zu (aN @hy2 @g) @hgo @a1 @a2
    ·have he2:(u+(x+x)%m*(y/2))%m=a*b%m:=by
      rw[<-he,kU,hxx,<-kU];have:x*y=x*(2*(y/2)):=by congr 1;omega
      rw[this]
     have hgo:=hR (u,(x+x)%m,y/2) ⟨hu,hm2,by show y/2< _;omega,he2⟩ (by show y/2<y;omega)
     clear he he2 hR hxx;exact zu (aN @hy2 @g) @hgo @a1 @a2
theorem Gr {a e m:Nat} (ha:a<m) (he:e<(2^64)) (hm:m<(2^64)):aE 465 [.i .u64 a, .i .u64 e, .i .u64 m] (.i .u64 (a^e%m:Nat)):=by
 have h0:0<m:=oO;have e1:(1:Int).tmod (m:Int)=((1%m:Nat):Int):=rfl;refine eW call465 func465 ?_;refine dY @e1 ?_;refine ak (α:=Nat×Nat×Nat) (fun s=>s.2.2) (fun s=>⟨[(0,U s.2.1),(1,U s.2.2),(2,U m),(7,U s.1)],[],_⟩) (fun s=>s.1<m/\s.2.1<m/\s.2.2<(2^64)/\s.1*s.2.1^s.2.2%m=a^e%m) (1%m,a,e) (fun _=>aD _) ⟨aP _ h0,ha,he,by show 1%m*a^e%m= _;rw[jy,iv]⟩ ?_ ?_
 ·(refine AS.Le.of (by first|decide|omega) ?_ ?_<;>simp[dA,dz,aS,aB,AV.bd,AV.bd.bdL,u8,aq,au,aA])
  all_goals first|rfl|skip
 ·rintro⟨u,x,y⟩ ⟨hu,hx,hy,hq⟩ R hR;simp only at hu hx hy hq
  by_cases h1:y=0
  ·subst h1;rw[Nat.pow_zero,dK,bw hu]at hq;refine vP ?_;rw[hq]
  ·have a1:=rI hu hx hm;have a2:=rI hx hx hm;have hm1:u*x%m<m:=aP _ h0;have hm2:x*x%m<m:=aP _ h0;have hy2:((y:Int)).tmod 2=((y%2:Nat):Int):=rfl;have hyd:y/2<=y:=eT _ _;rcases(show y%2=1\/y%2=0 by omega)with g|g
   ·have hgo:=hR (u*x%m,x*x%m,y/2) ⟨hm1,hm2,by show y/2< _;omega,by show u*x%m*(x*x%m)^(y/2)%m= _;rw[MO g,hq]⟩ (by show y/2<y;omega)
    clear hq hR;exact zu (aN @hy2 @g) @hgo @a1 @a2
   ·have hgo:=hR (u,x*x%m,y/2) ⟨hu,hm2,by show y/2< _;omega,by show u*(x*x%m)^(y/2)%m= _;rw[H6 g,hq]⟩ (by show y/2<y;omega)
    clear hq hR;exact zu (aN @hy2 @g) @hgo @a1 @a2
def R9 (n:Nat):Nat->Nat->Bool
 |0,_=>false
 |r+1,x=>x==n-1||R9 n r (x*x%n)
theorem NQ (n:Nat): ∀r x,R9 n (r+1) x=(x==n-1||Sb r x n)
 |0,x=>rfl
 |r+1,x=>by rw[R9,NQ n r];rfl
theorem Gx {a:Nat} (hn:n<(2^64)) (h3:3<=n) (hodd:n%2=1) (ha:a<n) (ha0:a≠0):aE 397 [.i .u64 n, .i .u64 a] (.b (nB n (Fc 64 (n-1)) ((n-1)/2^Fc 64 (n-1)) a)):=by
 have e1: ∀ _:True,((n:Int)-1)=((n-1:Nat):Int):=fun _=>oO
 have e2:(n:Int).tmod 2=((n%2:Nat):Int):=rfl;obtain⟨T,hT⟩: ∃T,T=Fc 64 (n-1):=⟨_,rfl⟩;rw[<-hT];have hT0:T≠0:=by
  rw[hT];unfold Fc;rw[af oO];omega
 refine eW call397 func397 ?_;repeat' first|simp only[go_sem,seval,e1 oT,e2,hodd]|refine oE ?_|apply xX<;>intro hc
 refine ak (α:=Nat×Nat) (fun s=>s.1) (fun s=>⟨[(0,U n),(1,U a),(5,U s.1),(6,E' s.2)],[],_⟩) (fun s=>0<s.1/\s.1<(2^64)/\s.2<=64/\s.1<2^(64-s.2)/\s.1=(n-1)/2^s.2/\Fc (64-s.2) s.1+s.2=T) (n-1,0) (fun _=>aD _) ⟨by show 0<n-1;omega,by show n-1< _;omega,by show 0<=64;omega,by show n-1<2^64;omega,by show n-1= _;rw[Nat.pow_zero,iq],by rw[hT];rfl⟩ ?_ ?_
 ·exact lE
 ·rintro⟨d,s⟩ ⟨hd0,hd1,hs,hds,hde,ht⟩ R hR;simp only at hd0 hd1 hs hds hde ht;have ed:(d:Int).tmod 2=((d%2:Nat):Int):=rfl;have hs64:s<64:=by
   rcases iN s 64 with g|g
   ·exact g
   ·obtain rfl:s=64:=oO;simp at hds;omega
  obtain⟨f,hf⟩: ∃f,64-s=f+1:=⟨63-s,oO⟩;rw[hf]at hds ht;unfold Fc at ht
  by_cases hev:d%2=0
  ·rw[af oO]at ht;have hdl:d/2<=d:=eT _ _;have hgo:=hR (d/2,s+1) ⟨by show 0<d/2;omega,by show d/2< _;omega,by show s+1<=64;omega,by
    show d/2<2^(64-(s+1));rw[show 64-(s+1)=f by omega];rw[Nat.pow_succ]at hds;omega,by
    show d/2=(n-1)/2^(s+1);rw[Nat.pow_succ,<-eL,<-hde],by
    show Fc (64-(s+1)) (d/2)+(s+1)=T;rw[show 64-(s+1)=f by omega];omega⟩ (by show d/2<d;omega)
   clear hR ht;exact ko (aN @ed @hev) @hgo
  ·have hev:d%2=1:=oO;rw[ah hev,eK]at ht;subst ht;rw[<-hde];have hx:=Gr (a:=a) (e:=d) (m:=n) ha hd1 hn;have es:nB n s d a=(a^d%n==1||R9 n s (a^d%n)):=by
    unfold nB;rw[bw ha];obtain⟨r,hr⟩: ∃r,s=r+1:=⟨s-1,oO⟩;rw[hr,NQ,qu,Bool.or_assoc]
   rw[es];obtain⟨x,hxx⟩: ∃x,x=a^d%n:=⟨_,rfl⟩;have hxl:x<n:=by rw[hxx];exact aP _ oO
   rw[<-hxx]at hx⊢;clear hR es hde hxx
   by_cases hx1:x=1
   ·subst hx1;repeat' first|simp only[go_sem,seval,ed,hev]|refine cP hx ?_|refine oE ?_|apply xX<;>intro hc
    all_goals skip
   have hb1:(x==1)=false:=by simpa using hx1
   have hb2:((x:Int)==1)=false:=by rw[ey];omega
   rw[hb1,jx];refine rU (aN @ed (aN @hev @hb2)) @hx ?_;refine ak (α:=Nat×Nat) (fun s'=>s-s'.1) (fun s'=>⟨[(0,U n),(6,E' s),(7,U s'.2),(8,E' s'.1)],[],_⟩) (fun s'=>s'.1<=s/\s'.2<n/\R9 n (s-s'.1) s'.2=R9 n s x) (0,x) (fun _=>aD _) ⟨aR _,hxl,rfl⟩ ?_ ?_
   ·exact lE
   ·rintro⟨i,z⟩ ⟨hi,hz,hq⟩ R hR;simp only at hi hz hq;rw[<-hq]
    by_cases hlt:i<s
    ·have hmm:=rI hz hz hn;have hzz:z*z%n<n:=aP _ oO;obtain⟨r,hr⟩: ∃r,s-i=r+1:=⟨s-i-1,oO⟩;have hgo:=hR (i+1,z*z%n);rw[hr]at hq⊢;simp only[R9]at hq⊢
     by_cases hzn:z=n-1
     ·have hb: ∀ _:True,((z:Int)==((n-1:Nat):Int))=true:=fun _=>by rw[hzn];simp
      have hb':(z==n-1)=true:=by simpa using hzn
      rw[hb',nk];clear hq hgo hR;exact gU (aN (e1 oT) (hb oT))
     ·have hb: ∀ _:True,((z:Int)==((n-1:Nat):Int))=false:=fun _=>by rw[ey];omega
      have hb':(z==n-1)=false:=by simpa using hzn
      rw[hb',jx]at hq⊢;rw[<-hq]at hgo;have hgo:=hgo ⟨by show i+1<=s;omega,hzz,by show R9 n (s-(i+1)) _= _;rw[show s-(i+1)=r by omega]⟩ (by show s-(i+1)<s-i;omega)
      clear hq hR;exact kp (aN (e1 oT) (hb oT)) @hgo @hmm
    ·obtain rfl:i=s:=oO;rw[gS];exact z0
theorem XC (h:i<12):(List.map (fun n:Nat=>PV.i .u64 (n:Int)) cz).getD i .fn0= .i .u64 (cz.getD i 0:Nat):=by
 have h2:i<cz.length:=h;simp[ca,h2]
theorem QL (hn:n<(2^64)):aE 278 [.i .u64 n] (.b (fL n)):=by
 by_cases h2:n<2
 ·have e:fL n=false:=by simp[fL,h2]
  rw[e];refine eW call278 func278 ?_;exact z0
 obtain⟨B,hB⟩: ∃B,B=List.map (fun n:Nat=>PV.i .u64 (n:Int)) cz:=⟨_,rfl⟩
 have hBl:B.length=12:=by rw[hB];rfl
 have hBe: ∀ _:True,[PV.i .u64 2, .i .u64 3, .i .u64 5, .i .u64 7, .i .u64 11, .i .u64 13, .i .u64 17, .i .u64 19, .i .u64 23, .i .u64 29, .i .u64 31, .i .u64 37]=B:=fun _=>by rw[hB];rfl
 have hBc: ∀x∈B,x.cells.length=1:=by
  rw[hB];intro x hx;obtain⟨c,-,rfl⟩:=cv.1 hx;rfl
 have hBg: ∀{i:Nat},i<12->B.getD i .fn0= .i .u64 (cz.getD i 0:Nat):=fun h=>by rw[hB];exact XC h
 clear hB;refine eW call278 func278 ?_;refine dY (hBe oT) ?_;refine ak (α:=Nat) (fun i=>12-i) (fun i=>⟨[(0,U n),(3, .fs B),(4,E' i)],[],_⟩) (fun i=>i<=12/\cz.find? (fun p=>n%p==0)=(cz.drop i).find? (fun p=>n%p==0)) 0 (fun _=>aD _) ⟨oO,rfl⟩ ?_ ?_
 ·exact lE
 ·rintro i ⟨hi,hf⟩ R hR
  by_cases hlt:i<12
  ·have g1:=hBg hlt;obtain⟨q0,q1⟩:=Pj hlt;rw[Hk hlt]at hf;have hmc: ∀q:Nat,(n:Int).tmod (q:Int)=((n%q:Nat):Int):=fun q=>rfl
   generalize cz.getD i 0=q at*
   by_cases hq:n=q
   ·have hz:(n%q==0)=true:=by rw[hq];simp
    rw[List.find?_cons,hz]at hf;have e:fL n=true:=by
     unfold fL;rw[af h2,hf];simpa using hq
    rw[e];exact gU (aN @hBl (aN @g1 @hmc))
   ·by_cases hz0:n%q=0
    ·have hz:(n%q==0)=true:=by simpa using hz0
     rw[List.find?_cons,hz]at hf;have e:fL n=false:=by
      unfold fL;rw[af h2,hf];simpa using hq
     rw[e];exact gU (aN @hBl (aN @g1 (aN @hmc @hz0)))
    ·have hz:(n%q==0)=false:=by simpa using hz0
     rw[List.find?_cons,hz]at hf;have hgo:=hR (i+1) ⟨oO,hf⟩ oO;exact ko (aN @hBl (aN @g1 @hmc)) @hgo
  ·obtain rfl:i=12:=oO;have hf:cz.find? (fun p=>n%p==0)=none:=hf
   have hnd: ∀q∈cz,n%q≠0:=fun q hq=>by simpa using List.find?_eq_none.1 hf q hq
   have key:fL n=cz.all (nB n (Fc 64 (n-1)) ((n-1)/2^Fc 64 (n-1))):=by
    unfold fL;rw[af h2,hf]
   have h37:37<n:=by
    rcases iN 37 n with g|g
    ·exact g
    ·exfalso
     have: ∀k:Fin 38,2<=k.val-> ∃q∈cz,k.val%q=0:=by decide
     obtain⟨q,hq1,hq2⟩:=this ⟨n,oO⟩ (by show 2<=n;omega)
     exact hnd q hq1 hq2
   have hodd:n%2=1:=by have:=hnd 2 oC;omega
   rw[key];have hst:=fun a (h1:a<38) (h0:a≠0)=>Gx (a:=a) hn oO hodd oO h0
   clear key hf hnd hR;generalize nB n (Fc 64 (n-1)) ((n-1)/2^Fc 64 (n-1))=st at*;refine dY @hBl ?_;refine ak (α:=Nat) (fun i=>12-i) (fun i=>⟨[(0,U n),(3, .fs B),(5,E' i)],[],_⟩) (fun i=>i<=12/\cz.all st=(cz.drop i).all st) 0 (fun _=>aD _) ⟨oO,rfl⟩ ?_ ?_
   ·exact lE
   ·rintro i ⟨hi,hf⟩ R hR
    by_cases hlt:i<12
    ·have g1:=hBg hlt;obtain⟨q0,q1⟩:=Pj hlt;rw[Hk hlt,List.all_cons]at hf;have hR1:=hR (i+1);generalize cz.getD i 0=q at*;have hs:=hst q q1 oO
     cases hsq:st q
     ·rw[hsq]at hs hf;rw[hf,db];exact lF (aN @hBl @g1) @hs
     ·rw[hsq]at hs hf;rw[cj]at hf;have hgo:=hR1 ⟨oO,hf⟩ oO;exact kp (aN @hBl @g1) @hgo @hs
    ·obtain rfl:i=12:=oO;have e:cz.all st=true:=hf;rw[e];exact gU @hBl
theorem Gu (a:Bytes) (la:a.length<1099511627776):aE 146 [.s a] (.tup [.b (aa a&&decide (a.length<=8)&&fL (num a)),E (if aa a then(if a.length<=8 then 0 else 5)else 3)]):=by
 have hf:=Gs a;have hu:=XK a la
 by_cases hv:aa a=true
 ·rw[hv]at hf⊢
  by_cases h8:a.length<=8
  ·have hn:=dO h8;rw[aV h8,bw hn]at hu;have hi:=QL hn;rw[aV h8,ah rfl,ah h8];generalize fL (num a)=b at*;refine eW call146 func146 ?_;exact YM @hf @hu @hi oT
  ·rw[bL h8]at hu⊢;rw[ah rfl,af h8];refine eW call146 func146 ?_;exact Og @hf @hu
 ·have hv:aa a=false:=by simpa using hv
  rw[hv]at hf⊢;refine eW call146 func146 ?_;exact Om @hf
end Go.Proofs.Tryz
namespace Go.Proofs.Tryz
open Go Go.Dom Go.Num
theorem WT {a b:Nat} (h:a<b):decide (aZ a b>=0)=false:=bL (fun g=>by have:=fH.1 g;omega)
theorem WU {a b:Nat} (h:b<=a):decide (aZ a b>=0)=true:=aV (fH.2 h)
theorem Z7 (a b:Nat):decide (aZ a b<0)=decide (a<b):=by rw[dk];simp only[bM];exact fy
theorem AP (m o:Bytes):aE 354 [G m o] (.b (aa m&&aa o)):=by
 have v1:=aI m;have v2:=aI o;refine eW call354 func354 ?_;exact Og @v1 @v2
theorem Cb {m o:Bytes} (vm:aa m=true) (vo:aa o=true) (h0:0<num o):aE 355 [G m o] (.b (!(m==[])&&decide ((num m-1)%num o=0))):=by
 have lm:=dD vm;have lo:=dD vo
 by_cases hm:m=[]
 ·subst hm;refine eW call355 func355 ?_;exact gU @nn
 have hb:(m==([]:Bytes))=false:=by simpa using hm
 have hp:=mR (bG vm) hm;have h1:=lL m [1] oO oC hp;rw[show num ([1]:Bytes)=1 from rfl]at h1
 have h2:=pQ (a:=bR (num m-1)) (b:=o) (fF _) (bG vo) h0 (by
  have:(bR (num m-1)).length<=128:=kZ.2 (by have:=ov vm;unfold dC;omega)
  omega) oO
 rw[aY]at h2;have hz: ∀ _:True,(bR ((num m-1)%num o)==([]:Bytes))=decide ((num m-1)%num o=0):=fun _=>by
  rw[dk];simp[gA]
 rw[hb];refine eW call355 func355 ?_;repeat' first|simp only[go_sem,seval,hb,hz oT]|refine cP h1 ?_|refine cP h2 ?_|refine oE ?_|apply xX<;>intro hc
 all_goals simp
theorem Gn (m o:Bytes):aE 223 [G m o] (E (tP m o)):=by
 have hf:=AP m o
 by_cases hv:aa m=true/\aa o=true
 case neg=>
  have e:(aa m&&aa o)=false:=by rw[dy];intro g;simp at g;exact hv g
  rw[e]at hf;have e2:tP m o=3:=by simp[tP,e]
  rw[e2];refine eW call223 func223 ?_;exact z1 @hf
 obtain⟨v1,v2⟩:=hv;have lm:=dD v1;have lo:=dD v2;have hm:=Gu m oO;have ho:=Gu o oO;rw[v1,v2]at hf;rw[v1]at hm;rw[v2]at ho;simp only[cj,az]at hm ho
 by_cases l1:m.length<=8
 case neg=>
  have e2:tP m o=5:=by simp[tP,v1,v2];intro g;omega
  rw[e2];refine eW call223 func223 ?_;exact z1 @hf
 rw[aV l1,ah l1,cj]at hm
 by_cases p1:fL (num m)=true
 case neg=>
  have p1:fL (num m)=false:=by simpa using p1
  have e2:tP m o=12:=by simp[tP,v1,v2,p1,l1]
  rw[p1]at hm;rw[e2];refine eW call223 func223 ?_;exact z2 @hf @hm
 rw[p1]at hm
 by_cases l2:o.length<=8
 case neg=>
  have e2:tP m o=13:=by simp[tP,v1,v2,p1,show¬8<m.length by omega,show 8<o.length by omega]
  rw[e2];refine eW call223 func223 ?_;exact z2 @hf @hm
 rw[aV l2,ah l2,cj]at ho
 by_cases p2:fL (num o)=true
 case neg=>
  have p2:fL (num o)=false:=by simpa using p2
  have e2:tP m o=12:=by simp[tP,v1,v2,p1,p2,show¬8<m.length by omega,show¬8<o.length by omega]
  rw[p2]at ho;rw[e2];refine eW call223 func223 ?_;exact z4 @hf @hm @ho oT
 rw[p2]at ho;have h2:2<=num m:=by rcases iN (num m) 2 with g|g;simp[fL,g]at p1;exact g
 have h3:2<=num o:=by rcases iN (num o) 2 with g|g;simp[fL,g]at p2;exact g
 have hd:=Cb v1 v2 oO;have hb:(m==([]:Bytes))=false:=by simp;intro e;subst e;simp[num]at h2
 rw[hb]at hd;have e2:tP m o=if(num m-1)%num o=0 then 0 else 13:=by simp[tP,v1,v2,p1,p2,show¬8<m.length by omega,show¬8<o.length by omega]
 rw[e2];generalize (num m-1)%num o=z at*;refine eW call223 func223 ?_;exact YM @hf @hm @ho @hd
theorem Ez {m:Bytes} (lm:m.length<=8) (o x:Bytes):aE 233 [G m o, .s x] (.b (gW m o x)):=by
 have hf:=AP m o;have vx:=aI x
 by_cases h:aa m=true/\aa o=true/\aa x=true/\o≠[]/\x≠[]
 ·obtain⟨v1,v2,v3,h4,h5⟩:=h;have e4:(o==([]:Bytes))=false:=by simpa using h4
  have e5:(x==([]:Bytes))=false:=by simpa using h5
  have hn:=dO lm;have lx:=dD v3;have hor:=fZ (bG v3) (bG v1) oO oO;rw[v1,v2]at hf;rw[v3]at vx;have hx0:=mR (bG v3) h5
  by_cases h6:num x<num m
  ·have hE:=XF (a:=num x) (m:=num m) (e:=o) oO v2 hn oO;rw[dZ v3,dZ v1]at hE;have hlt: ∀ _:True,decide (aZ (num x) (num m)>=0)=false:=fun _=>WT oO
   have e:gW m o x=decide (num x^num o%num m=1):=by simp[gW,v1,v2,v3,e4,e5,h6,bw (show 1<num m by omega)]
   rw[e];generalize num x^num o%num m=z1 at*;refine eW call233 func233 ?_;exact zB (aN @e4 (aN @e5 (aN (hlt oT) @MI))) @hf @vx @hor @hE
  ·have hlt: ∀ _:True,decide (aZ (num x) (num m)>=0)=true:=fun _=>WU oO
   have e:gW m o x=false:=by simp[gW,h6]
   rw[e];refine eW call233 func233 ?_;exact zB (aN @e4 (aN @e5 (hlt oT))) @hf @vx @hor oT
 ·have e:gW m o x=false:=by
   rw[dy];intro g;simp[gW]at g;exact h ⟨g.1.1.1.1.1.1,g.1.1.1.1.1.2,g.1.1.1.1.2,g.1.1.1.2,g.1.1.2⟩
  rw[e]
  by_cases hmo:(aa m&&aa o)=true
  case neg=>
   have hmo:(aa m&&aa o)=false:=by simpa using hmo
   rw[hmo]at hf;refine eW call233 func233 ?_;exact z2 @hf @vx
  rw[hmo]at hf
  by_cases v3:aa x=true
  case neg=>
   have v3:aa x=false:=by simpa using v3
   rw[v3]at vx;refine eW call233 func233 ?_;exact z2 @hf @vx
  rw[v3]at vx
  by_cases h4:o=[]
  ·subst h4;refine eW call233 func233 ?_;exact zA @nn @hf @vx
  ·have e4:(o==([]:Bytes))=false:=by simpa using h4
   by_cases h5:x=[]
   ·subst h5;refine eW call233 func233 ?_;exact zA (aN @nn @e4) @hf @vx
   ·simp only[ba]at hmo;exact aM ⟨hmo.1,hmo.2,v3,h4,h5⟩ h
theorem Ey {m:Bytes} (lm:m.length<=8) (o x:Bytes):aE 224 [G m o, .s x] (.b (gW m o x&& !(x==[1]))):=by
 have h:=Ez lm o x;generalize gW m o x=z at*;refine eW call224 func224 ?_;exact Om @h
theorem XI:aE 68 [.i .u64 8] (.s [8]):=jS 8 oC
theorem RZ:aE 68 [.i .u64 1] (.s [1]):=jS 1 oC
theorem ZP:aE 68 [.i .u64 2] (.s [2]):=jS 2 oC
theorem Gl (m o:Bytes):aE 444 [G m o] (.b (eA m o)):=by
 have hv:=aI m
 by_cases h:aa m=true
 ·have hb:=Cc h 0 oC;have hcm:=jq m [8];rw[h]at hv;rw[h,show aa [8]=true from rfl,show num [8]=8 from rfl]at hcm
  have he:aZ (num m) 8>0↔8<num m:=by unfold aZ;split<;>(try split)<;>omega
  have h8:=XI;refine eW call444 func444 ?_;repeat' first|simp only[go_sem,seval]|refine cP hv ?_|refine cP hb ?_|refine cP h8 ?_|refine cP hcm ?_|refine oE ?_|apply xX<;>intro hc
  all_goals simp_all[eA]
 ·have h:aa m=false:=by simpa using h
  rw[h]at hv;have e:eA m o=false:=by simp[eA,h]
  rw[e];refine eW call444 func444 ?_;exact z1 @hv
theorem J2 {m:Bytes} (lm:m.length<=8) (o x:Bytes):aE 358 [G m o, .s x] (.b (dx m o x)):=by
 have hg:=Gl m o;have hv:=aI x;have h1':=RZ
 by_cases h:eA m o=true/\aa x=true/\x≠[]/\num x<num m
 ·obtain⟨h1,h2,h3,h4⟩:=h;have hm:aa m=true:=by simp[eA]at h1;exact h1.1.1.1
  have hcm:=jq x m;rw[h2,hm]at hcm;simp only[cX,az]at hcm;have hgc:=QK h2 hm;rw[h1]at hg;rw[h2]at hv;have hx:(x==([]:Bytes))=false:=by simpa using h3
  have hlt: ∀ _:True,decide (aZ (num x) (num m)>=0)=false:=fun _=>WT oO
  have e:dx m o x=decide (Nat.gcd (num x) (num m)=1):=by simp[dx,h1,h2,hx,h4]
  rw[e];refine eW call358 func358 ?_;repeat' first|simp only[go_sem,seval,hx,hlt oT,MI]|refine cP hg ?_|refine cP hv ?_|refine cP hcm ?_|refine cP hgc ?_|refine cP h1' ?_|refine oE ?_|apply xX<;>intro hc
  all_goals first|rfl|simp|skip
 ·have e:dx m o x=false:=by
   rw[dy];intro g;simp[dx]at g;exact h ⟨g.1.1.1.1,g.1.1.1.2,g.1.1.2,g.1.2⟩
  rw[e]
  by_cases h1:eA m o=true
  case neg=>
   have h1:eA m o=false:=by simpa using h1
   rw[h1]at hg;refine eW call358 func358 ?_;exact z2 @hg @hv
  have hm:aa m=true:=by simp[eA]at h1;exact h1.1.1.1
  rw[h1]at hg
  by_cases h2:aa x=true
  case neg=>
   have h2:aa x=false:=by simpa using h2
   rw[h2]at hv;refine eW call358 func358 ?_;exact z2 @hg @hv
  rw[h2]at hv
  by_cases h3:x=[]
  ·subst h3;refine eW call358 func358 ?_;exact zA @nn @hg @hv
  have hx:(x==([]:Bytes))=false:=by simpa using h3
  have hcm:=jq x m;rw[h2,hm]at hcm;simp only[cX,az]at hcm;have hlt: ∀ _:True,decide (aZ (num x) (num m)>=0)=true:=fun _=>WU (by by_cases g:num m<=num x;exact g;exact aM ⟨h1,h2,h3,oO⟩ h)
  refine eW call358 func358 ?_;exact zB (aN @hx (hlt oT)) @hg @hv @hcm oT
theorem yK {m:Bytes} (lm:m.length<=8) (o x:Bytes):aE 227 [G m o, .s x] (.b (dx m o x&& !(x==[1]))):=by
 have h:=J2 lm o x;have h1':=RZ;generalize dx m o x=z at*;refine eW call227 func227 ?_;exact Og @h @h1'
theorem eH {x y:Bytes} (h:aa x=true) (g:aa y=true):aE 226 [.s x, .s y] (.b (decide (num x<num y))):=by
 have hc:=jq x y;rw[h,g]at hc;simp only[cX,az]at hc;have e: ∀ _:True,decide (aZ (num x) (num y)<0)=decide (num x<num y):=fun _=>Z7 _ _
 refine eW call226 func226 ?_;exact lF (e oT) @hc
theorem Vj (p:cq) (h:p.eP.all aa=false):aE 106 [p.pv] (E 3):=by
 have hn:=xl p;obtain⟨c,sl,mm,mo,mg,mh,wm,wo,wg,wh,se,at',ha,el,es,bl,ma⟩:=p;unfold cq.pv cq.eP cq.H0 at*;simp only[bV,bj]at*;refine eW call106 func106 ?_;repeat' first|simp only[go_sem,seval,gg,gi]|refine cP hn ?_|refine cP (aI _) ?_|(refine aj ?_)|refine oE ?_|apply xX<;>intro hc
 all_goals (exfalso;simp_all)
theorem QI (p:cq) (h:p.eP.all aa=true) (hs:p.short):aE 106 [p.pv] (E (eQ p)):=by
 have hn:=xl p;have lw:p.wm.length<=8:=hs _ (by simp[cq.eP])
 have lm:p.mm.length<=8:=hs _ (by simp[cq.eP])
 have la:p.at'.length<=8:=hs _ (by simp[cq.eP])
 have u1:=yK lw p.wo p.wg;have u2:=yK lw p.wo p.wh;have c1:=Gn p.mm p.mo;have c2:=Ey lm p.mo p.mg;have c3:=Ey lm p.mo p.mh;have hoE:p.mo=[]->tP p.mm p.mo≠0:=by
  intro e;rw[e];unfold tP
  split<;>(try split)<;>(try split)<;>simp_all[fL,num]
 have hwr: ∀x,(p.wo≠[]\/(num p.wm).testBit 0=false\/ ¬8<num p.wm)->(dx p.wm p.wo x&& !(x==[1]))=false:=by
  intro x hx;rw[dy];intro g;simp only[dx,eA,ba,fV,bM]at g;rcases hx with h1|h1|h1
  ·exact h1 g.1.1.1.1.1.1.1.2
  ·rw[h1]at g;exact aM g.1.1.1.1.1.1.2 (by simp)
  ·exact h1 g.1.1.1.1.1.2
 have hw1:=hwr p.wg;have hw2:=hwr p.wh;clear hwr;unfold eQ;rw[h];generalize (dx p.wm p.wo p.wg&& !(p.wg==[1]))=b1 at*;generalize (dx p.wm p.wo p.wh&& !(p.wh==[1]))=b2 at*;generalize (gW p.mm p.mo p.mg&& !(p.mg==[1]))=b3 at*;generalize (gW p.mm p.mo p.mh&& !(p.mh==[1]))=b4 at*;generalize tP p.mm p.mo=e1 at*;clear hs;obtain⟨c,sl,mm,mo,mg,mh,wm,wo,wg,wh,se,at',ha,el,es,bl,ma⟩:=p;unfold cq.pv cq.eP cq.zX cq.H0 at*;simp only[bV,bj,List.all_cons,List.all_nil,ba,gj]at*;obtain⟨h1,h2,h3,h4,h5,h6,h7,h8,h9,h10,h11,h12,h13,h14,h15,h16,h17⟩:=h;have v1:=aI c;have v2:=aI sl;have v3:=aI se;have v4:=aI at';have v5:=aI ha;have v6:=aI el;have v7:=aI es;have v8:=aI bl;have v9:=aI ma;have v10:=aI mm;have v11:=aI mo;have v12:=aI mg;have v13:=aI mh;have v14:=aI wm;have v15:=aI wo;have v16:=aI wg;have v17:=aI wh;rw[h1]at v1;rw[h2]at v2;rw[h3]at v3;rw[h4]at v4;rw[h5]at v5;rw[h6]at v6;rw[h7]at v7;rw[h8]at v8;rw[h9]at v9;rw[h10]at v10;rw[h11]at v11;rw[h12]at v12;rw[h13]at v13;rw[h14]at v14;rw[h15]at v15;rw[h16]at v16;rw[h17]at v17;have z2:aa [2]=true:=rfl;have z8:aa [8]=true:=rfl;have d1:=eH h1 z2;have d2:=eH h2 z2;have d3:=eH h3 z2;have d4:=eH h4 z2;have d5:=eH h5 z2;have d6:=eH h6 z2;have d7:=eH h7 z2;have d8:=eH h8 z2;have d9:=eH h9 z2;rw[show num ([2]:Bytes)=2 from rfl]at d1 d2 d3 d4 d5 d6 d7 d8 d9
 have d10:=eH z8 h14;rw[show num ([8]:Bytes)=8 from rfl]at d10
 have hm8:aE 228 [.s [8], .s at'] (.tup [N (num at'*8),E 0]):=by
  have:=Ig [8] at';have hl:8*num at'<dC:=b9 (show 8*num at'<(2^64)*8 by have:=dO la;omega) (by unfold dC;decide+kernel)
  rw[bU (num at')];simpa only[ny,h4,show aa [8]=true from rfl,cX,az,show num [8]=8 from rfl,hl]using this
 have hv8:aa (bR (num at'*8))=true:=jY (b9 (show num at'*8<(2^64)*8 by have:=dO la;omega) (by decide+kernel))
 have f1:=eH h11 hv8;rw[aY]at f1;have f2:=eH h11 h1;have f3:=eH h11 h3;have tb:=Cc h14 0 oC;have o8:=XI;have o2:=ZP;generalize (num wm).testBit 0=t0 at*;generalize num at'*8=t8 at*;clear hv8 h1 h2 h3 h4 h5 h6 h7 h8 h9 h10 h11 h12 h13 h14 h15 h16 h17 z2 z8;refine eW call106 func106 ?_;repeat' first|simp only[go_sem,seval,gg,gi]|refine cP hn ?_|refine cP v1 ?_|refine cP v2 ?_|refine cP v3 ?_|refine cP v4 ?_|refine cP v5 ?_|refine cP v6 ?_|refine cP v7 ?_|refine cP v8 ?_|refine cP v9 ?_|refine cP v10 ?_|refine cP v11 ?_|refine cP v12 ?_|refine cP v13 ?_|refine cP v14 ?_|refine cP v15 ?_|refine cP v16 ?_|refine cP v17 ?_|refine cP o8 ?_|refine cP o2 ?_|refine cP c1 ?_|refine cP c2 ?_|refine cP c3 ?_|refine cP u1 ?_|refine cP u2 ?_|refine cP d1 ?_|refine cP d2 ?_|refine cP d3 ?_|refine cP d4 ?_|refine cP d5 ?_|refine cP d6 ?_|refine cP d7 ?_|refine cP d8 ?_|refine cP d9 ?_|refine cP d10 ?_|refine cP hm8 ?_|refine cP f1 ?_|refine cP f2 ?_|refine cP f3 ?_|refine cP tb ?_|(refine aj ?_)|refine oE ?_|apply xX<;>intro hc
 all_goals clear hn u1 u2 c1 c2 c3 v1 v2 v3 v4 v5 v6 v7 v8 v9 v10 v11 v12 v13 v14 v15 v16 v17 d1 d2 d3 d4 d5 d6 d7 d8 d9 d10 hm8 f1 f2 f3 tb o8 o2
 all_goals first|(simp_all;done)|(simp_all;omega)|skip
theorem pN (p:cq) (hs:p.short):aE 106 [p.pv] (E (eQ p)):=by
 by_cases h:p.eP.all aa=true
 ·exact QI p h hs
 ·have h:p.eP.all aa=false:=by simpa using h
  have e:eQ p=3:=by unfold eQ;rw[h];rfl
  rw[e];exact Vj p h
end Go.Proofs.Tryz
namespace Go.Proofs.Tryz
open Go Go.Dom Go.Num
end Go.Proofs.Tryz
namespace Go.Proofs.Tryz
open Go Go.Dom Go.Num
def Tr:Bytes:=[98,97,110,107]
def K0:Key:=⟨Tr,[77],[],[],[4],[[],[]],[],[]⟩
def K1:Key:=⟨Tr,[77],[],[64],[4],[[23],[1]],[16],[60]⟩
abbrev Kf:aH:=⟨0,[.v (.s []), .v (.s [])],false,none⟩
def K2:Key:=⟨Tr,[77],[],[64],[4],[[23],[1]],[64],[60]⟩
