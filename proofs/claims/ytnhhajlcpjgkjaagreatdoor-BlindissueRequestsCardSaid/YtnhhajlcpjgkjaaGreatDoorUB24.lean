/- Part of the proof. -/
import Derived.Test.YtnhhajlcpjgkjaaGreatDoorUB23
set_option linter.all false
set_option maxHeartbeats 16000000
set_option maxRecDepth 100000
namespace Go.Proofs.Tryz
open Go Go.Dom Go.Num
theorem EN (k:Key):aE 82 [k.pv] (.fc 174 [] [.pt k.pv 0]):=by
 unfold Key.pv;refine eW call82 func82 ?_;exact z0
def GL:List PV->Bytes
 |[_, .s b]=>b
 | _=>[]
def YM:List PV->Int
 |[.i _ n,_]=>n
 | _=>0
theorem sB (k:Key): ∀y∈k.jt,∃n b,y=tw n b:=by
 intro y hy;simp only[Key.jt,cu,cE]at hy;rcases hy with rfl|rfl|rfl|rfl|⟨b,-,rfl⟩<;>exact⟨_,_,rfl⟩
theorem BC (k:Key): ∀y∈k.jt,y.length=2:=by
 intro y hy;obtain⟨n,b,rfl⟩:=sB k y hy;rfl
def sM (m:Bytes) (y:List PV):Bool:= !dK m [] (GL y)||(YM y==2&&(GL y==[1]))
def fb (pe:Int) (k:Key):Int:=if pe≠0 then pe else if !(aa k.m&&aa k.o)then 3 else if !(k.jt.all fun y=>aa (GL y))then 3 else if !mP k.name then 1
 else if !(k.o==[])||decide (B7 k.m≠0)then 13 else if k.r.length<2\/k.r.length>18 then 6 else if k.jt.any (sM k.m)then 13 else 0
theorem Iv {α:Type} {p:α->Bool} {l a:List α} {y:α} {ys:List α} (h:l=a++y::ys) (hy:p y=true):l.any p=true:=by
 rw[h];simp[hy]
theorem EJ {α:Type} {p:α->Bool} {a:List α} {y:α} (h:a.any p=false) (hy:p y=false):(a++[y]).any p=false:=by simp[h,hy]
theorem QU {α:Type} {p:α->Bool} {l a:List α} {y:α} {ys:List α} (h:l=a++y::ys) (hy:p y=false):l.all p=false:=by
 rw[h];simp[hy]
theorem Mm {α:Type} {p:α->Bool} {a:List α} {y:α} (h:a.all p=true) (hy:p y=true):(a++[y]).all p=true:=by rw[List.all_append,h];simp[hy]
theorem zL {α:Type} {l a:List α} {y:α} {ys:List α} (h:l=a++y::ys):l=(a++[y])++ys:=by rw[h];simp
theorem lF (p:cA) (k:Key) (pe:Int) (hp:aE 81 [p.pv] (E pe)) (lm:k.m.length<=8) (ln:k.name.length<=60) (lr:k.r.length<=20):aE 29 [p.pv,k.pv] (E (fb pe k)):=by
 have v1:=aI k.m;have v2:=aI k.o;have hb:=EN k;have hnm:=KN k.name ln;have hpw:=sR k.m;have hit:=EM k oO;have hbl:=BC k;have hbf:=sB k;have hhas:=Ah lm;have hE: ∀e,fb pe k=e->aE 29 [p.pv,k.pv] (E e)->aE 29 [p.pv,k.pv] (E (fb pe k)):=fun e h g=>by rw[h];exact g
 by_cases h0:pe=0
 case neg=>
  refine hE pe (by simp[fb,h0]) ?_
  unfold cA.pv Key.pv at*;refine eW call29 func29 ?_;exact z1 @hp
 subst h0
 by_cases hv:aa k.m=true/\aa k.o=true
 case neg=>
  refine hE 3 (by
   have:(aa k.m&&aa k.o)=false:=by (rw[dn];intro g;simp at g;exact hv g)
   simp[fb,this]) ?_
  generalize aa k.m=b1 at*;generalize aa k.o=b2 at*;unfold cA.pv Key.pv at*;refine eW call29 func29 ?_;exact zs4 @hp @v1 @v2 oT
 obtain⟨hm,ho⟩:=hv;rw[hm]at v1;rw[ho]at v2;clear hE;unfold fb;rw[hm,ho,af (by simp),af (by simp)]
 unfold cA.pv at*;have hkp:k.pv= .agg [.s k.name, .s k.m, .s k.o, .s k.z, .s k.s, .sl (k.r.map .s), .s k.u, .s k.h]:=rfl;rw[hkp]at hb hit⊢;clear hkp;generalize k.jt=bs at*;obtain⟨name,m,o,z,s,r,u,h⟩:=k;simp only at*;refine eW call29 func29 ?_;repeat' first|simp only[go_sem,seval]|refine cP hp ?_|refine cP v1 ?_|refine cP v2 ?_|refine cP hb ?_|(refine yF hit rfl hbl ?_)|refine oE ?_|apply xX<;>intro hc
 refine Dv (α:=Unit) (fun _=>⟨[(3, .p 1001 0 0),(4, .p 1002 0 0)],[(1001,⟨0,[.v (.s name), .v (.s m), .v (.s o), .v (.s z), .v (.s s), .v (.sl (r.map .s)), .v (.s u), .v (.s h)],false,none⟩),(1002,⟨0,[.v (E 0)],false,some 53⟩)],_⟩) (fun ys _=> ∃pre,bs=pre++ys/\pre.all (fun y=>aa (GL y))=true) () (fun _=>aD _) ⟨[],rfl,rfl⟩ ?_ ?_ ?_
 ·exact lE
 ·rintro-⟨pre,hpre,hall⟩;rw[iM]at hpre;subst hpre;rw[hall,af (by simp)]
  by_cases hn:mP name=true
  case neg=>
   have hn:mP name=false:=by simpa using hn
   rw[hn]at hnm⊢;exact z1 @hnm
  rw[hn]at hnm⊢;rw[af (by simp)]
  by_cases h1:o=[]
  case neg=>
   have h1:(o==([]:Bytes))=false:=by simpa using h1
   rw[h1,ah (by simp)]
   have h1':(o !=([]:Bytes))=true:=by simp[bne,h1]
   exact jE (aN @h1 @h1') @hnm
  subst h1;rw[nn]
  by_cases h2:B7 m=0
  case neg=>
   rw[ah (by simp[h2])]
   repeat' first|simp only[go_sem,seval,nn]|refine cP hnm ?_|refine cP hpw ?_|refine oE ?_|apply xX<;>intro hc
   all_goals first|(exact aP (by assumption) h2)|skip
  rw[h2]at hpw;rw[af (by simp[h2])]
  by_cases h3:r.length<2\/r.length>18
  case pos=>
   rw[ah h3];exact xi @nn @hnm @hpw
  rw[af h3];repeat' first|simp only[go_sem,seval,nn]|refine cP hnm ?_|refine cP hpw ?_|refine cP hb ?_|(refine yF hit rfl hbl ?_)|refine oE ?_|apply xX<;>intro hc
  refine Dv (α:=Unit) (fun _=>⟨[(3, .p 1001 0 0),(4, .p 1002 0 0)],[(1001,⟨0,[.v (.s name), .v (.s m), .v (.s []), .v (.s z), .v (.s s), .v (.sl (r.map .s)), .v (.s u), .v (.s h)],false,none⟩),(1002,⟨0,[.v (E 0)],false,some 53⟩)],_⟩) (fun ys _=> ∃pre,bs=pre++ys/\pre.any (sM m)=false) () (fun _=>aD _) ⟨[],rfl,rfl⟩ ?_ ?_ ?_
  ·exact lE
  ·rintro-⟨pre,hpre,hany⟩;rw[iM]at hpre;subst hpre;rw[hany,af (by simp)]
   exact z0
  ·rintro y ys-⟨pre,hpre,hany⟩ R hR;obtain⟨n,b,rfl⟩:=hbf y (by rw[hpre];simp)
   have hb1:=hhas b;have hbd:sM m (tw n b)=true->bs.any (sM m)=true:=Iv hpre;have hgo:sM m (tw n b)=false-> ∀s',_->R s':=fun g=>hR () ⟨_,zL hpre,EJ hany g⟩
   have e1:sM m (tw n b)=(!dK m [] b||(n==2&&(b==[1]))):=rfl;rw[e1]at hbd hgo;clear e1 hR;generalize dK m [] b=b1 at*;repeat' first|simp only[go_sem,seval,tw]|refine cP hb1 ?_|refine cP yN ?_|refine oE ?_|apply xX<;>intro hc
   all_goals first
    |(rw[hbd (by simp_all),ah rfl];done)
    |(refine hgo (by simp_all) _ ?_;(refine AS.Le.of (by first|decide|omega) ?_ ?_<;>simp[dw,du,aS,aC,AV.bd,AV.bd.bdL,u8,an,ar,aA]);done)
    |fail
 ·rintro y ys-⟨pre,hpre,hall⟩ R hR;obtain⟨n,b,rfl⟩:=hbf y (by rw[hpre];simp)
  have vb:=aI b;have hbd:aa b=false->bs.all (fun y=>aa (GL y))=false:=QU (p:=fun y=>aa (GL y)) hpre
  have hgo:aa b=true-> ∀s',_->R s':=fun g=>hR () ⟨_,zL hpre,Mm (p:=fun y=>aa (GL y)) hall g⟩
  generalize aa b=b1 at*;repeat' first|simp only[go_sem,seval,tw]|refine cP vb ?_|refine oE ?_|apply xX<;>intro hc
  all_goals first
   |(rw[hbd (by simp_all),ah (by simp)];done)
   |(refine hgo (by simp_all) _ ?_;(refine AS.Le.of (by first|decide|omega) ?_ ?_<;>simp[dw,du,aS,aC,AV.bd,AV.bd.bdL,u8,an,ar,aA]);done)
   |fail
def KD (m o p q:Bytes) (y:List PV):Bool:= !(decide (EA m o p q (GL y)=0)&&(if YM y==0 then S8 p q (GL y)else Nz p q (GL y)))||decide (EA m o p q (GL y)≠0)
def No (ke:Int) (k:Key) (p q:Bytes):Int:=if ke≠0 then ke else if jM k.m k.o p q≠0 then jM k.m k.o p q else if k.jt.any (KD k.m k.o p q)then 13 else 0
theorem Qw (pa:cA) (k:Key) (p q:Bytes) (ke:Int) (hk:aE 29 [pa.pv,k.pv] (E ke)) (lm:k.m.length<=8) (lr:k.r.length<=20):aE 71 [pa.pv,k.pv,G p q] (E (No ke k p q)):=by
 have hb:=EN k;have hit:=EM k oO;have hbl:=BC k;have hbf:=sB k;have hrc:=Cd k.m k.o p q;have hsq:=EE lm k.o p q;have hge:=yK lm k.o p q;unfold No;unfold cA.pv at*;have hkp:k.pv= .agg [.s k.name, .s k.m, .s k.o, .s k.z, .s k.s, .sl (k.r.map .s), .s k.u, .s k.h]:=rfl;rw[hkp]at hb hit hk⊢;clear hkp;generalize k.jt=bs at*;obtain⟨name,m,o,z,s,r,u,h⟩:=k;simp only at*
 by_cases h0:ke=0
 case neg=>
  rw[ah h0];refine eW call71 func71 ?_;exact z1 @hk
 subst h0;rw[af (by simp)]
 by_cases h1:jM m o p q=0
 case neg=>
  rw[ah h1];generalize jM m o p q=ce at*;refine eW call71 func71 ?_;exact z2 @hk @hrc
 rw[af (by simp[h1])]
 rw[h1]at hrc;refine eW call71 func71 ?_;repeat' first|simp only[go_sem,seval]|refine cP hk ?_|refine cP hrc ?_|refine cP hb ?_|(refine yF hit rfl hbl ?_)|refine oE ?_|apply xX<;>intro hc
 refine Dv (α:=Unit) (fun _=>⟨[(4, .p 1001 0 0),(5, .p 1002 0 0),(6, .p 1003 0 0)],[(1001,⟨0,[.v (.s name), .v (.s m), .v (.s o), .v (.s z), .v (.s s), .v (.sl (r.map .s)), .v (.s u), .v (.s h)],false,none⟩),(1002,⟨0,[.v (.s p), .v (.s q)],false,none⟩),(1003,⟨0,[.v (E 0)],false,some 53⟩)],_⟩) (fun ys _=> ∃pre,bs=pre++ys/\pre.any (KD m o p q)=false) () (fun _=>aD _) ⟨[],rfl,rfl⟩ ?_ ?_ ?_
 ·exact lE
 ·rintro-⟨pre,hpre,hany⟩;rw[iM]at hpre;subst hpre;rw[hany,af (by simp)]
  exact z0
 ·rintro y ys-⟨pre,hpre,hany⟩ R hR;obtain⟨n,b,rfl⟩:=hbf y (by rw[hpre];simp)
  have hs:=hsq b;have hg:=hge b;have hbd:KD m o p q (tw n b)=true->bs.any (KD m o p q)=true:=Iv hpre;have hgo:KD m o p q (tw n b)=false-> ∀s',_->R s':=fun g=>hR () ⟨_,zL hpre,EJ hany g⟩
  have e1:KD m o p q (tw n b)=(!(decide (EA m o p q b=0)&&(if n==0 then S8 p q b else Nz p q b))||decide (EA m o p q b≠0)):=rfl
  rw[e1]at hbd hgo;clear e1 hR hsq hge;generalize S8 p q b=b1 at*;generalize Nz p q b=b2 at*;generalize EA m o p q b=ee at*;repeat' first|simp only[go_sem,seval,tw]|refine cP hs ?_|refine cP hg ?_|refine oE ?_|apply xX<;>intro hc
  all_goals first
   |(rw[hbd (by clear hbd hgo;rcases Classical.em (ee=0)with he|he<;>simp_all),ah rfl];done)
   |(refine hgo (by clear hbd hgo;rcases Classical.em (ee=0)with he|he<;>simp_all) _ ?_;(refine AS.Le.of (by first|decide|omega) ?_ ?_<;>simp[dw,du,aS,aC,AV.bd,AV.bd.bdL,u8,an,ar,aA]);done)
   |skip
theorem gU {l:List Bytes} {x:Nat} (h:x<l.length):(l.map PV.s).getD x .fn0= .s (l.getD x []):=by
 simp[b9,h]
theorem gA {l:List Bytes} {y:PV} (h:y∈l.map PV.s):y.cells.length=1:=by
 obtain⟨c,_,rfl⟩:=cE.1 h;rfl
def eK {α:Type} (p:α->Bool):Nat->List α->Int
 | _,[]=> -1
 |k,x::r=>if p x then(k:Int)else eK p (k+1) r
theorem iY {α:Type} {p:α->Bool}: ∀{l:List α} {k:Nat},0<=eK p k l↔l.any p=true
 |[],k=>by simp[eK]
 |x::r,k=>by
  simp only[eK,List.any_cons];split
  ·rename_i h;simp[h]
  ·rename_i h;simp only[DV]at h;rw[iY,h,jX]
theorem drop_cons {l:List Bytes} {i:Nat} (h:i<l.length):l.drop i=l.getD i []::l.drop (i+1):=by
 rw[jQ h,b9,cb h];rfl
theorem AZ (l:List Bytes) (f:FuncId) (p:Bytes->Bool) (hl:l.length<4611686018427387904) (h: ∀x,aE f [.s x] (.b (p x))):aE 268 [.sl (l.map .s), .fn (.func f)] (E (eK p 0 l)):=by
 refine eW call268 func268 ?_;refine qi ?_;refine ak (α:=Nat) (fun i=>l.length-i) (fun i=>⟨[(0, .v (.sl (l.map .s))),(1, .v (.fn (.func f))),(7, .v (.i .i64 l.length)),(8, .v (.i .i64 (i:Nat)))],[],_⟩) (fun i=>i<=l.length/\eK p i (l.drop i)=eK p 0 l) 0 (fun _=>aD _) ⟨aO _,rfl⟩ ?_ ?_
 ·exact lE
 ·rintro i ⟨hi,hx⟩ R hR;rw[<-hx]
  by_cases hlt:i<l.length
  ·have e1:=gU hlt;have hf:=h (l.getD i []);have hgo:=hR (i+1);rw[<-hx,drop_cons hlt]at hgo;rw[drop_cons hlt];simp only[eK]at hgo⊢;clear hx hR h;generalize p (l.getD i [])=b at*;repeat' first|simp only[go_sem,seval,e1]|refine cP hf ?_|refine oE ?_|apply xX<;>intro hc
   all_goals first
    |(refine hgo ⟨oO,by simp_all⟩ oO _ ?_;(refine AS.Le.of (by first|decide|omega) ?_ ?_<;>simp[dw,du,aS,aC,AV.bd,AV.bd.bdL,u8,an,ar,aA]);done)
    |(simp_all;done)
    |skip
  ·obtain rfl:i=l.length:=oO;rw[dj];repeat' first|simp only[go_sem,seval]|refine oE ?_|apply xX<;>intro hc
   all_goals simp[eK]
theorem vf (l:List Bytes) (f:FuncId) (p:Bytes->Bool) (hl:l.length<4611686018427387904) (h: ∀x,aE f [.s x] (.b (p x))):aE 131 [.sl (l.map .s), .fn (.func f)] (.b (l.any p)):=by
 have hi:=AZ l f p hl h;have e:decide (eK p 0 l>=0)=l.any p:=by
  rw[cX,decide_eq_true_iff];exact iY
 refine eW call131 func131 ?_;exact jE @e @hi
abbrev T (vs:List Bytes) (sd:Bytes) (at':Int):PV:= .agg [.sl (vs.map .s), .s sd, .i .i64 at']
theorem NA (x:Bytes):aE 299 [.s x] (.b (!aa x)):=by
 have hv:=aI x;refine eW call299 func299 ?_;exact z1 @hv
def eT (vs:List Bytes) (at':Int):Bool:=decide (at'>=0)&&decide (at'<=2147483647)&& !(vs.any fun x=> !aa x)
theorem CK (vs:List Bytes) (sd:Bytes) (at':Int) (hl:vs.length<4611686018427387904):aE 178 [T vs sd at'] (.b (eT vs at')):=by
 have hcf:=vf vs _ (fun x=> !aa x) hl NA
 unfold eT;generalize (vs.any fun x=> !aa x)=b at*
 refine eW call178 func178 ?_;repeat' first|simp only[go_sem,seval]|refine cP hcf ?_|refine oE ?_|apply xX<;>intro hc
 all_goals simp_all
 all_goals (intros;omega)
def wA (vs:List Bytes) (at':Int) (n:Bytes):Int:=if !(eT vs at'&&aa n)then 3 else if n=[]then 11 else 0
theorem Aq (vs:List Bytes) (sd:Bytes) (at':Int) (n:Bytes) (hl:vs.length<4611686018427387904):aE 90 [T vs sd at', .s n] (E (wA vs at' n)):=by
 have hg:=CK vs sd at' hl;have hv:=aI n;unfold wA;generalize eT vs at'=b at*;generalize aa n=b2 at*;refine eW call90 func90 ?_;exact Qb @hg @hv
def Nd (vs:List Bytes) (sd:Bytes) (i:Nat) (n:Bytes):PV:=
 if num n<=num (vs.getD i [])then .tup [.s [],T [] [] 0,E 2]else .tup [.s (vs.getD i []),T vs sd (i+1:Nat),E 0]
theorem oe (l:List Bytes):(l.map PV.s).flatMap PV.cells=l.map PV.s:=by
 induction l with
 |nil=>rfl
 |cons x r ih=>simp_all[PV.cells]
theorem kA {l:List Bytes} {y:AV} (h:y∈List.map AV.v (List.flatMap PV.cells (l.map PV.s))):y.one=true:=by
 rw[oe,ig]at h;obtain⟨c,_,rfl⟩:=cE.1 h;rfl
theorem mM (n:Nat) (x:AV):(List.replicate n [x]).flatten.length=n:=by
 induction n with
 |zero=>rfl
 |succ n ih=>rw[List.replicate_succ,List.flatten_cons,bU,ih,List.length_singleton];omega
theorem LL (vs:List Bytes):List.drop vs.length (List.replicate vs.length [AV.v (PV.s [])]).flatten=[]/\(List.map AV.v (List.map PV.s vs)).all AV.one=true/\List.take vs.length (List.map AV.v (List.map PV.s vs))=List.map AV.v (List.map PV.s vs)/\chunk 1 vs.length (List.map PV.s vs)=List.map PV.s vs:=by
 refine⟨?_,?_,?_,?_⟩
 ·rw[iu (by rw[mM];exact aD _)]
 ·simp[bH,AV.one,PV.one]
 ·rw[cZ (by simp)]
 ·have:=CH (List.map PV.s vs);rwa[aG]at this
theorem zo {vs:List Bytes} {i:Nat} (hi:i<vs.length):vs.getD i []∈vs:=by
 rw[b9,cb hi];exact kK hi
theorem Rw {vs:List Bytes} (sd:Bytes) {i:Nat} {n:Bytes} (hv:vs.all aa=true) (hn:aa n=true) (hi:i<vs.length) (hl:vs.length<1000000):aE 91 [T vs sd i, .s n] (Nd vs sd i n):=by
 have hx:aa (vs.getD i [])=true:=bH.1 hv _ (zo hi);have hcm:=mG (vs.getD i []) n;rw[hx,hn]at hcm;simp only[cT,aB]at hcm;have e1:=gU hi;have e2:(aW (num (vs.getD i [])) (num n)>=0)=(num n<=num (vs.getD i [])):=y7 _ _;unfold Nd;generalize aW (num (vs.getD i [])) (num n)=cm at*
 by_cases hle:num n<=num (vs.getD i [])
 ·rw[ah hle];have e3:cm>=0:=by rw[e2];exact hle
  refine eW call91 func91 ?_;repeat' first|simp only[go_sem,seval,e1]|refine cP hcm ?_|refine oE ?_|apply xX<;>intro hc
  rfl
 ·rw[af hle];have e3: ¬cm>=0:=by rw[e2];exact hle
  refine eW call91 func91 ?_;refine iy @e1 @hcm ?_;refine⟨⟨fun x hx=>gA hx,fun y hy=>kA hy,by rw[mM];exact aD _⟩,?_⟩
  obtain⟨r1,r2,r3,r4⟩:=LL vs;refine eJ (aN @e1 (aN @mM (aN @oe (aN @r1 (aN @r2 (aN @r3 (aN @r4 @fX))))))) ?_;simp
theorem I2 {p:Bytes} (vp:aa p=true) (lp:p.length<=8) (h1:1<=num p):aE 287 [.s p] (N ((num p-1)/2)):=by
 have hs:=UD (dS lp) (show 1<(2^64) by decide)
 rw[ah h1,ah h1,dN vp]at hs;have hd:=jF (a:=num p-1) (b:=2) (by have:=dS lp;omega) oC oC
 refine eW call287 func287 ?_;exact wO @DH @xV @Xq @hs @hd
theorem Ma {p q:Bytes} (vp:aa p=true) (vq:aa q=true) (lp:p.length<=4) (lq:q.length<=4) (h1:1<=num p) (h2:1<=num q) (hs:Co p q=0):aE 161 [G p q] (.tup [N ((num p-1)/2*((num q-1)/2)),E 0]):=by
 have v1:=aI p;have v2:=aI q;rw[vp]at v1;rw[vq]at v2;have hsf:=JL p q;rw[hs]at hsf;have a1:=I2 vp oO h1;have a2:=I2 vq oO h2;have b1:num p<4294967296:=br (cF p) (cQ oC lp);have b2:num q<4294967296:=br (cF q) (cQ oC lq);have hm:=CB (bQ ((num p-1)/2)) (bQ ((num q-1)/2));have hx:(num p-1)/2*((num q-1)/2)<(2^64):=br (fO (show _<4294967296 by omega) (show _<4294967296 by omega)) oC
 have hl:(num p-1)/2*((num q-1)/2)<da:=br hx (by unfold da;decide+kernel)
 simp only[oh,vN (show(num p-1)/2<(2^64) by omega),vN (show(num q-1)/2<(2^64) by omega),cT,aB,ba,hl]at hm
 refine eW call161 func161 ?_;exact z7 @v1 @v2 @hsf @a1 @a2 @hm oT
def cA.Jj (p:cA):List Bytes:=[p.c,p.sl,p.mm,p.mo,p.mg,p.mh,p.wm,p.wo,p.wg,p.wh,p.se,p.at',p.ha,p.el,p.es,p.bl,p.ma]
theorem yM (p:cA):aE 222 [p.pv] (.sl (p.Jj.map .s)):=by
 obtain⟨c,sl,mm,mo,mg,mh,wm,wo,wg,wh,se,at',ha,el,es,bl,ma⟩:=p;unfold cA.pv cA.Jj;simp only;refine eW call222 func222 ?_;exact z0
theorem mF (n1 n2 nm:Nat) (hne:n1≠n2) {a b m:Nat} (o:Bytes) (el el2:Option TypeId) (ha:a<(2^64)) (hb:b<(2^64)) (hm:m<(2^64)) (h0:0<m):j4 prog 96 nm [(n1,⟨0,[.v (N a)],false,el⟩),(n2,⟨0,[.v (N m), .v (.s o)],false,el2⟩)] [.v (N b), .p n1 0 0, .p n2 0 0] (.tup []) [(n1,some ⟨0,[.v (N (a*b%m))],false,el⟩)]:=by
 have hx:=Of ha hb hm h0;refine j4.w mixed call96 func96 rfl (ka.1 _ _ _ (by cbv)) (ka.2 _ _ (by cbv)) (obs:=[⟨0,[.v (N a)],false,el⟩,⟨0,[.v (N m), .v (.s o)],false,el2⟩]) (args:=[.v (N b), .p 0 0 0, .p 1 0 0]) (fs:=[some (some ⟨0,[.v (N (a*b%m))],false,el⟩),none]) (j:=none) (nw:=none) (v:= .tup []) (ns:=[n1,n2]) (obsA:=[⟨0,[.v (N a)],false,el⟩,⟨0,[.v (N m), .v (.s o)],false,el2⟩]) rfl ?_ (by simp) (by simp[hne]) rfl (by simp[bc,aJ.aX,AV.aX,AV.aX.renL]) (by simp[bc,AV.aX,dz,hne,kQ hne]) (by simp[AV.aX,AV.aX.renL]) (by simp[fL,outs,aJ.aX,AV.aX,AV.aX.renL])
 simp only[go_sem,seval];repeat' first|simp only[go_sem,seval,true_or,or_true,false_or,or_false,aq,iQ,ff,ix,fF,gp,e7,pU,qj,gT,iC,dW,aR,AV.aX,AV.aX.renL,aM]|refine cP hx ?_|refine oE ?_|apply xX<;>intro hc
 all_goals skip
theorem KZ {x:AV}:(List.replicate 1 [x]).flatten=[x]:=rfl
theorem BJ {x:AV}:List.drop 1 [x]=[]:=rfl
theorem qT {x:AV}:List.take 1 [x]=[x]:=rfl
theorem LO {x y:AV}:List.set [x] 0 y=[y]:=rfl
theorem Tx {n:Nat}:n/2^cW n=0:=by
 refine iL ?_;unfold cW;split
 ·rename_i h;rw[h];decide
 ·rename_i h;exact uG
theorem l9 (x:PV) (l:List PV):mU (.v x::l.map .v)=some (x::l):=by
 have h: ∀l:List PV,mU (l.map .v)=some l:=by
  intro l
  induction l with
  |nil=>rfl
  |cons y l ih=>
   unfold mU at ih⊢;rw[bV,bc,ih];rfl
 have:=h (x::l);exact this
end Go.Proofs.Tryz
namespace Go.Proofs.Tryz
open Go Go.Dom Go.Num
variable {a b n x:Nat} {e o:Bytes}
def gE (m o:Bytes):Int:=if !(aa m&&aa o)then 3 else if o==[]then(if eS m []then 0 else 13)else if num m<=1\/num o<=1\/(num m-1)%num o≠0 then 13 else 0
def jJ (m o x:Bytes):Bool:=if o==[]then dK m [] x else iw m o x
def xq (m o x:Bytes):Bool:=decide (gE m o=0)&&jJ m o x
structure GP (m o:Bytes) (n:Nat):Prop where
 lt:n<num m
 TC:Nat.gcd n (num m)=1
 ord:o=[]\/n^num o%num m=1%num m
theorem lO {m o:Bytes} (h:gE m o=0):aa m=true/\aa o=true/\1<num m/\(o=[]->eS m []=true)/\(o≠[]->1<num o/\(num m-1)%num o=0):=by
 unfold gE at h
 split at h
 ·cases h
 ·rename_i h1;have h1:aa m=true/\aa o=true:=by simpa using h1
  split at h
  ·rename_i h2
   split at h
   ·rename_i h3;have h4:8<num m:=by simp only[eS,aZ,bw]at h3;exact h3.2
    exact⟨h1.1,h1.2,oO,fun _=>h3,fun g=>aP (by simpa using h2) g⟩
   ·cases h
  ·rename_i h2
   split at h
   ·cases h
   ·rename_i h3;exact⟨h1.1,h1.2,oO,fun g=>aP g (by simpa using h2),fun _=>oO⟩
theorem zm {x i m:Nat} (hm:1<m) (h:x*i%m=1%m):Nat.gcd x m=1:=by
 have h1:Nat.gcd x m∣x*i%m:=by
  have d1:Nat.gcd x m∣x*i:=Nat.dvd_trans (Nat.gcd_dvd_left x m) (Nat.dvd_mul_right x i);exact(Nat.dvd_mod_iff (Nat.gcd_dvd_right x m)).2 d1
 rw[h,bE hm]at h1;exact Nat.dvd_one.1 h1
theorem cJ {m o x:Bytes} (h:gE m o=0):jJ m o x=true↔aa x=true/\GP m o (num x):=by
 obtain⟨vm,vo,m1,hr,hp⟩:=lO h;unfold jJ
 by_cases ho:o=[]
 ·subst ho;have hb:=hr rfl;simp only[dt,aB,dK,hb,aZ,bw,ey,dL,true_and];constructor
  ·rintro⟨⟨⟨h1,h2⟩,h3⟩,h4⟩;exact⟨h1,h3,h4, .inl rfl⟩
  ·rintro⟨h1,h3,h4,-⟩;refine⟨⟨⟨h1,?_⟩,h3⟩,h4⟩;intro e;subst e;simp[num]at h4;omega
 ·have hb:(o==([]:Bytes))=false:=by simpa using ho
  obtain⟨o1,od⟩:=hp ho;simp only[hb,bM,az,iw,vm,vo,aZ,bw,ey,dL,true_and,cC,and_true];constructor
  ·rintro⟨⟨⟨h1,h2⟩,h3⟩,h4⟩;have:num x^num o=num x*num x^(num o-1):=by rw[<-yd];congr 1;omega
   rw[this]at h4;exact⟨h1,h3,zm m1 h4, .inr (by rw[this];exact h4)⟩
  ·rintro⟨h1,h3,h4,h5⟩;refine⟨⟨⟨h1,?_⟩,h3⟩,h5.resolve_left ho⟩;intro e;subst e;simp[num]at h4;omega
theorem Fl (a b:Nat):Nat.gcd (a%b) b=Nat.gcd a b:=by rw[<-nV,kN]
theorem GP.unit {m o:Bytes} (h:GP m o n):eP (num m) n:=nN (by have:=h.lt;omega) h.TC
theorem GP.mul {m o:Bytes} (ha:GP m o a) (hb:GP m o b):GP m o (a*b%num m):=by
 have h0:0<num m:=by have:=ha.lt;omega
 refine⟨aQ _ h0,?_,?_⟩
 ·rw[Fl];exact Nat.Coprime.mul_left ha.TC hb.TC
 ·rcases ha.ord with h|h
  ·exact .inl h
  ·rcases hb.ord with g|g
   ·exact .inl g
   ·refine .inr ?_;rw[<-jq,rD,cL,h,g,<-cL,ie]
theorem GP.pow {m o:Bytes} (ha:GP m o a) (e:Nat):GP m o (a^e%num m):=by
 have h0:0<num m:=by have:=ha.lt;omega
 refine⟨aQ _ h0,?_,?_⟩
 ·rw[Fl];exact Nat.Coprime.pow_left e ha.TC
 ·rcases ha.ord with h|h
  ·exact .inl h
  ·refine .inr ?_;rw[<-jq,<-jY,bZ,jY,jq,h,<-jq,rH]
theorem GP.inv {m o:Bytes} (ha:GP m o a) (m1:1<num m):GP m o (gV a (num m)):=by
 have h0:0<num m:=oO;obtain⟨g1,g2⟩:=ha.unit.inv;refine⟨g1,zm (i:=a) m1 (by rw[bZ];exact g2),?_⟩
 rcases ha.ord with h|h
 ·exact .inl h
 ·refine .inr ?_;have e1:(a*gV a (num m))^num o%num m=1%num m:=by rw[jq,g2,<-jq,rH]
  rw[rD,cL,h,<-cL,ie]at e1;exact e1
theorem GP.dJ {m o:Bytes} (ha:GP m o a) (m1:1<num m) (ng:Bool) (e:Nat):GP m o (Dom.dJ (num m) a ng e):=by
 unfold Dom.dJ;cases ng
 ·exact ha.pow e
 ·exact(ha.inv m1).pow e
theorem GP.has {m o:Bytes} (h:GP m o n) (hE:gE m o=0) (lm:m.length<=8):jJ m o (bQ n)=true:=by
 have:=dS lm;exact(cJ hE).2 ⟨vN (by have:=h.lt;omega),by rw[ba];exact h⟩
theorem oI {m:Bytes} (lm:m.length<=8) (lo:o.length<=8):aE 84 [G m o] (E (gE m o)):=by
 by_cases ho:o=[]
 ·subst ho;have:=sR m;have e:gE m []=B7 m:=by
   unfold gE B7;have hv0:aa []=true:=rfl
   cases aa m<;>simp[hv0]
  rw[e];exact this
 have hb:(o==([]:Bytes))=false:=by simpa using ho
 have v1:=aI m;have v2:=aI o;unfold gE
 by_cases hv:aa m=true/\aa o=true
 case neg=>
  have:(aa m&&aa o)=false:=by rw[dn];intro g;simp at g;exact hv g
  rw[this];generalize aa m=b1 at*;generalize aa o=b2 at*;refine eW call84 func84 ?_;exact Qb @v1 @v2
 obtain⟨vm,vo⟩:=hv;have nm:=dS lm;have no:=dS lo;have hop:num o≠0:=fun e=>ho ((uh vo).1 e)
 rw[vm]at v1;rw[vo]at v2;rw[vm,vo,hb];have hs:=UD (a:=num m) (b:=1) nm oC;have hcm:=mG o [2];rw[vo,show aa [2]=true from rfl,show num [2]=2 from rfl]at hcm
 simp only[cT,aB]at hcm;have hcl: ∀ _:True,decide (aW (num o) 2<0)=decide (num o<2):=fun _=>by
  rw[cX];simp[fx]
 have e1:N (num m)= .s m:=congrArg PV.s (fk vm);have e2:N (num o)= .s o:=congrArg PV.s (fk vo);rw[e1]at hs;generalize aW (num o) 2=cm at*
 by_cases m0:num m=0
 ·rw[af oO,af oO]at hs;have:(if num m<=1\/num o<=1\/(num m-1)%num o≠0 then(13:Int)else 0)=13:=ah oO
  simp only[cT,cr,bM,az,this];refine eW call84 func84 ?_;simp only[go_sem,seval,dQ];exact Xm (aN @hb @dQ) @v1 @v2 @yN @hs
 rw[ah oO,ah oO]at hs
 by_cases m1:num m=1
 ·have:(if num m<=1\/num o<=1\/(num m-1)%num o≠0 then(13:Int)else 0)=13:=ah oO
  simp only[cT,cr,bM,az,this];rw[m1]at hs;refine eW call84 func84 ?_;simp only[go_sem,seval,dQ];exact Xm (aN @hb (aN @dQ @Bk)) @v1 @v2 @yN @hs
 have en:=qD (n:=num m-1) oO;have hd:=jF (a:=num m-1) (b:=num o) oO no oO;rw[e2]at hd;have hz: ∀ _:True,(bQ ((num m-1)%num o)==([]:Bytes))=decide ((num m-1)%num o=0):=fun _=>by
  rw[cX];simp[fS]
 by_cases o1:num o<2
 ·have:(if num m<=1\/num o<=1\/(num m-1)%num o≠0 then(13:Int)else 0)=13:=ah oO
  simp only[cT,cr,bM,az,this];rw[aU o1]at hcl;refine eW call84 func84 ?_;simp only[go_sem,seval,dQ];exact Qa (aN @hb (aN @dQ (aN @en (hcl oT)))) @v1 @v2 @yN @Xq @hs @hcm oT
 rw[bu o1]at hcl
 by_cases hd0:(num m-1)%num o=0
 ·have:(if num m<=1\/num o<=1\/(num m-1)%num o≠0 then(13:Int)else 0)=0:=af oO
  simp only[cT,cr,bM,az,this];rw[hd0]at hd;refine eW call84 func84 ?_;simp only[go_sem,seval,dQ];exact Qa (aN @hb (aN @dQ (aN @en (aN (hcl oT) @Bk)))) @v1 @v2 @yN @Xq @hs @hcm @hd
 ·have:(if num m<=1\/num o<=1\/(num m-1)%num o≠0 then(13:Int)else 0)=13:=ah oO
  simp only[cT,cr,bM,az,this];have en2:=qD hd0;refine eW call84 func84 ?_;simp only[go_sem,seval,dQ];exact Qa (aN @hb (aN @dQ (aN @en (aN (hcl oT) @en2)))) @v1 @v2 @yN @Xq @hs @hcm @hd
theorem tT {m:Bytes} (lm:m.length<=8) (o x:Bytes):aE 175 [G m o, .s x] (.b (jJ m o x)):=by
 by_cases ho:o=[]
 ·subst ho;exact FM lm x
 ·have hb:(o==([]:Bytes))=false:=by simpa using ho
  have h:=FI lm o x;unfold jJ;rw[hb];simp only[bM,az];refine eW call175 func175 ?_;exact jE @hb @h
theorem Nw {m:Bytes} (lm:m.length<=8) (lo:o.length<=8) (x:Bytes):aE 85 [G m o, .s x] (.b (xq m o x)):=by
 have h1:=oI lm lo;have h2:=tT lm o x;unfold xq;generalize gE m o=z at*;generalize jJ m o x=b at*;refine eW call85 func85 ?_;exact Qb @h1 @h2
theorem I0 {m:Bytes} (lm:m.length<=8) (lo:o.length<=8) (hE:gE m o=0) (ha:GP m o a) (hb:GP m o b):aE 499 [G m o,N a,N b] (.tup [N (a*b%num m),E 0]):=by
 obtain⟨vm,vo,m1,-,-⟩:=lO hE;have hn:=dS lm;have la:=ha.lt;have lb:=hb.lt;have hm:=Of (a:=a) (b:=b) (m:=num m) oO oO hn oO;have e1:N (num m)= .s m:=congrArg PV.s (fk vm);rw[e1]at hm;have c1:=aI (bQ a);have c2:=aI (bQ b);rw[vN (show a<(2^64) by omega)]at c1
 rw[vN (show b<(2^64) by omega)]at c2
 have c3:=oI lm lo;rw[hE]at c3;have c4:=tT lm o (bQ a);have c5:=tT lm o (bQ b);rw[ha.has hE lm]at c4;rw[hb.has hE lm]at c5;have hch:aE 93 [G m o, .sl [N a,N b], .sl [], .b true] (E 0):=by
  refine eW call93 func93 ?_;exact zu5 @c1 @c2 @c3 @c4 @c5
 refine eW call499 func499 ?_;exact z2 @hch @hm
theorem Nx {m:Bytes} (lm:m.length<=8) (lo:o.length<=8) {ng:Bool} (hE:gE m o=0) (hx:GP m o x) (he:aa e=true) (hz:(ng&&e==[])=false):aE 39 [G m o, .sl [N x], .sl [.agg [.b ng, .s e]]] (.tup [N (dJ (num m) x ng (num e)),E 0]):=by
 obtain⟨vm,vo,m1,-,-⟩:=lO hE;have hn:=dS lm;have lx:=hx.lt;have c1:=aI (bQ x);rw[vN (show x<(2^64) by omega)]at c1
 have c2:=il ng e;rw[he,hz]at c2;have c3:=oI lm lo;rw[hE]at c3;have c4:=tT lm o (bQ x);rw[hx.has hE lm]at c4;have hch:aE 93 [G m o, .sl [N x], .sl [.agg [.b ng, .s e]], .b true] (E 0):=by
  refine eW call93 func93 ?_;exact zu4 @c1 @c2 @c3 @c4
 have hbt:=xG he;have hbi:=fun i hi=>yE he i hi
 have hinv:=sr (a:=x) (m:=num m) oO hn oO hx.TC;have hil:=hx.unit.inv.1;clear c1 c2 c3 c4;unfold dJ;obtain⟨n,hnn⟩: ∃n,n=num e:=⟨_,rfl⟩;obtain⟨M,hM⟩: ∃M,M=num m:=⟨_,rfl⟩;have eG:G m o= .agg [N M, .s o]:=by rw[hM,show N (num m)= .s m from congrArg PV.s (fk vm)]
 rw[eG]at hch⊢;rw[<-hM]at lx hn m1 hinv hil;rw[<-hnn]at hbt hbi;rw[<-hnn,<-hM];clear hx;have hbl:cW n<1000000:=by
  have h1:n<2^1024:=by
   rw[hnn];refine br (cF e) ?_;have le:e.length<=128:=by simp[aa]at he;exact he.1
   exact gj (cQ oC le) (by decide+kernel)
  unfold cW;split
  ·decide
  ·rename_i h;have:=(yr h).2 h1;omega
 have hmx: ∀ _:True,(if(cW n:Int)>0 then(cW n:Int)else 0)=(cW n:Int):=fun _=>by split<;>omega
 have hM1:1%M=1:=bE oO;have hw1: ∀ _:True,IntKind.i64.wrap ((cW n:Int)-1)=(cW n:Int)-1:=fun _=>IntWalk.i64_in _ oO
 cases ng
 ·simp only[bM,az];obtain⟨xm,hxm⟩: ∃xm,xm=x:=⟨_,rfl⟩;rw[<-hxm]at hch lx⊢;refine eW call39 func39 ?_;refine tj (aN @KZ (aN @BJ (aN @qT (aN @LO (aN (hmx oT) (aN (hw1 oT) @dQ)))))) @hch @hbt @yN oT ?_;refine aj ?_;refine tj (aN @KZ (aN @BJ (aN @qT (aN @LO (aN (hmx oT) (aN (hw1 oT) @dQ)))))) @hch @hbt @yN oT ?_;refine aj ?_;refine tj (aN @KZ (aN @BJ (aN @qT (aN @LO (aN (hmx oT) (aN (hw1 oT) @dQ)))))) @hch @hbt @yN oT ?_;refine ak (α:=Nat) (fun k=>k) (fun k=>⟨[(2, .v (.sl [.agg [.b false, .s e]])),(9, .rs 1017 0 0 1 1),(15, .p 1052 0 0),(16, .fn (.func 96) [] [.p 1052 0 0, .p 1000 0 0]),(17, .v (.i .i64 ((k:Int)-1)))],[(1052,⟨0,[.v (N (xm^(n/2^k)%M))],false,some 22⟩),(1017,⟨0,[.v (N xm)],false,none⟩),(1000,⟨0,[.v (N M), .v (.s o)],false,none⟩)],_⟩) (fun k=>k<=cW n) (cW n) (fun _=>aD _) (aD _) ?_ ?_
  ·(refine AS.Le.of (by first|decide|omega) ?_ ?_<;>simp[dw,du,aS,aC,AV.bd,AV.bd.bdL,u8,an,ar,aA])
   rw[Tx,Nat.pow_zero,hM1]
  ·intro k hk R hR
   cases k with
   |zero=>
    refine xF ?_;rw[iI]
   |succ k=>
    obtain⟨z,hz⟩: ∃z,z=xm^(n/2^(k+1))%M:=⟨_,rfl⟩;have hzm:z<M:=by rw[hz];exact aQ _ oO
    have e1: ∀ _:True,((k+1:Nat):Int)-1=(k:Int):=fun _=>oO
    have hge: ∀ _:True,decide ((k:Int)>=0)=true:=fun _=>by simp
    have hbit:=hbi k oO;have hdec:n.testBit k=decide (n/2^k%2=1):=lf;rw[hdec]at hbit;have hwk: ∀ _:True,IntKind.i64.wrap ((k:Int)-1)=(k:Int)-1:=fun _=>IntWalk.i64_in _ oO
    have hdd:n/2^(k+1)=n/2^k/2:=by rw[Nat.pow_succ,eZ]
    have hzz:z*z%M<M:=aQ _ oO;rw[<-hz];have hx1:=fun nm=>mF 1052 1000 nm oC o (some 22) none (a:=z) (b:=z) (m:=M) oO oO oO oO
    have hx2:=fun nm=>mF 1052 1000 nm oC o (some 22) none (a:=z*z%M) (b:=xm) (m:=M) oO oO oO oO
    repeat' first|simp only[go_sem,seval,e1 oT,hge oT,gO,gM,qT]|(refine bK (hx1 _) (by simp[aC]) ?_)|refine oE ?_|apply xX<;>intro hc
    refine aj ?_;repeat' first|simp only[go_sem,seval,hge oT,hwk oT,gO,gM,qT]|refine cP hbit ?_|(refine bK (hx2 _) (by simp[aC]) ?_)|(refine aj ?_)|refine oE ?_|apply xX<;>intro hc
    ·have hb2:n/2^k=2*(n/2^(k+1))+1:=oO;refine hR k oO oO _ ?_;have ez:z*z%M*xm%M=xm^(n/2^k)%M:=by
      have e3:z*z%M=xm^(n/2^(k+1))*xm^(n/2^(k+1))%M:=by rw[hz,<-cL]
      rw[hb2,Nat.pow_succ,rN,dk,e3,jU]
     rw[<-ez];exact lE
    ·have hb2:n/2^k=2*(n/2^(k+1)):=oO;refine hR k oO oO _ ?_;have ez:z*z%M=xm^(n/2^k)%M:=by
      rw[hb2,rN,dk,hz,<-cL]
     rw[<-ez];exact lE
 ·simp only[aB];obtain⟨xm,hxm⟩: ∃xm,xm=gV x M:=⟨_,rfl⟩;rw[<-hxm]at hinv hil⊢;refine eW call39 func39 ?_;refine tj (aN @KZ (aN @BJ (aN @qT (aN @LO (aN (hmx oT) (aN (hw1 oT) @dQ)))))) @hch @hbt @yN @hinv ?_;refine aj ?_;refine tj (aN @KZ (aN @BJ (aN @qT (aN @LO (aN (hmx oT) (aN (hw1 oT) @dQ)))))) @hch @hbt @yN @hinv ?_;refine aj ?_;refine tj (aN @KZ (aN @BJ (aN @qT (aN @LO (aN (hmx oT) (aN (hw1 oT) @dQ)))))) @hch @hbt @yN @hinv ?_;refine ak (α:=Nat) (fun k=>k) (fun k=>⟨[(2, .v (.sl [.agg [.b true, .s e]])),(9, .rs 1017 0 0 1 1),(15, .p 1068 0 0),(16, .fn (.func 96) [] [.p 1068 0 0, .p 1000 0 0]),(17, .v (.i .i64 ((k:Int)-1)))],[(1068,⟨0,[.v (N (xm^(n/2^k)%M))],false,some 22⟩),(1017,⟨0,[.v (N xm)],false,none⟩),(1000,⟨0,[.v (N M), .v (.s o)],false,none⟩)],_⟩) (fun k=>k<=cW n) (cW n) (fun _=>aD _) (aD _) ?_ ?_
  ·(refine AS.Le.of (by first|decide|omega) ?_ ?_<;>simp[dw,du,aS,aC,AV.bd,AV.bd.bdL,u8,an,ar,aA])
   rw[Tx,Nat.pow_zero,hM1]
  ·intro k hk R hR
   cases k with
   |zero=>
    refine xF ?_;rw[iI]
   |succ k=>
    obtain⟨z,hz⟩: ∃z,z=xm^(n/2^(k+1))%M:=⟨_,rfl⟩;have hzm:z<M:=by rw[hz];exact aQ _ oO
    have e1: ∀ _:True,((k+1:Nat):Int)-1=(k:Int):=fun _=>oO
    have hge: ∀ _:True,decide ((k:Int)>=0)=true:=fun _=>by simp
    have hbit:=hbi k oO;have hdec:n.testBit k=decide (n/2^k%2=1):=lf;rw[hdec]at hbit;have hwk: ∀ _:True,IntKind.i64.wrap ((k:Int)-1)=(k:Int)-1:=fun _=>IntWalk.i64_in _ oO
    have hdd:n/2^(k+1)=n/2^k/2:=by rw[Nat.pow_succ,eZ]
    have hzz:z*z%M<M:=aQ _ oO;rw[<-hz];have hx1:=fun nm=>mF 1068 1000 nm oC o (some 22) none (a:=z) (b:=z) (m:=M) oO oO oO oO
    have hx2:=fun nm=>mF 1068 1000 nm oC o (some 22) none (a:=z*z%M) (b:=xm) (m:=M) oO oO oO oO
    repeat' first|simp only[go_sem,seval,e1 oT,hge oT,gO,gM,qT]|(refine bK (hx1 _) (by simp[aC]) ?_)|refine oE ?_|apply xX<;>intro hc
    refine aj ?_;repeat' first|simp only[go_sem,seval,hge oT,hwk oT,gO,gM,qT]|refine cP hbit ?_|(refine bK (hx2 _) (by simp[aC]) ?_)|(refine aj ?_)|refine oE ?_|apply xX<;>intro hc
    ·have hb2:n/2^k=2*(n/2^(k+1))+1:=oO;refine hR k oO oO _ ?_;have ez:z*z%M*xm%M=xm^(n/2^k)%M:=by
      have e3:z*z%M=xm^(n/2^(k+1))*xm^(n/2^(k+1))%M:=by rw[hz,<-cL]
      rw[hb2,Nat.pow_succ,rN,dk,e3,jU]
     rw[<-ez];exact lE
    ·have hb2:n/2^k=2*(n/2^(k+1)):=oO;refine hR k oO oO _ ?_;have ez:z*z%M=xm^(n/2^k)%M:=by
      rw[hb2,rN,dk,hz,<-cL]
     rw[<-ez];exact lE
theorem rf {m:Bytes} (lm:m.length<=8) (lo:o.length<=8) {ng:Bool} (hE:gE m o=0) (hx:GP m o x) (he:aa e=true) (hz:(ng&&e==[])=false):aE 498 [G m o,N x, .agg [.b ng, .s e]] (.tup [N (dJ (num m) x ng (num e)),E 0]):=by
 have hp:=Nx lm lo hE hx he hz;refine eW call498 func498 ?_;exact z1 @hp
end Go.Proofs.Tryz
namespace Go.Proofs.Tryz
open Go Go.Dom Go.Num
end Go.Proofs.Tryz
namespace Go.Proofs.Tryz
open Go Go.Dom Go.Num
def Vc:Bytes:=[98,97,110,107]
def K0:Key:=⟨Vc,[77],[],[],[4],[[],[]],[],[]⟩
def K1:Key:=⟨Vc,[77],[],[64],[4],[[23],[1]],[16],[60]⟩
abbrev LK:aJ:=⟨0,[.v (.s []), .v (.s [])],false,none⟩
def K2:Key:=⟨Vc,[77],[],[64],[4],[[23],[1]],[64],[60]⟩
