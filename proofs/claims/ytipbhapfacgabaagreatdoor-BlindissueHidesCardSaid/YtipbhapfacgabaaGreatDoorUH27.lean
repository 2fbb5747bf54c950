/- Part of the proof. -/
import Derived.Test.YtipbhapfacgabaaGreatDoorUH24
import Derived.Test.YtipbhapfacgabaaGreatDoorUH26
set_option linter.all false
set_option maxHeartbeats 16000000
set_option maxRecDepth 100000
namespace Go.Proofs.Tryz
open Go Go.Dom Go.Num
theorem D6 (k:Key):aF 81 [k.pv] (.fc 155 [] [.pt k.pv 0]):=by
 unfold Key.pv;refine eW call81 func81 ?_;exact z0
def FU:List PV->Bytes
 |[_, .s b]=>b
 | _=>[]
def XF:List PV->Int
 |[.i _ n,_]=>n
 | _=>0
theorem rj (k:Key): ∀y∈k.bases,∃n b,y=rU n b:=by
 intro y hy;simp only[Key.bases,bV,cG]at hy;rcases hy with rfl|rfl|rfl|rfl|⟨b,-,rfl⟩<;>exact⟨_,_,rfl⟩
theorem AA (k:Key): ∀y∈k.bases,y.length=2:=by
 intro y hy;obtain⟨n,b,rfl⟩:=rj k y hy;rfl
def rA (m:Bytes) (y:List PV):Bool:= !cL m [] (FU y)||(XF y==2&&(FU y==[1]))
def fK (pe:Int) (k:Key):Int:=if pe≠0 then pe else if !(aa k.m&&aa k.o)then 3 else if !(k.bases.all fun y=>aa (FU y))then 3 else if !mB k.name then 1
 else if !(k.o==[])||decide (Bm k.m≠0)then 13 else if k.r.length<2\/k.r.length>18 then 6 else if k.bases.any (rA k.m)then 13 else 0
theorem HH {α:Type} {p:α->Bool} {l a:List α} {y:α} {ys:List α} (h:l=a++y::ys) (hy:p y=true):l.any p=true:=by
 rw[h];simp[hy]
theorem D3 {α:Type} {p:α->Bool} {a:List α} {y:α} (h:a.any p=false) (hy:p y=false):(a++[y]).any p=false:=by simp[h,hy]
theorem PK {α:Type} {p:α->Bool} {l a:List α} {y:α} {ys:List α} (h:l=a++y::ys) (hy:p y=false):l.all p=false:=by
 rw[h];simp[hy]
theorem LQ {α:Type} {p:α->Bool} {a:List α} {y:α} (h:a.all p=true) (hy:p y=true):(a++[y]).all p=true:=by rw[List.all_append,h];simp[hy]
theorem yH {α:Type} {l a:List α} {y:α} {ys:List α} (h:l=a++y::ys):l=(a++[y])++ys:=by rw[h];simp
theorem mT (p:cz) (k:Key) (pe:Int) (hp:aF 80 [p.pv] (E pe)) (lm:k.m.length<=8) (ln:k.name.length<=60) (lr:k.r.length<=20):aF 32 [p.pv,k.pv] (E (fK pe k)):=by
 have v1:=aD k.m;have v2:=aD k.o;have hb:=D6 k;have hnm:=Kc k.name ln;have hpw:=rG k.m;have hit:=D5 k oO;have hbl:=AA k;have hbf:=rj k;have hhas:=zf lm;have hE: ∀e,fK pe k=e->aF 32 [p.pv,k.pv] (E e)->aF 32 [p.pv,k.pv] (E (fK pe k)):=fun e h g=>by rw[h];exact g
 by_cases h0:pe=0
 case neg=>
  refine hE pe (by simp[fK,h0]) ?_
  unfold cz.pv Key.pv at*;refine eW call32 func32 ?_;exact z1 @hp
 subst h0
 by_cases hv:aa k.m=true/\aa k.o=true
 case neg=>
  refine hE 3 (by
   have:(aa k.m&&aa k.o)=false:=by (rw[dA];intro g;simp at g;exact hv g)
   simp[fK,this]) ?_
  generalize aa k.m=b1 at*;generalize aa k.o=b2 at*;unfold cz.pv Key.pv at*;refine eW call32 func32 ?_;exact YZ @hp @v1 @v2 oT
 obtain⟨hm,ho⟩:=hv;rw[hm]at v1;rw[ho]at v2;clear hE;unfold fK;rw[hm,ho,af (by simp),af (by simp)]
 unfold cz.pv at*;have hkp:k.pv= .agg [.s k.name, .s k.m, .s k.o, .s k.z, .s k.s, .sl (k.r.map .s), .s k.u, .s k.h]:=rfl;rw[hkp]at hb hit⊢;clear hkp;generalize k.bases=bs at*;obtain⟨name,m,o,z,s,r,u,h⟩:=k;simp only at*;refine eW call32 func32 ?_;repeat' first|simp only[go_sem,seval]|refine cP hp ?_|refine cP v1 ?_|refine cP v2 ?_|refine cP hb ?_|(refine xA hit rfl hbl ?_)|refine oE ?_|apply xX<;>intro hc
 refine CJ (α:=Unit) (fun _=>⟨[(3, .p 1001 0 0),(4, .p 1002 0 0)],[(1001,⟨0,[.v (.s name), .v (.s m), .v (.s o), .v (.s z), .v (.s s), .v (.sl (r.map .s)), .v (.s u), .v (.s h)],false,none⟩),(1002,⟨0,[.v (E 0)],false,some 57⟩)],_⟩) (fun ys _=> ∃pre,bs=pre++ys/\pre.all (fun y=>aa (FU y))=true) () (fun _=>aB _) ⟨[],rfl,rfl⟩ ?_ ?_ ?_
 ·exact lE
 ·rintro-⟨pre,hpre,hall⟩;rw[jr]at hpre;subst hpre;rw[hall,af (by simp)]
  by_cases hn:mB name=true
  case neg=>
   have hn:mB name=false:=by simpa using hn
   rw[hn]at hnm⊢;exact z1 @hnm
  rw[hn]at hnm⊢;rw[af (by simp)]
  by_cases h1:o=[]
  case neg=>
   have h1:(o==([]:Bytes))=false:=by simpa using h1
   rw[h1,ah (by simp)]
   have h1':(o !=([]:Bytes))=true:=by simp[bne,h1]
   exact ot (aN @h1 @h1') @hnm
  subst h1;rw[nn]
  by_cases h2:Bm m=0
  case neg=>
   rw[ah (by simp[h2])]
   repeat' first|simp only[go_sem,seval,nn]|refine cP hnm ?_|refine cP hpw ?_|refine oE ?_|apply xX<;>intro hc
   all_goals first|(exact aJ (by assumption) h2)|skip
  rw[h2]at hpw;rw[af (by simp[h2])]
  by_cases h3:r.length<2\/r.length>18
  case pos=>
   rw[ah h3];exact wq @nn @hnm @hpw
  rw[af h3];repeat' first|simp only[go_sem,seval,nn]|refine cP hnm ?_|refine cP hpw ?_|refine cP hb ?_|(refine xA hit rfl hbl ?_)|refine oE ?_|apply xX<;>intro hc
  refine CJ (α:=Unit) (fun _=>⟨[(3, .p 1001 0 0),(4, .p 1002 0 0)],[(1001,⟨0,[.v (.s name), .v (.s m), .v (.s []), .v (.s z), .v (.s s), .v (.sl (r.map .s)), .v (.s u), .v (.s h)],false,none⟩),(1002,⟨0,[.v (E 0)],false,some 57⟩)],_⟩) (fun ys _=> ∃pre,bs=pre++ys/\pre.any (rA m)=false) () (fun _=>aB _) ⟨[],rfl,rfl⟩ ?_ ?_ ?_
  ·exact lE
  ·rintro-⟨pre,hpre,hany⟩;rw[jr]at hpre;subst hpre;rw[hany,af (by simp)]
   exact z0
  ·rintro y ys-⟨pre,hpre,hany⟩ R hR;obtain⟨n,b,rfl⟩:=hbf y (by rw[hpre];simp)
   have hb1:=hhas b;have hbd:rA m (rU n b)=true->bs.any (rA m)=true:=HH hpre;have hgo:rA m (rU n b)=false-> ∀s',_->R s':=fun g=>hR () ⟨_,yH hpre,D3 hany g⟩
   have e1:rA m (rU n b)=(!cL m [] b||(n==2&&(b==[1]))):=rfl;rw[e1]at hbd hgo;clear e1 hR;generalize cL m [] b=b1 at*;repeat' first|simp only[go_sem,seval,rU]|refine cP hb1 ?_|refine cP xI ?_|refine oE ?_|apply xX<;>intro hc
   all_goals first
    |(rw[hbd (by simp_all),ah rfl];done)
    |(refine hgo (by simp_all) _ ?_;(refine AS.Le.of (by first|decide|omega) ?_ ?_<;>simp[dG,dF,aO,hget,AV.bd,AV.bd.bdL,u8,ar,au,az]);done)
    |fail
 ·rintro y ys-⟨pre,hpre,hall⟩ R hR;obtain⟨n,b,rfl⟩:=hbf y (by rw[hpre];simp)
  have vb:=aD b;have hbd:aa b=false->bs.all (fun y=>aa (FU y))=false:=PK (p:=fun y=>aa (FU y)) hpre
  have hgo:aa b=true-> ∀s',_->R s':=fun g=>hR () ⟨_,yH hpre,LQ (p:=fun y=>aa (FU y)) hall g⟩
  generalize aa b=b1 at*;repeat' first|simp only[go_sem,seval,rU]|refine cP vb ?_|refine oE ?_|apply xX<;>intro hc
  all_goals first
   |(rw[hbd (by simp_all),ah (by simp)];done)
   |(refine hgo (by simp_all) _ ?_;(refine AS.Le.of (by first|decide|omega) ?_ ?_<;>simp[dG,dF,aO,hget,AV.bd,AV.bd.bdL,u8,ar,au,az]);done)
   |fail
def JZ (m o p q:Bytes) (y:List PV):Bool:= !(decide (DQ m o p q (FU y)=0)&&(if XF y==0 then RZ p q (FU y)else Na p q (FU y)))||decide (DQ m o p q (FU y)≠0)
def MO (ke:Int) (k:Key) (p q:Bytes):Int:=if ke≠0 then ke else if jI k.m k.o p q≠0 then jI k.m k.o p q else if k.bases.any (JZ k.m k.o p q)then 13 else 0
theorem Pl (pa:cz) (k:Key) (p q:Bytes) (ke:Int) (hk:aF 32 [pa.pv,k.pv] (E ke)) (lm:k.m.length<=8) (lr:k.r.length<=20):aF 58 [pa.pv,k.pv,G p q] (E (MO ke k p q)):=by
 have hb:=D6 k;have hit:=D5 k oO;have hbl:=AA k;have hbf:=rj k;have hrc:=Bs k.m k.o p q;have hsq:=DW lm k.o p q;have hge:=xF lm k.o p q;unfold MO;unfold cz.pv at*;have hkp:k.pv= .agg [.s k.name, .s k.m, .s k.o, .s k.z, .s k.s, .sl (k.r.map .s), .s k.u, .s k.h]:=rfl;rw[hkp]at hb hit hk⊢;clear hkp;generalize k.bases=bs at*;obtain⟨name,m,o,z,s,r,u,h⟩:=k;simp only at*
 by_cases h0:ke=0
 case neg=>
  rw[ah h0];refine eW call58 func58 ?_;exact z1 @hk
 subst h0;rw[af (by simp)]
 by_cases h1:jI m o p q=0
 case neg=>
  rw[ah h1];generalize jI m o p q=ce at*;refine eW call58 func58 ?_;exact z2 @hk @hrc
 rw[af (by simp[h1])]
 rw[h1]at hrc;refine eW call58 func58 ?_;repeat' first|simp only[go_sem,seval]|refine cP hk ?_|refine cP hrc ?_|refine cP hb ?_|(refine xA hit rfl hbl ?_)|refine oE ?_|apply xX<;>intro hc
 refine CJ (α:=Unit) (fun _=>⟨[(4, .p 1001 0 0),(5, .p 1002 0 0),(6, .p 1003 0 0)],[(1001,⟨0,[.v (.s name), .v (.s m), .v (.s o), .v (.s z), .v (.s s), .v (.sl (r.map .s)), .v (.s u), .v (.s h)],false,none⟩),(1002,⟨0,[.v (.s p), .v (.s q)],false,none⟩),(1003,⟨0,[.v (E 0)],false,some 57⟩)],_⟩) (fun ys _=> ∃pre,bs=pre++ys/\pre.any (JZ m o p q)=false) () (fun _=>aB _) ⟨[],rfl,rfl⟩ ?_ ?_ ?_
 ·exact lE
 ·rintro-⟨pre,hpre,hany⟩;rw[jr]at hpre;subst hpre;rw[hany,af (by simp)]
  exact z0
 ·rintro y ys-⟨pre,hpre,hany⟩ R hR;obtain⟨n,b,rfl⟩:=hbf y (by rw[hpre];simp)
  have hs:=hsq b;have hg:=hge b;have hbd:JZ m o p q (rU n b)=true->bs.any (JZ m o p q)=true:=HH hpre;have hgo:JZ m o p q (rU n b)=false-> ∀s',_->R s':=fun g=>hR () ⟨_,yH hpre,D3 hany g⟩
  have e1:JZ m o p q (rU n b)=(!(decide (DQ m o p q b=0)&&(if n==0 then RZ p q b else Na p q b))||decide (DQ m o p q b≠0)):=rfl
  rw[e1]at hbd hgo;clear e1 hR hsq hge;generalize RZ p q b=b1 at*;generalize Na p q b=b2 at*;generalize DQ m o p q b=ee at*;repeat' first|simp only[go_sem,seval,rU]|refine cP hs ?_|refine cP hg ?_|refine oE ?_|apply xX<;>intro hc
  all_goals first
   |(rw[hbd (by clear hbd hgo;rcases Classical.em (ee=0)with he|he<;>simp_all),ah rfl];done)
   |(refine hgo (by clear hbd hgo;rcases Classical.em (ee=0)with he|he<;>simp_all) _ ?_;(refine AS.Le.of (by first|decide|omega) ?_ ?_<;>simp[dG,dF,aO,hget,AV.bd,AV.bd.bdL,u8,ar,au,az]);done)
   |skip
theorem nB {l:List Bytes} {x:Nat} (h:x<l.length):(l.map PV.s).getD x .fn0= .s (l.getD x []):=by
 simp[bR,h]
theorem mO {l:List Bytes} {y:PV} (h:y∈l.map PV.s):y.cells.length=1:=by
 obtain⟨c,_,rfl⟩:=cG.1 h;rfl
def dR {α:Type} (p:α->Bool):Nat->List α->Int
 | _,[]=> -1
 |k,x::r=>if p x then(k:Int)else dR p (k+1) r
theorem jd {α:Type} {p:α->Bool}: ∀{l:List α} {k:Nat},0<=dR p k l↔l.any p=true
 |[],k=>by simp[dR]
 |x::r,k=>by
  simp only[dR,List.any_cons];split
  ·rename_i h;simp[h]
  ·rename_i h;simp only[Dx]at h;rw[jd,h,kE]
theorem drop_cons {l:List Bytes} {i:Nat} (h:i<l.length):l.drop i=l.getD i []::l.drop (i+1):=by
 rw[jL h,bR,bG h];rfl
theorem zZ (l:List Bytes) (f:FuncId) (p:Bytes->Bool) (hl:l.length<4611686018427387904) (h: ∀x,aF f [.s x] (.b (p x))):aF 216 [.sl (l.map .s), .fn (.func f)] (E (dR p 0 l)):=by
 refine eW call216 func216 ?_;refine Hw ?_;refine aq (α:=Nat) (fun i=>l.length-i) (fun i=>⟨[(0, .v (.sl (l.map .s))),(1, .v (.fn (.func f))),(7, .v (.i .i64 l.length)),(8, .v (.i .i64 (i:Nat)))],[],_⟩) (fun i=>i<=l.length/\dR p i (l.drop i)=dR p 0 l) 0 (fun _=>aB _) ⟨aT _,rfl⟩ ?_ ?_
 ·exact lE
 ·rintro i ⟨hi,hx⟩ R hR;rw[<-hx]
  by_cases hlt:i<l.length
  ·have e1:=nB hlt;have hf:=h (l.getD i []);have hgo:=hR (i+1);rw[<-hx,drop_cons hlt]at hgo;rw[drop_cons hlt];simp only[dR]at hgo⊢;clear hx hR h;generalize p (l.getD i [])=b at*;repeat' first|simp only[go_sem,seval,e1]|refine cP hf ?_|refine oE ?_|apply xX<;>intro hc
   all_goals first
    |(refine hgo ⟨oO,by simp_all⟩ oO _ ?_;(refine AS.Le.of (by first|decide|omega) ?_ ?_<;>simp[dG,dF,aO,hget,AV.bd,AV.bd.bdL,u8,ar,au,az]);done)
    |(simp_all;done)
    |skip
  ·obtain rfl:i=l.length:=oO;rw[dO];repeat' first|simp only[go_sem,seval]|refine oE ?_|apply xX<;>intro hc
   all_goals simp[dR]
theorem ue (l:List Bytes) (f:FuncId) (p:Bytes->Bool) (hl:l.length<4611686018427387904) (h: ∀x,aF f [.s x] (.b (p x))):aF 121 [.sl (l.map .s), .fn (.func f)] (.b (l.any p)):=by
 have hi:=zZ l f p hl h;have e:decide (dR p 0 l>=0)=l.any p:=by
  rw[cI,decide_eq_true_iff];exact jd
 refine eW call121 func121 ?_;exact ot @e @hi
abbrev T (vs:List Bytes) (sd:Bytes) (at':Int):PV:= .agg [.sl (vs.map .s), .s sd, .i .i64 at']
theorem Nd (x:Bytes):aF 237 [.s x] (.b (!aa x)):=by
 have hv:=aD x;refine eW call237 func237 ?_;exact z1 @hv
def fA (vs:List Bytes) (at':Int):Bool:=decide (at'>=0)&&decide (at'<=2147483647)&& !(vs.any fun x=> !aa x)
theorem BR (vs:List Bytes) (sd:Bytes) (at':Int) (hl:vs.length<4611686018427387904):aF 159 [T vs sd at'] (.b (fA vs at')):=by
 have hcf:=ue vs _ (fun x=> !aa x) hl Nd
 unfold fA;generalize (vs.any fun x=> !aa x)=b at*
 refine eW call159 func159 ?_;repeat' first|simp only[go_sem,seval]|refine cP hcf ?_|refine oE ?_|apply xX<;>intro hc
 all_goals simp_all
 all_goals (intros;omega)
def uQ (vs:List Bytes) (at':Int) (n:Bytes):Int:=if !(fA vs at'&&aa n)then 3 else if n=[]then 11 else 0
theorem zt (vs:List Bytes) (sd:Bytes) (at':Int) (n:Bytes) (hl:vs.length<4611686018427387904):aF 89 [T vs sd at', .s n] (E (uQ vs at' n)):=by
 have hg:=BR vs sd at' hl;have hv:=aD n;unfold uQ;generalize fA vs at'=b at*;generalize aa n=b2 at*;refine eW call89 func89 ?_;exact O5 @hg @hv
def ME (vs:List Bytes) (sd:Bytes) (i:Nat) (n:Bytes):PV:=
 if num n<=num (vs.getD i [])then .tup [.s [],T [] [] 0,E 2]else .tup [.s (vs.getD i []),T vs sd (i+1:Nat),E 0]
theorem pR (l:List Bytes):(l.map PV.s).flatMap PV.cells=l.map PV.s:=by
 induction l with
 |nil=>rfl
 |cons x r ih=>simp_all[PV.cells]
theorem rE {l:List Bytes} {y:AV} (h:y∈List.map AV.v (List.flatMap PV.cells (l.map PV.s))):y.one=true:=by
 rw[pR,kP]at h;obtain⟨c,_,rfl⟩:=cG.1 h;rfl
theorem mw (n:Nat) (x:AV):(List.replicate n [x]).flatten.length=n:=by
 induction n with
 |zero=>rfl
 |succ n ih=>rw[List.replicate_succ,List.flatten_cons,bU,ih,List.length_singleton];omega
theorem Oq (vs:List Bytes):List.drop vs.length (List.replicate vs.length [AV.v (PV.s [])]).flatten=[]/\(List.map AV.v (List.map PV.s vs)).all AV.one=true/\List.take vs.length (List.map AV.v (List.map PV.s vs))=List.map AV.v (List.map PV.s vs)/\chunk 1 vs.length (List.map PV.s vs)=List.map PV.s vs:=by
 refine⟨?_,?_,?_,?_⟩
 ·rw[jM (by rw[mw];exact aB _)]
 ·simp[bJ,AV.one,PV.one]
 ·rw[dc (by simp)]
 ·have:=Gi (List.map PV.s vs);rwa[aR]at this
theorem EC {vs:List Bytes} {i:Nat} (hi:i<vs.length):vs.getD i []∈vs:=by
 rw[bR,bG hi];exact jQ hi
theorem Qu {vs:List Bytes} (sd:Bytes) {i:Nat} {n:Bytes} (hv:vs.all aa=true) (hn:aa n=true) (hi:i<vs.length) (hl:vs.length<1000000):aF 90 [T vs sd i, .s n] (ME vs sd i n):=by
 have hx:aa (vs.getD i [])=true:=bJ.1 hv _ (EC hi);have hcm:=lY (vs.getD i []) n;rw[hx,hn]at hcm;simp only[dW,aA]at hcm;have e1:=nB hi;have e2:(bK (num (vs.getD i [])) (num n)>=0)=(num n<=num (vs.getD i [])):=xY _ _;unfold ME;generalize bK (num (vs.getD i [])) (num n)=cm at*
 by_cases hle:num n<=num (vs.getD i [])
 ·rw[ah hle];have e3:cm>=0:=by rw[e2];exact hle
  refine eW call90 func90 ?_;repeat' first|simp only[go_sem,seval,e1]|refine cP hcm ?_|refine oE ?_|apply xX<;>intro hc
  rfl
 ·rw[af hle];have e3: ¬cm>=0:=by rw[e2];exact hle
  refine eW call90 func90 ?_;refine qN @e1 @hcm ?_;refine⟨⟨fun x hx=>mO hx,fun y hy=>rE hy,by rw[mw];exact aB _⟩,?_⟩
  obtain⟨r1,r2,r3,r4⟩:=Oq vs;refine eJ (aN @e1 (aN @mw (aN @pR (aN @r1 (aN @r2 (aN @r3 (aN @r4 @iI))))))) ?_;simp
theorem Ia {p:Bytes} (vp:aa p=true) (lp:p.length<=8) (h1:1<=num p):aF 219 [.s p] (N ((num p-1)/2)):=by
 have hs:=TH (cU lp) (show 1<(2^64) by decide)
 rw[ah h1,ah h1,eT vp]at hs;have hd:=jC (a:=num p-1) (b:=2) (by have:=cU lp;omega) oC oC
 refine eW call219 func219 ?_;exact zW @CT @wL @Wt @hs @hd
theorem LB {p q:Bytes} (vp:aa p=true) (vq:aa q=true) (lp:p.length<=4) (lq:q.length<=4) (h1:1<=num p) (h2:1<=num q) (hs:Bx p q=0):aF 130 [G p q] (.tup [N ((num p-1)/2*((num q-1)/2)),E 0]):=by
 have v1:=aD p;have v2:=aD q;rw[vp]at v1;rw[vq]at v2;have hsf:=I5 p q;rw[hs]at hsf;have a1:=Ia vp oO h1;have a2:=Ia vq oO h2;have b1:num p<4294967296:=ba (cu p) (cW oC lp);have b2:num q<4294967296:=ba (cu q) (cW oC lq);have hm:=BH (aZ ((num p-1)/2)) (aZ ((num q-1)/2));have hx:(num p-1)/2*((num q-1)/2)<(2^64):=ba (gK (show _<4294967296 by omega) (show _<4294967296 by omega)) oC
 have hl:(num p-1)/2*((num q-1)/2)<dP:=ba hx (by unfold dP;decide+kernel)
 simp only[nC,vN (show(num p-1)/2<(2^64) by omega),vN (show(num q-1)/2<(2^64) by omega),dW,aA,aP,hl]at hm
 refine eW call130 func130 ?_;exact z7 @v1 @v2 @hsf @a1 @a2 @hm oT
def cz.Ix (p:cz):List Bytes:=[p.c,p.sl,p.mm,p.mo,p.mg,p.mh,p.wm,p.wo,p.wg,p.wh,p.se,p.at',p.ha,p.el,p.es,p.bl,p.ma]
theorem xH (p:cz):aF 107 [p.pv] (.sl (p.Ix.map .s)):=by
 obtain⟨c,sl,mm,mo,mg,mh,wm,wo,wg,wh,se,at',ha,el,es,bl,ma⟩:=p;unfold cz.pv cz.Ix;simp only;refine eW call107 func107 ?_;exact z0
theorem lX (n1 n2 nm:Nat) (hne:n1≠n2) {a b m:Nat} (o:Bytes) (el el2:Option TypeId) (ha:a<(2^64)) (hb:b<(2^64)) (hm:m<(2^64)) (h0:0<m):jU prog 95 nm [(n1,⟨0,[.v (N a)],false,el⟩),(n2,⟨0,[.v (N m), .v (.s o)],false,el2⟩)] [.v (N b), .p n1 0 0, .p n2 0 0] (.tup []) [(n1,some ⟨0,[.v (N (a*b%m))],false,el⟩)]:=by
 have hx:=Nx ha hb hm h0;refine jU.w mixed call95 func95 rfl (j5.1 _ _ _ (by cbv)) (j5.2 _ _ (by cbv)) (obs:=[⟨0,[.v (N a)],false,el⟩,⟨0,[.v (N m), .v (.s o)],false,el2⟩]) (args:=[.v (N b), .p 0 0 0, .p 1 0 0]) (fs:=[some (some ⟨0,[.v (N (a*b%m))],false,el⟩),none]) (j:=none) (nw:=none) (v:= .tup []) (ns:=[n1,n2]) (obsA:=[⟨0,[.v (N a)],false,el⟩,⟨0,[.v (N m), .v (.s o)],false,el2⟩]) rfl ?_ (by simp) (by simp[hne]) rfl (by simp[aU,aC.ren,AV.ren,AV.ren.renL]) (by simp[aU,AV.ren,cT,hne,kA hne]) (by simp[AV.ren,AV.ren.renL]) (by simp[fT,outs,aC.ren,AV.ren,AV.ren.renL])
 simp only[go_sem,seval];repeat' first|simp only[go_sem,seval,true_or,or_true,false_or,or_false,ai,iU,e7,iA,fN,gn,eN,pz,pI,gU,iF,dr,aK,AV.ren,AV.ren.renL,aI]|refine cP hx ?_|refine oE ?_|apply xX<;>intro hc
 all_goals skip
theorem Kn {x:AV}:(List.replicate 1 [x]).flatten=[x]:=rfl
theorem AK {x:AV}:List.drop 1 [x]=[]:=rfl
theorem qd {x:AV}:List.take 1 [x]=[x]:=rfl
theorem KZ {x y:AV}:List.set [x] 0 y=[y]:=rfl
theorem Sz {n:Nat}:n/2^cH n=0:=by
 refine iO ?_;unfold cH;split
 ·rename_i h;rw[h];decide
 ·rename_i h;exact tT
theorem N8 {m x:Bytes} (hx:cL m [] x=true):aa x=true/\num x<num m/\aa m=true/\8<num m:=by
 have h:=hx;simp only[cL,dH,aV,bc]at h;exact⟨h.1.1.1.2,h.1.2,h.1.1.1.1.1.1.1,h.1.1.1.1.2⟩
theorem lH (x:PV) (l:List PV):mF (.v x::l.map .v)=some (x::l):=by
 have h: ∀l:List PV,mF (l.map .v)=some l:=by
  intro l
  induction l with
  |nil=>rfl
  |cons y l ih=>
   unfold mF at ih⊢;rw[br,aU,ih];rfl
 have:=h (x::l);exact this
end Go.Proofs.Tryz
namespace Go.Proofs.Tryz
open Go Go.Dom Go.Num
variable {S i len:Nat} {vs:List Bytes}
def Uh:Bytes:=[98,97,110,107]
def K0:Key:=⟨Uh,[77],[],[],[4],[[],[]],[],[]⟩
def K1:Key:=⟨Uh,[77],[],[64],[4],[[23],[1]],[16],[60]⟩
abbrev V3:aC:=⟨0,[.v (.s []), .v (.s [])],false,none⟩
def K2:Key:=⟨Uh,[77],[],[64],[4],[[23],[1]],[64],[60]⟩
theorem xZ (vs:List Bytes) (sd:Bytes) (at':Int) (a:Nat):aF 238 [T vs sd at', .i .i64 a] (.fc 311 [] [.pt (T vs sd at') 0, .pt (.agg [.i .i64 a]) 0]):=by
 refine eW call238 func238 ?_;exact z0
theorem Mi (sd:Bytes) (at' a:Nat): ∀(k b:Nat),∀y∈JF sd at' a b k,y.length=1:=by
 intro k
 induction k with
 |zero=>intro b y hy;cases hy
 |succ k ih=>
  intro b y hy
  cases hy with
  |head=>rfl
  |tail _ h=>exact ih _ _ h
def oP (size:Nat):Nat:=max 1 ((size+31)/32)
def sw (sd:Bytes) (at' a:Nat):Nat->Bytes
 |0=>[]
 |k+1=>sw sd at' a k++BP sd at' a k
def Ir:Bytes->Nat->Bytes
 |[],_=>[]
 |x::r,d=>UInt8.ofNat (x.toNat%2^(8-d))::r
theorem Q4: ∀(d:Fin 8) (x:Fin 256),my .u8 (x.val:Int) (Int.fdiv 255 (2^d.val))=((UInt8.ofNat (x.val%2^(8-d.val))).toNat:Int):=by decide+kernel
theorem mL (c:UInt8) (r:Bytes):aH (c::r)= .v (.i .u8 (c.toNat:Int))::aH r:=rfl
def jo:Bytes->Bytes
 |[]=>[]
 |x::r=>if x=0 then jo r else x::r
def F5 (sd:Bytes) (at' a len:Nat):Bytes:=jo (Ir ((sw sd at' a (oP ((len+7)/8))).take ((len+7)/8)) (8*((len+7)/8)-len))
theorem Bg (h:1<=S) (x:UInt8) (r:Bytes) (d:Nat):Ir (List.take S (x::r)) d=List.take S (UInt8.ofNat (x.toNat%2^(8-d))::r):=by
 obtain⟨S,rfl⟩: ∃m,S=m+1:=⟨S-1,oO⟩;rfl
theorem MF {q:Bytes} (h:i<S) (hS:S<=q.length):(q.take S).drop i=q.getD i 0::(q.take S).drop (i+1):=by
 rw[jL (by rw[da];omega),List.getElem_take,bR,bG oO];rfl
theorem H2 (q:Bytes) (S i:Nat):List.take (S-i) (List.drop i (aH q))=aH ((q.take S).drop i):=by
 rw[aH,aH,tW,xu,wW]
theorem xM (l:Bytes): ∀y∈aH l,y.isByte:=by
 intro y hy;obtain⟨c,_,rfl⟩:=cG.1 hy;exact oT
theorem F6 {sd:Bytes} {at' a:Nat} (hv:vs.length<1000000) (hsd:sd.length<1000000) (ha:at'<4294967296) (ha2:a<4294967296) (hl0:0<len) (hl:len<100000):aF 160 [T vs sd at', .i .i64 a, .i .i64 len] (.s (F5 sd at' a len)):=by
 have hb:=xZ vs sd at' a;have hit:=JH (vs:= .sl (vs.map .s)) (sd:=sd) (at':=at') (a:=a) (k:=oP ((len+7)/8)) hsd (by unfold oP;omega) ha ha2
 have hsz: ∀ _:True,IntKind.i64.wrap (((len:Int)+7).tdiv 8)=(((len+7)/8:Nat):Int):=by
  intro _;rw[Int.tdiv_eq_ediv_of_nonneg oO,IntWalk.i64_in _ oO];omega
 have hs1:1<=(len+7)/8/\(len+7)/8<=13000:=oO;have hlen: ∀b,(BP sd at' a b).length=32:=fun b=>by unfold BP Ny;rw[jf]
 have hcat: ∀k,(sw sd at' a k).length=32*k:=by
  intro k
  induction k with
  |zero=>rfl
  |succ k ih=>rw[sw,bU,ih,hlen];omega
 have hR: ∀k,k<oP ((len+7)/8)-> ¬(len+7)/8<=32*k\/k=0:=by intro k h;unfold oP at h;omega
 refine eW call160 func160 ?_;refine qN (hsz oT) @hb ?_;unfold F5;generalize hS:(len+7)/8=S at*;refine xA hit rfl ?_ ?_
 ·intro y hy;exact Mi _ _ _ _ _ y hy
 refine RL (α:=Nat) (fun k=>match k with|0=>⟨[(7, .p 1005 0 0),(8, .p 1007 0 0),(2, .v (.i .i64 len))],[(1005,⟨0,[.v (.i .i64 S)],false,some 3⟩),(1007,⟨0,[.sn],false,some 140⟩)],1011⟩|k+1=>⟨[(7, .p 1005 0 0),(8, .p 1007 0 0),(2, .v (.i .i64 len))],[(1005,⟨0,[.v (.i .i64 S)],false,some 3⟩),(1007,⟨0,[.rs 1014 k 0 (32*(k+1)) 1],false,some 140⟩),(1014,⟨k,aH (sw sd at' a (k+1)),true,some 5⟩)],1020⟩) (fun xs k=>k<oP S/\xs=JF sd at' a k (oP S-k)) 0 ?_ ⟨by unfold oP;omega,rfl⟩ ?_ ?_ ?_
 ·intro k;cases k
  ·exact aB _
  ·show 1011<=1020;decide
 ·refine AS.Le.of oC ?_ ?_<;>simp[dG,dF,aO,hget,AV.bd,AV.bd.bdL]
 ·rintro k ⟨h1,h2⟩;obtain⟨m,hm⟩: ∃m,oP S-k=m+1:=⟨oP S-k-1,oO⟩;rw[hm]at h2;cases h2
 ·rintro y ys k ⟨h1,h2⟩ R hRR;obtain⟨m,hm⟩: ∃m,oP S-k=m+1:=⟨oP S-k-1,oO⟩;rw[hm]at h2;injection h2 with e1 e2
  subst e1 e2;have hkb:k<1000:=by unfold oP at h1;omega
  have hx:=hlen k;have hc:=hcat k;have ho:=hcat (k+1);have hc1:sw sd at' a k++BP sd at' a k=sw sd at' a (k+1):=rfl;have hgo:k+1<oP S-> _:=fun h=>hRR (k+1) ⟨h,by rw[show oP S-(k+1)=m from by omega]⟩
  clear hRR hit hb hcat hlen
  by_cases hf:S<=32*(k+1)
  ·have hk:oP S=k+1:=by unfold oP at h1⊢;omega
   rw[hk];clear hgo hR;have hd1: ∀ _:True,(8*(S:Int)-len).toNat=8*S-len:=fun _=>oO
   have hd2:8*S-len<8:=oO;have hd3:(if 8*S-len<=8 then 8*S-len else 8)=8*S-len:=by rw[ah];omega
   have hmask:=fun x:UInt8=>Q4 ⟨8*S-len,hd2⟩ ⟨x.toNat,x.toNat_lt⟩
   simp only at hmask;generalize hd:8*S-len=d at*;generalize hcc:sw sd at' a (k+1)=o at*;obtain⟨x0,r,rfl⟩: ∃x0 r,o=x0::r:=by
    cases o with
    |nil=>simp at ho
    |cons x0 r=>exact⟨_,_,rfl⟩
   cases k with
   |zero=>
    generalize BP sd at' a 0=x at*;generalize sw sd at' a 0=c at*;obtain rfl:c=[]:=kD hc;obtain rfl:x=x0::r:=hc1;refine eJ (aN @hx (aN @mL (aN (hd1 oT) (aN @hd3 @hmask)))) ?_;rw[Bg hs1.1];simp only[<-mL];generalize hq:UInt8.ofNat (x0.toNat%2^(8-d))::r=q at*;have hql:q.length=32*(0+1):=by rw[<-hq];simpa using ho
    refine aq (α:=Nat) (fun i=>S-i) (fun i=>⟨[(8, .p 1007 0 0)],[(1007,⟨0,[.rs 1014 0 i (S-i) 1],false,some 140⟩),(1014,⟨0,aH q,true,some 5⟩)],1037⟩) (fun i=>i<=S/\jo ((q.take S).drop i)=jo (q.take S)) 0 (fun _=>aB _) ⟨aT _,rfl⟩ ?_ ?_
    ·refine AS.Le.of oC ?_ ?_<;>simp[dG,dF,aO,hget,AV.bd,AV.bd.bdL,au]
    ·rintro i ⟨hi,hst⟩ R2 hR2;rw[<-hst]
     by_cases hlt:i<S
     ·have e1:=MF (q:=q) hlt oO;have e2:=jt (l:=q) (i:=i) oO;have e3: ∀ _:True,((S-i:Nat):Int)=(S:Int)-i:=fun _=>oO
      have e4:=H2 q S i
      by_cases hz:q.getD i 0=0
      ·have hgo2:=hR2 (i+1) ⟨hlt,by rw[<-hst,e1,jo,ah hz]⟩ oO
       clear hR2;refine eJ (aN @e2 @hz) ?_;refine hgo2 _ ?_;refine AS.Le.of oO ?_ ?_<;>simp[dG,dF,aO,hget,AV.bd,AV.bd.bdL,au,Nat.sub_sub]
      ·rw[e1,jo,af hz,<-e1];have hz2: ∀ _:True,(((q.getD i 0).toNat:Int)==0)=false:=fun _=>by
        rw[dY];intro h;exact hz (jN.1 (by exact_mod_cast h))
       refine eJ (aN @e2 (hz2 oT)) ?_;rw[e4];exact⟨⟨oO,xM _⟩,by rw[kU]⟩
     ·obtain rfl:i=S:=oO;refine xy ?_;rw[iX,List.take_zero,jM (by rw[da];omega)]
      exact⟨⟨oO,fun y hy=>by cases hy⟩,rfl⟩
   |succ k=>
    dsimp only;generalize BP sd at' a (k+1)=x at*;generalize sw sd at' a (k+1)=c at*;have htk:List.take (32*(k+1)) (aH c)=aH c:=by rw[<-hc];exact ju _
    refine eJ (aN @hx (aN @hc1 (aN @htk (aN @mL (aN (hd1 oT) (aN @hd3 @hmask)))))) ?_;rw[Bg hs1.1];simp only[<-mL];generalize hq:UInt8.ofNat (x0.toNat%2^(8-d))::r=q at*;have hql:q.length=32*(k+1+1):=by rw[<-hq];simpa using ho
    refine aq (α:=Nat) (fun i=>S-i) (fun i=>⟨[(8, .p 1007 0 0)],[(1007,⟨0,[.rs 1014 (k+1) i (S-i) 1],false,some 140⟩),(1014,⟨(k+1),aH q,true,some 5⟩)],1046⟩) (fun i=>i<=S/\jo ((q.take S).drop i)=jo (q.take S)) 0 (fun _=>aB _) ⟨aT _,rfl⟩ ?_ ?_
    ·refine AS.Le.of oC ?_ ?_<;>simp[dG,dF,aO,hget,AV.bd,AV.bd.bdL,au]
    ·rintro i ⟨hi,hst⟩ R2 hR2;rw[<-hst]
     by_cases hlt:i<S
     ·have e1:=MF (q:=q) hlt oO;have e2:=jt (l:=q) (i:=i) oO;have e3: ∀ _:True,((S-i:Nat):Int)=(S:Int)-i:=fun _=>oO
      have e4:=H2 q S i
      by_cases hz:q.getD i 0=0
      ·have hgo2:=hR2 (i+1) ⟨hlt,by rw[<-hst,e1,jo,ah hz]⟩ oO
       clear hR2;refine eJ (aN @e2 @hz) ?_;refine hgo2 _ ?_;refine AS.Le.of oO ?_ ?_<;>simp[dG,dF,aO,hget,AV.bd,AV.bd.bdL,au,Nat.sub_sub]
      ·rw[e1,jo,af hz,<-e1];have hz2: ∀ _:True,(((q.getD i 0).toNat:Int)==0)=false:=fun _=>by
        rw[dY];intro h;exact hz (jN.1 (by exact_mod_cast h))
       refine eJ (aN @e2 (hz2 oT)) ?_;rw[e4];exact⟨⟨oO,xM _⟩,by rw[kU]⟩
     ·obtain rfl:i=S:=oO;refine xy ?_;rw[iX,List.take_zero,jM (by rw[da];omega)]
      exact⟨⟨oO,fun y hy=>by cases hy⟩,rfl⟩
  ·have hgo:=hgo (by unfold oP;omega)
   cases k with
   |zero=>
    generalize BP sd at' a 0=x at*;refine eJ @hx ?_;refine hgo _ ?_;have hx1:sw sd at' a 1=x:=hc1.symm;refine AS.Le.of oC ?_ ?_<;>simp[dG,dF,aO,hget,AV.bd,AV.bd.bdL,hx1,au]
   |succ k=>
    have htk:List.take (32*(k+1)) (aH (sw sd at' a (k+1)))=aH (sw sd at' a (k+1)):=by rw[<-hc];exact ju _
    generalize BP sd at' a (k+1)=x at*;repeat' first|simp only[go_sem,seval,hx,hc1]|refine oE ?_|apply xX<;>intro hc
    all_goals first
     |omega
     |skip
    refine hgo _ ?_;refine AS.Le.of oC ?_ ?_<;>simp[dG,dF,aO,hget,AV.bd,AV.bd.bdL,htk,j6,hc1,au];omega
theorem zH: ∀l:Bytes,(jo l).length<=l.length
 |[]=>aB _
 |x::r=>by
  rw[jo];split
  ·have:=zH r;rw[List.length_cons];omega
  ·exact aB _
theorem vL: ∀l:Bytes,((jo l).length==0||(jo l).headD 0 !=0)=true
 |[]=>rfl
 |x::r=>by
  rw[jo];split
  ·exact vL r
  ·rename_i h;simp[h]
theorem Kl (l:Bytes) (d:Nat):(Ir l d).length=l.length:=by cases l<;>rfl
theorem xK (sd:Bytes) (at' a:Nat) (h:len<=1024):aa (F5 sd at' a len)=true:=by
 unfold aa;rw[aV];refine⟨aS ?_,vL _⟩;have:=zH (Ir ((sw sd at' a (oP ((len+7)/8))).take ((len+7)/8)) (8*((len+7)/8)-len));rw[Kl,da]at this;unfold F5;omega
def Fs (f:Nat->Bytes) (n a:Nat):Nat->Option Bytes
 |0=>none
 |k+1=>if num (f a)<n then some (f a)else Fs f n (a+1) k
def jc (vs:List Bytes) (sd:Bytes) (i:Nat) (n:Bytes):Except Int Bytes:=
 if i<vs.length then(if num n<=num (vs.getD i [])then .error 2 else .ok (vs.getD i []))
 else if sd=[]\/i=2147483647 then .error 14
 else match Fs (fun a=>F5 sd i a (cH (num n))) (num n) 0 256 with
  |some x=> .ok x
  |none=> .error 14
def vg (vs:List Bytes) (sd:Bytes) (i:Nat):Except Int Bytes->PV
 | .ok x=> .tup [.s x,T vs sd (i+1:Nat),E 0]
 | .error e=> .tup [.s [],T [] [] 0,E e]
theorem D9 {n:Bytes} (hn:aa n=true):cH (num n)<=1024:=by
 have h1:=cu n;have h2:n.length<=128:=by
  unfold aa at hn;rw[aV]at hn;exact of_decide_eq_true hn.1
 have h3:num n<2^1024:=ba h1 (by rw[show(2:Nat)^1024=256^128 by decide+kernel];exact cW oC h2)
 unfold cH;split
 ·omega
 ·rename_i h;have:=(wR h).2 h3;omega
theorem Mw (x y:Nat):decide (bK x y<0)=decide (x<y):=by
 have e:=xY x y;rw[eq_iff_iff]at e;rw[jm];omega
theorem O9 (x y:Nat):decide (bK x y>=0)= !decide (x<y):=by
 have e:=xY x y;rw[eq_iff_iff]at e
 by_cases h:x<y
 ·rw[aS h,b9 (fun g=>by have:=e.1 g;omega)];rfl
 ·rw[b9 h,aS (e.2 oO)];rfl
theorem Ek {sd:Bytes} {n:Bytes} (hv:vs.all aa=true) (hn:aa n=true) (h0:num n≠0) (hi:i<=2147483647) (hl:vs.length<1000000) (hsd:sd.length<1000000):aF 90 [T vs sd i, .s n] (vg vs sd i (jc vs sd i n)):=by
 by_cases hiv:i<vs.length
 ·have h:=Qu sd hv hn hiv hl;unfold ME at h;unfold jc;rw[ah hiv];split
  ·rename_i hle;rw[ah hle]at h;exact h
  ·rename_i hle;rw[af hle]at h;exact h
 unfold jc;rw[af hiv]
 by_cases hs:sd=[]\/i=2147483647
 ·rw[ah hs];have hnl: ∀ _:True,(([]:Bytes)==[])=true:=fun _=>rfl
  have h47: ∀ _:True,((2147483647:Int)==2147483647)=true:=fun _=>rfl
  rcases hs with rfl|rfl
  ·refine eW call90 func90 ?_;exact oo (hnl oT)
  ·cases hsb:sd==[]with
   |true=>
    refine eW call90 func90 ?_;exact oo @hsb
   |false=>
    refine eW call90 func90 ?_;exact oo (aN @hsb (h47 oT))
 rw[af hs];have hs1:sd≠[]:=fun h=>hs (.inl h)
 have hs2:i≠2147483647:=fun h=>hs (.inr h)
 have hbl:=D9 hn;have hb0:0<cH (num n):=by unfold cH;rw[af h0];omega
 have hB:=wu hn;have hA:=fun a (ha:a<256)=>F6 (vs:=vs) (sd:=sd) (at':=i) (a:=a) (len:=cH (num n)) hl hsd oO oO hb0 oO
 have hC:=fun a=>lY (F5 sd i a (cH (num n))) n
 have hV:=fun a=>xK sd i a hbl
 obtain⟨r1,r2,r3,r4⟩:=Oq vs;have hsb:(sd==[])=false:=by rw[dY];exact hs1
 have hi47: ∀ _:True,((i:Int)==2147483647)=false:=fun _=>by rw[dY];omega
 generalize hf:(fun a=>F5 sd i a (cH (num n)))=f
 have hA: ∀a:Nat,a<256->aF 160 [T vs sd i, .i .i64 a, .i .i64 (cH (num n))] (.s (f a)):=by rw[<-hf];exact hA
 have hC: ∀a,aF 39 [.s (f a), .s n] (E (bK (num (f a)) (num n))):=by
  intro a;have h:=hC a;rw[hV,hn]at h;rw[<-hf];exact h
 refine eW call90 func90 ?_;refine eJ (aN @hsb (hi47 oT)) ?_;refine⟨⟨fun x hx=>mO hx,fun y hy=>rE hy,by rw[mw];exact aB _⟩,?_⟩
 refine aq (α:=Nat) (fun a=>256-a) (fun a=>⟨[(73, .v (.i .i64 a)),(1, .v (.s n)),(2, .p 1000 0 0),(5, .p 1002 0 0),(7, .p 1047 0 0)],[(1000,⟨0,[.v (.sl (vs.map .s)), .v (.s sd), .v (.i .i64 i)],false,none⟩),(1002,⟨0,[.sn, .v (.s []), .v (.i .i64 0)],false,some 56⟩),(1040,⟨0,List.map AV.v (vs.map .s),false,none⟩),(1047,⟨0,[.rs 1040 0 0 vs.length 1, .v (.s sd), .v (.i .i64 ((i:Int)+1))],false,some 56⟩)],1061⟩) (fun a=>a<=256/\Fs f (num n) a (256-a)=Fs f (num n) 0 256) 0 (fun _=>aB _) ⟨aT _,rfl⟩ ?_ ?_
 ·refine AS.Le.of oC ?_ ?_<;>simp[dG,dF,aO,hget,AV.bd,AV.bd.bdL,pR,r1,r3];rw[dc (by simp)]
 ·rintro a ⟨ha,hst⟩ R hR;rw[<-hst]
  by_cases hlt:a<256
  ·obtain⟨m,hm⟩: ∃m,256-a=m+1:=⟨255-a,oO⟩;have hAa:=hA a hlt;have hCa:=hC a;have hgo:=hR (a+1);rw[hm,Fs]
   by_cases hle:num (f a)<num n
   ·rw[ah hle];have hcm: ∀ _:True,decide (bK (num (f a)) (num n)<0)=true:=fun _=>by rw[Mw];exact aS hle
    generalize bK (num (f a)) (num n)=cm at*;repeat' first|simp only[go_sem,seval,hcm oT,r1,r2,r3,r4,pR,iI]|refine cP hB ?_|refine cP hAa ?_|refine cP hCa ?_|refine oE ?_|apply xX<;>intro hc
    rfl
   ·rw[af hle];have hgo:=hgo ⟨hlt,by rw[<-hst,hm,Fs,af hle,show 256-(a+1)=m from by omega]⟩ oO
    have hcm: ∀ _:True,decide (bK (num (f a)) (num n)<0)=false:=fun _=>by rw[Mw];exact b9 hle
    generalize bK (num (f a)) (num n)=cm at*;refine zT (hcm oT) @hB @hAa @hCa oT ?_;refine hgo _ ?_;refine AS.Le.of oC ?_ ?_<;>simp[dG,dF,aO,hget,AV.bd,AV.bd.bdL]
  ·obtain rfl:a=256:=oO;exact z0
theorem Od {n:Bytes} (hv:vs.all aa=true) (hn:aa n=true) (h0:n≠[]) (hi:i<=2147483647):uQ vs i n=0:=by
 have h1:(vs.any fun x=> !aa x)=false:=by
  rw[dA];intro g;obtain⟨x,hx,h⟩:=nj.1 g;simp[bJ.1 hv x hx]at h
 have h2:fA vs i=true:=by
  unfold fA;rw[h1,aS (show(i:Int)>=0 by omega),aS (show(i:Int)<=2147483647 by omega)];rfl
 simp[uQ,h2,hn,h0]
theorem GF {n:Bytes} (hn:aa n=true) (h0:n≠[]):num n≠0:=fun h=>h0 ((sK hn).1 h)
theorem nI {sd:Bytes} {n:Bytes} (hv:vs.all aa=true) (hn:aa n=true) (h0:n≠[]) (hi:i<=2147483647) (hl:vs.length<1000000) (hsd:sd.length<1000000):aF 40 [T vs sd i, .s n] (vg vs sd i (jc vs sd i n)):=by
 have h1:=zt vs sd i n oO;rw[Od hv hn h0 hi]at h1;have h2:=Ek (sd:=sd) hv hn (GF hn h0) hi hl hsd;generalize jc vs sd i n=r at*
 cases r with
 |ok x=>
  unfold vg at*;refine eW call40 func40 ?_;exact z2 @h1 @h2
 |error e=>
  unfold vg at*;refine eW call40 func40 ?_;exact z2 @h1 @h2
theorem LU {α:Type} (l:List α) (p:α->Bool):(l.any fun x=> !p x)= !l.all p:=by
 induction l with
 |nil=>rfl
 |cons x l ih=>rw[List.any_cons,List.all_cons,ih];cases p x<;>simp
theorem ED {a:Int} (h:fA vs a=true):vs.all aa=true/\0<=a/\a<=2147483647:=by
 unfold fA at h;rw[LU,wT]at h;simp only[aV,bc]at h;exact⟨h.2,h.1.1,h.1.2⟩
theorem Nf (h:vs.all aa=true) (hi:i<=2147483647):fA vs i=true:=by
 unfold fA;rw[LU,h,aS (show(i:Int)>=0 by omega),aS (show(i:Int)<=2147483647 by omega)];rfl
