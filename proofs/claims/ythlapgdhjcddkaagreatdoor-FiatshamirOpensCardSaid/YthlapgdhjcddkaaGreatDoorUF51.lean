/- Part of the proof. -/
import Derived.Test.YthlapgdhjcddkaaGreatDoorUF44
set_option linter.all false
set_option maxHeartbeats 16000000
set_option maxRecDepth 100000
namespace Go.Proofs.YthlapgdhjcddkaaGreatDoor
open Go Go.Dom Go.ChangeShapes Go.WideShapes Go.ChangeAt Go.RowKit Go.Proofs.Tryz
theorem cLN:Tryz.prog.cellsOf 40=1:=by kernel_rfl
section
variable {H:Type} {enc:TypeId×Value->H} {P:Program}
end
end Go.Proofs.YthlapgdhjcddkaaGreatDoor
namespace Go.Dom
theorem F1 {G:List Gt} {v:Int->Nat->Nat->Bool×Nat×Nat} (hv: ∀k n c,(v k n c).1=true->k=(n:Int)/\n<(v k n c).2.1/\iU G n<iU G (v k n c).2.1/\zC G n c (v k n c).2): ∀(l:List Int) (n c:Nat),(ix v l n c).1=true->zC G n c (ix v l n c).2/\l.length+iU G n<=iU G (ix v l n c).2.1/\ ∀k∈l,(n:Int)<=k/\k<(ix v l n c).2.1
 |[],n,c,_=>by
  rw[ix];exact⟨⟨aA _,rfl,fun j a b=>aJ b (Nat.not_lt.2 a)⟩,by simp,fun k hk=>by cases hk⟩
 |k::r,n,c,h=>by
  rw[ix]at h⊢
  split at h
  case isFalse=>cases h
  rename_i h1;rw[af h1];obtain⟨rfl,a1,a2,a3⟩:=hv k n c h1;obtain⟨b1,b2,b3⟩:=F1 hv r _ _ h;have b4:=b1.le;refine⟨a3.app b1,by rw[List.length_cons];omega,fun k hk=> ?_⟩
  rcases cM.1 hk with rfl|hk
  ·omega
  ·have:=b3 k hk;omega
theorem G4 (G:List Gt): ∀(f:Nat) (k:Int) (n c:Nat),(eN G f k n c).1=true->k=(n:Int)/\n<(eN G f k n c).2.1/\iU G n<iU G (eN G f k n c).2.1/\zC G n c (eN G f k n c).2
 |0,_,_,_,h=>by cases h
 |f+1,k,n,c,h=>by
  rw[eN]at h⊢
  split at h
  case isTrue=>cases h
  rename_i g1;rw[aa g1];have hk:k=n:=Classical.byContradiction fun e=>g1 (.inl e)
  have l1:iU G (n+1)=iU G n+if(G.getD n eC).kids=[]then 1 else 0:=rfl
  split at h
  case isTrue=>
   rename_i g2;rw[af g2]at l1⊢;simp only[bc,a8]at h;refine⟨hk,sC _,by simp only;omega,qp _,by simp only;omega,fun j j1 j2=> ?_⟩
   obtain rfl:j=n:=by simp only at j2;omega
   exact⟨fun _=>by omega,fun e=>aJ g2 e⟩
  rename_i g2;rw[aa g2]at l1⊢
  split at h
  case isTrue=>cases h
  rename_i g3;rw[aa g3];obtain⟨a1,a2,a3⟩:=F1 (G4 G f) _ _ _ h;obtain⟨b1,b2,b3⟩:=a1;have hp:0<(G.getD n eC).kids.length:=gF.2 g2;refine⟨hk,by omega,by omega,by omega,by omega,fun j j1 j2=> ?_⟩
  by_cases hj:j=n
  ·subst hj;refine⟨fun e=>aJ e g2,fun _=>⟨?_,?_,by omega,fun k hk=>by have:=a3 k hk;omega⟩⟩
   ·exact Classical.byContradiction fun e=>g3 (.inl (by omega))
   ·exact Classical.byContradiction fun e=>g3 (.inr (.inl (by omega)))
  ·obtain⟨c1,c2⟩:=b3 j (by omega) j2
   exact⟨fun e=>by have:=c1 e;omega,c2⟩
theorem HN {G:List Gt} {c:Nat} (h:DI G=some c):IM G c:=by
 by_cases h0:G=[]
 ·subst h0;have:c=0:=by unfold DI at h;rw[af rfl]at h;injection h with h;exact h.symm
  subst this;exact⟨rfl,fun j hj=>aJ hj (kI _),fun j hj=>aJ hj (kI _)⟩
 ·obtain⟨e,-⟩:=yA h h0;obtain⟨-,-,-,hs⟩:=G4 G (G.length+1) 0 0 0 (by rw[e])
  rw[e]at hs;obtain⟨-,a2,a3⟩:=hs;simp only at a2 a3;have z:iU G 0=0:=rfl;refine⟨by omega,fun j hj hk=> ?_,fun j hj hk=> ?_⟩
  ·have:=(a3 j (aD _) hj).1 hk;omega
  ·obtain⟨b1,b2,b3,b4⟩:=(a3 j (aD _) hj).2 hk;exact⟨b1,b2,by omega,b4⟩
def QY (i:Nat) (g:Gt):Bool:=decide (g.kids=[])&&decide (g.leaf=(i:Int))
theorem Jw (G:List Gt): ∀(n i:Nat),i<iU G n-> ∃j,j<n/\(G.getD j eC).kids=[]/\iU G j=i
 |0,i,h=>aJ h (kI _)
 |n+1,i,h=>by
  rw[iU]at h
  by_cases hi:i<iU G n
  ·obtain⟨j,a,b⟩:=Jw G n i hi;exact⟨j,by omega,b⟩
  ·split at h
   ·rename_i hk;exact⟨n,sC _,hk,by omega⟩
   ·omega
theorem SY {G:List Gt} {a b:Nat} (ha:(G.getD a eC).kids=[]) (hb:(G.getD b eC).kids=[]) (h:iU G a=iU G b):a=b:=by
 have key: ∀{x y:Nat},(G.getD x eC).kids=[]->x<y->iU G x<iU G y:=fun{x y} hx hxy=>by
  have h1:iU G (x+1)=iU G x+if(G.getD x eC).kids=[]then 1 else 0:=rfl
  rw[af hx]at h1;have:=wH G (show x+1<=y from hxy)
  omega
 rcases yT a b with g|g|g
 ·have:=key ha g;omega
 ·exact g
 ·have:=key hb g;omega
end Go.Dom
namespace Go.Dom
open Go.Num
theorem nF {q:Nat} (h:ia q=true):2<=q/\(q∈cJ\/ ∀p∈cJ,¬q%p=0):=by
 unfold ia at h
 split at h
 ·exact aJ h (by decide)
 ·rename_i h2;refine⟨by omega,?_⟩
  split at h
  ·rename_i p hf;have:=List.mem_of_find?_eq_some hf;exact .inl (by rw[show q=p by simpa using h];exact this)
  ·rename_i hf;exact .inr fun p hp hz=>by
    have:=List.find?_eq_none.1 hf p hp;simp[hz]at this
end Go.Dom
namespace Go.Proofs.Tryz
open Go Go.Dom Go.Num
variable {c ch sl:Bytes} {cl:ik} {gs:List Bytes} {ls:List (List (Bool×Bytes))} {rs:List (Bool×Bytes)}
theorem xP (l:List Bytes) (f:FuncId) (c:List PV) (p:Bytes->Bool) (hl:l.length<4611686018427387904) (h: ∀x∈l,aH f (PV.s x::c) (.b (p x))):aH 73 [.sl (l.map PV.s), .fc f [] c] (E (dk p 0 l)):=by
 have hlm:(l.map PV.s).length=l.length:=au ..;refine eW call73 func73 ?_;refine dh @hlm ?_;refine ah (α:=Nat) (fun i=>l.length-i) (fun i=>⟨[(0, .v (.sl (l.map PV.s))),(1, .v (.fc f [] c)),(7, .v (.i .i64 l.length)),(8, .v (.i .i64 (i:Nat)))],[],_⟩) (fun i=>i<=l.length/\dk p i (l.drop i)=dk p 0 l) 0 (fun _=>aA _) ⟨aD _,rfl⟩ ?_ ?_
 ·exact lE
 ·rintro i ⟨hi,hx⟩ R hR;rw[<-hx]
  by_cases hlt:i<l.length
  ·have e1:=getD_map PV.s l ([]:Bytes) hlt;have hf:=h (l.getD i ([]:Bytes)) (ai ([]:Bytes) hlt);have hgo:=hR (i+1);rw[<-hx,aE ([]:Bytes) hlt]at hgo;rw[aE ([]:Bytes) hlt];simp only[dk]at hgo⊢;clear hx hR h;obtain⟨b,hb⟩: ∃b,b=p (l.getD i ([]:Bytes)):=⟨_,rfl⟩;rw[<-hb]at hf hgo⊢;clear hb;obtain⟨x,hxx⟩: ∃x,x=l.getD i ([]:Bytes):=⟨_,rfl⟩;rw[<-hxx]at e1 hf;clear hxx;obtain xn:=x
   try simp only[PV.s]at e1 hf
   cases b
   ·have hgo:=hgo ⟨oO,rfl⟩ oO;repeat' first|simp only[go_sem,seval,hlm,e1]|(refine fX hf (iO _ _) ?_)|refine oE ?_|apply xX<;>intro hc
    refine hgo _ ?_;exact lE
   ·repeat' first|simp only[go_sem,seval,hlm,e1]|(refine fX hf (iO _ _) ?_)|refine oE ?_|apply xX<;>intro hc
    all_goals rfl
  ·obtain rfl:i=l.length:=oO;rw[bw];repeat' first|simp only[go_sem,seval,hlm]|refine oE ?_|apply xX<;>intro hc
   all_goals simp[dk]
theorem sW (l:List Bytes) (f:FuncId) (c:List PV) (p:Bytes->Bool) (hl:l.length<4611686018427387904) (h: ∀x∈l,aH f (PV.s x::c) (.b (p x))):aH 31 [.sl (l.map PV.s), .fc f [] c] (.b (l.any p)):=by
 have hi:=xP l f c p hl h;have e:decide (dk p 0 l>=0)=l.any p:=by
  rw[cu,decide_eq_true_iff];exact gZ
 refine eW call31 func31 ?_;exact iE @e @hi
def DG (q:List (Bool×Bytes)×aT):Bool:=decide (q.1.length=q.2.vars.length)
def L4 (q g:Bytes):Bool:=decide (num q<=num g)
def jC (c:Bytes) (s:aT) (cl:ik) (ch:Bytes) (rs:List (Bool×Bytes)) (gs:List Bytes) (ls:List (List (Bool×Bytes))):Int:=
 if !(ae ch&&rs.all cr&&ls.all (fun l=>l.all cr)&&gs.all ae)then 3 else if rs.length≠s.vars.length\/gs.length≠cl.gates.length\/ls.length≠cl.leaves.length\/(ls.zip cl.leaves).all DG=false then 6 else if num c<=num ch\/gs.any (L4 (bY cl.leaves))=true then 2 else 0
theorem WM {s:aT} (vq:ae (bY cl.leaves)=true) {g:Bytes} (vg:ae g=true):aH 180 [.s g, .pt (XC c sl s cl) 0] (.b (L4 (bY cl.leaves) g)):=by
 have hc:=nA vg vq;have hd: ∀ _:True,decide (a7 (num g) (num (bY cl.leaves))>=0)=L4 (bY cl.leaves) g:=fun _=>by
  unfold L4;rw[fk];exact dY
 unfold XC;generalize bY cl.leaves=q at*;generalize a7 (num g) (num q)=z at*;generalize L4 q g=b at*;refine eW call180 func180 ?_;exact iE (hd oT) @hc
theorem pN {α β:Type} {l:List α} {r:List β} (a:α) (b:β) {i:Nat} (h:i<l.length) (h2:i<r.length):(l.zip r).getD i (a,b)=(l.getD i a,r.getD i b):=by
 have hz:i<(l.zip r).length:=by rw[List.length_zip];omega
 simp only[bu,bC h,bC h2,bC hz,List.getElem_zip,Option.getD_some]
theorem ZQ (vc:ae c=true) (s:aT) (hl:cl.leaves.length<1000000) (vq:ae (bY cl.leaves)=true) (ch:Bytes) (rs:List (Bool×Bytes)) (gs:List Bytes) (ls:List (List (Bool×Bytes))) (h1:rs.length<1000000) (h2:gs.length<=1000) (h3:ls.length<=1000) (h4: ∀l∈ls,l.length<4611686018427387904):aH 90 [XC c sl s cl,kC ch rs gs ls] (E (jC c s cl ch rs gs ls)):=by
 have v1:=aX ch;have v2:=uA rs oO;have v3:=kV ls 178 [Wt] (fun l=> !l.all cr) oO fun l hl=>uA l (h4 l hl)
 rw[im]at v3;have v4:=gI gs _ _ oO FG;rw[im]at v4;have v5:=fun h:gs.all ae=true=>sW gs 180 [.pt (XC c sl s cl) 0] (L4 (bY cl.leaves)) oO fun x hx=>WM vq (bz.1 h x hx)
 obtain⟨gq,vs,es⟩:=s;obtain⟨lv,G⟩:=cl;unfold fj at v2;simp only[XC,kC,jC]at hl v5⊢;generalize bY lv=q at*;have l1:(rs.map ca).length=rs.length:=au ..;have l2:(vs.map bO).length=vs.length:=au ..;have l3:(gs.map PV.s).length=gs.length:=au ..;have l4:(ls.map fj).length=ls.length:=au ..;have l5:(lv.map aT.pv).length=lv.length:=au ..;have l6:(G.map Gt.pv).length=G.length:=au ..
 by_cases hok:(ae ch&&rs.all cr&&ls.all (fun l=>l.all cr)&&gs.all ae)=true
 case neg=>
  have hf:(ae ch&&rs.all cr&&ls.all (fun l=>l.all cr)&&gs.all ae)=false:=by simpa using hok
  rw[hf];simp only[dW,aC];clear hok v5 h4;generalize ae ch=b1 at*;generalize rs.all cr=b2 at*;generalize (ls.all fun l=>l.all cr)=b3 at*
  generalize gs.all ae=b4 at*;cases b1
  ·refine eW call90 func90 ?_;repeat' first|simp only[go_sem,seval,aW,l1,l2,l3,l4]|refine cP v1 ?_|refine cV v2 ?_|refine cV v3 ?_|refine cP v4 ?_|refine oE ?_|apply xX<;>intro hc
  ·cases b2
   ·refine eW call90 func90 ?_;repeat' first|simp only[go_sem,seval,aW,l1,l2,l3,l4]|refine cP v1 ?_|refine cV v2 ?_|refine cV v3 ?_|refine cP v4 ?_|refine oE ?_|apply xX<;>intro hc
   ·cases b3
    ·refine eW call90 func90 ?_;repeat' first|simp only[go_sem,seval,aW,l1,l2,l3,l4]|refine cP v1 ?_|refine cV v2 ?_|refine cV v3 ?_|refine cP v4 ?_|refine oE ?_|apply xX<;>intro hc
    ·cases b4
     ·refine eW call90 func90 ?_;repeat' first|simp only[go_sem,seval,aW,l1,l2,l3,l4]|refine cP v1 ?_|refine cV v2 ?_|refine cV v3 ?_|refine cP v4 ?_|refine oE ?_|apply xX<;>intro hc
     ·exact aJ hf (by simp)
 rw[hok];simp only[dy,cE,aB];simp only[bc]at hok;obtain⟨⟨⟨o1,o2⟩,o3⟩,o4⟩:=hok;have v5:=v5 o4;rw[o1]at v1;rw[o2]at v2;rw[o3]at v3;rw[o4]at v4;clear o2 o3 o4 h4;have x1:((rs.length:Int) !=(vs.length:Int))= !decide (rs.length=vs.length):=by rw[bne,cu];simp;omega
 have x2:((gs.length:Int) !=(G.length:Int))= !decide (gs.length=G.length):=by rw[bne,cu];simp;omega
 have x3:((ls.length:Int) !=(lv.length:Int))= !decide (ls.length=lv.length):=by rw[bne,cu];simp;omega
 by_cases m1:rs.length=vs.length
 case neg=>
  rw[aS m1]at x1;rw[af (.inl m1)];refine eW call90 func90 ?_;repeat' first|simp only[go_sem,seval,aW,l1,l2,l3,l4,l5,l6,x1]|refine cP v1 ?_|refine cV v2 ?_|refine cV v3 ?_|refine cP v4 ?_|refine oE ?_|apply xX<;>intro hc
  all_goals rfl
 rw[aQ m1]at x1
 by_cases m2:gs.length=G.length
 case neg=>
  rw[aS m2]at x2;rw[af (.inr (.inl m2))];refine eW call90 func90 ?_;repeat' first|simp only[go_sem,seval,aW,l1,l2,l3,l4,l5,l6,x1,x2]|refine cP v1 ?_|refine cV v2 ?_|refine cV v3 ?_|refine cP v4 ?_|refine oE ?_|apply xX<;>intro hc
  all_goals rfl
 rw[aQ m2]at x2
 by_cases m3:ls.length=lv.length
 case neg=>
  rw[aS m3]at x3;rw[af (.inr (.inr (.inl m3)))];refine eW call90 func90 ?_;repeat' first|simp only[go_sem,seval,aW,l1,l2,l3,l4,l5,l6,x1,x2,x3]|refine cP v1 ?_|refine cV v2 ?_|refine cV v3 ?_|refine cP v4 ?_|refine oE ?_|apply xX<;>intro hc
  all_goals rfl
 rw[aQ m3]at x3;have hE:(if rs.length≠vs.length\/gs.length≠G.length\/ls.length≠lv.length\/(ls.zip lv).all DG=false then(6:Int)else if num c<=num ch\/gs.any (L4 q)=true then 2 else 0)=if(ls.zip lv).all DG=false then 6 else if num c<=num ch\/gs.any (L4 q)=true then 2 else 0:=by
  congr 1;simp[m1,m2,m3]
 rw[hE];clear hE;refine eW call90 func90 ?_;repeat' first|simp only[go_sem,seval,aW,l1,l2,l3,l4,l5,l6,x1,x2,x3]|refine cP v1 ?_|refine cV v2 ?_|refine cV v3 ?_|refine cP v4 ?_|refine oE ?_|apply xX<;>intro hc
 refine ah (α:=Nat) (fun i=>ls.length-i) (fun i=>⟨[(2, .p 1000 0 0),(3, .p 1001 0 0),(62, .v (.sl (ls.map fj))),(63,E' ls.length),(64,E' i)],[(1000,⟨0,[.v (.s c), .v (.s sl), .v (.sl (gq.map cz)), .v (.sl (vs.map bO)), .v (.sl (es.map bZ.pv)), .v (.sl (lv.map aT.pv)), .v (.sl (G.map Gt.pv)), .v (.s q)],false,none⟩),(1001,⟨0,[.v (.s ch), .v (.sl (rs.map ca)), .v (.sl (gs.map .s)), .v (.sl (ls.map fj))],false,none⟩)],_⟩) (fun i=>i<=ls.length/\((ls.zip lv).drop i).all DG=(ls.zip lv).all DG) 0 (fun _=>aA _) ⟨aD _,rfl⟩ ?_ ?_
 ·exact lE
 ·rintro i ⟨hi,ha⟩ R hR;rw[<-ha];clear v1 v2 v3 v4;have lz:(ls.zip lv).length=ls.length:=by rw[List.length_zip];omega
  by_cases hit:i<ls.length
  ·have e2:=getD_map fj ls ([]:List (Bool×Bytes)) hit;have e3:=getD_map aT.pv lv cC (i:=i) oO;have hit2:i<lv.length:=oO;have hgo:=fun h=>hR (i+1) ⟨oO,h⟩ oO
   rw[<-ha]at hgo;rw[aE (([],cC):List (Bool×Bytes)×aT) (show i<(ls.zip lv).length by omega),List.all_cons,pN _ _ hit oO]at hgo⊢
   clear hR ha;generalize ls.getD i []=y at*;generalize lv.getD i cC=s' at*;obtain⟨gs',vs',es'⟩:=s';simp only[fj]at e2;simp only[aT.pv]at e3;have hle:DG (y,(⟨gs',vs',es'⟩:aT))=decide (y.length=vs'.length):=rfl;rw[hle]at hgo⊢;have k5:(y.map ca).length=y.length:=au ..;have k6:(vs'.map bO).length=vs'.length:=au ..;have x4:((y.length:Int) !=(vs'.length:Int))= !decide (y.length=vs'.length):=by rw[bne,cu];simp;omega
   clear hle;generalize decide (y.length=vs'.length)=bb at*;cases bb
   ·simp only[br,aC];exact fz (aN @l4 (aN @l5 (aN @k5 (aN @k6 (aN @e2 (aN @e3 @x4))))))
   ·simp only[bE]at hgo⊢;have hgo:=hgo oT;exact gH (aN @l4 (aN @l5 (aN @k5 (aN @k6 (aN @e2 (aN @e3 @x4)))))) @hgo
  ·obtain rfl:i=ls.length:=oO;rw[gG oO,List.all_nil,aa (by simp)]
   clear hR ha;have cm:=nA o1 vc;have hd: ∀ _:True,decide (a7 (num ch) (num c)>=0)=decide (num c<=num ch):=fun _=>by rw[fk];exact dY
   generalize a7 (num ch) (num c)=z at*;generalize gs.any (L4 q)=bq at*
   by_cases hge:num c<=num ch
   ·rw[af (.inl hge)];rw[aQ hge]at hd;repeat' first|simp only[go_sem,seval,aW,l4,hd oT]|refine cP cm ?_|refine oE ?_|apply xX<;>intro hc
    all_goals rfl
   ·rw[aS hge]at hd;simp only[hge,false_or];cases bq
    ·repeat' first|simp only[go_sem,seval,aW,l4,hd oT]|refine cP cm ?_|refine cV v5 ?_|refine oE ?_|apply xX<;>intro hc
     all_goals rfl
    ·repeat' first|simp only[go_sem,seval,aW,l4,hd oT]|refine cP cm ?_|refine cV v5 ?_|refine oE ?_|apply xX<;>intro hc
     all_goals rfl
def NY (G:List Gt) (i:Nat):Int:=dk (QY i) 0 G
theorem NT (i:Nat) (g:Gt) (hk:g.kids.length<4611686018427387904):aH 183 [Gt.pv g, .pt (.agg [E (i:Int)]) 0] (.b (QY i g)):=by
 obtain⟨need,kids,leaf⟩:=g;have l1:(kids.map rB).length=kids.length:=au ..;unfold Gt.pv QY;simp only;have x1:((kids.length:Int)==0)=decide (kids=[]):=by
  rw[cu,fK,a8];constructor
  ·intro h;exact dt.1 oO
  ·intro h;rw[h];rfl
 have x2:(leaf==(i:Int))=decide (leaf=(i:Int)):=by rw[cu];simp
 generalize decide (kids=[])=y1 at*;generalize decide (leaf=(i:Int))=y2 at*
 cases y1<;>
 ·refine eW call183 func183 ?_;exact fz (aN @l1 (aN @x1 @x2))
theorem xN (l:List Gt) (f:FuncId) (c:List PV) (p:Gt->Bool) (hl:l.length<4611686018427387904) (h: ∀x∈l,aH f (Gt.pv x::c) (.b (p x))):aH 182 [.sl (l.map Gt.pv), .fc f [] c] (E (dk p 0 l)):=by
 have hlm:(l.map Gt.pv).length=l.length:=au ..;refine eW call182 func182 ?_;refine dh @hlm ?_;refine ah (α:=Nat) (fun i=>l.length-i) (fun i=>⟨[(0, .v (.sl (l.map Gt.pv))),(1, .v (.fc f [] c)),(7, .v (.i .i64 l.length)),(8, .v (.i .i64 (i:Nat)))],[],_⟩) (fun i=>i<=l.length/\dk p i (l.drop i)=dk p 0 l) 0 (fun _=>aA _) ⟨aD _,rfl⟩ ?_ ?_
 ·exact lE
 ·rintro i ⟨hi,hx⟩ R hR;rw[<-hx]
  by_cases hlt:i<l.length
  ·have e1:=getD_map Gt.pv l eC hlt;have hf:=h (l.getD i eC) (ai eC hlt);have hgo:=hR (i+1);rw[<-hx,aE eC hlt]at hgo;rw[aE eC hlt];simp only[dk]at hgo⊢;clear hx hR h;obtain⟨b,hb⟩: ∃b,b=p (l.getD i eC):=⟨_,rfl⟩;rw[<-hb]at hf hgo⊢;clear hb;obtain⟨x,hxx⟩: ∃x,x=l.getD i eC:=⟨_,rfl⟩;rw[<-hxx]at e1 hf;clear hxx;obtain⟨tn,tk,tl⟩:=x
   try simp only[Gt.pv]at e1 hf
   cases b
   ·have hgo:=hgo ⟨oO,rfl⟩ oO;repeat' first|simp only[go_sem,seval,hlm,e1]|(refine fX hf (iO _ _) ?_)|refine oE ?_|apply xX<;>intro hc
    refine hgo _ ?_;exact lE
   ·repeat' first|simp only[go_sem,seval,hlm,e1]|(refine fX hf (iO _ _) ?_)|refine oE ?_|apply xX<;>intro hc
    all_goals rfl
  ·obtain rfl:i=l.length:=oO;rw[bw];repeat' first|simp only[go_sem,seval,hlm]|refine oE ?_|apply xX<;>intro hc
   all_goals simp[dk]
theorem UR {G:List Gt} (hl:G.length<1000000) (hb: ∀g∈G,g.kids.length<1000000) (i:Nat):aH 93 [E6 G,E (i:Int)] (E (NY G i)):=by
 have h:=xN G 183 [.pt (.agg [E (i:Int)]) 0] (QY i) oO fun g hg=>NT i g (by have:=hb g hg;omega)
 unfold NY;refine eW call93 func93 ?_;repeat' first|simp only[go_sem,seval,aW]|refine cV h ?_|refine oE ?_|apply xX<;>intro hc
 all_goals rfl
theorem Ah {α:Type} (p:α->Bool) (d:α): ∀(l:List α) (k j:Nat),j<l.length->p (l.getD j d)=true->(∀i,i<j->p (l.getD i d)=false)->dk p k l=((k+j:Nat):Int)
 |[],k,j,h,_,_=>aJ h (kI _)
 |x::l,k,0,_,h,_=>by
  have h:p x=true:=h;simp only[dk,h,aC];rfl
 |x::l,k,j+1,hj,h,hn=>by
  have h0:p x=false:=hn 0 (Nat.succ_pos _);simp only[dk,h0];rw[aa (by simp),Ah p d l (k+1) j (by simpa using hj) h (fun i hi=>hn (i+1) oO)]
  omega
theorem FO {G:List Gt} {c:Nat} (h:IM G c) {j:Nat} (hj:j<G.length) (hk:(G.getD j eC).kids=[]):NY G (iU G j)=(j:Int):=by
 have:=Ah (QY (iU G j)) eC G 0 j hj (by unfold QY;rw[aQ hk,aQ (h.lf j hj hk)];rfl) fun i hi=>by
  unfold QY
  by_cases hi2:(G.getD i eC).kids=[]
  ·rw[h.lf i oO hi2,aQ hi2,bE,aS];intro e;have:=SY hi2 hk oO;omega
  ·rw[aS hi2];rfl
 rw[NY,this];omega
theorem Dz {G:List Gt} {c:Nat} (h:IM G c) {i:Nat} (hi:i<c): ∃j,j<G.length/\(G.getD j eC).kids=[]/\NY G i=(j:Int)/\(G.getD j eC).leaf=(i:Int):=by
 obtain⟨j,h1,h2,h3⟩:=Jw G G.length i (by rw[h.ct];exact hi)
 refine⟨j,h1,h2,?_,?_⟩
 ·rw[<-h3];exact FO h h1 h2
 ·rw[h.lf j h1 h2,h3]
theorem Gm {q:Bytes} {s:aT} (h:ud q s=false):ba s.groups=q/\q≠[]/\ ∀b∈s.vars,b=[]:=by
 unfold ud at h;rw[yX,yX]at h;obtain⟨⟨h1,h2⟩,h3⟩:=h;have h1:=of_decide_eq_false h1;refine⟨?_,?_,fun b hb=> ?_⟩
 ·cases hg:s.groups with
  |nil=>rw[hg]at h1;exact aJ rfl h1
  |cons g r=>
   rw[hg]at h3;have:=kK.1 h3 g (.head _);unfold BM at this;simp at this;have hq:q≠[]:=this.2▸this.1;simp[ba,this.2,hq]
 ·cases hg:s.groups with
  |nil=>rw[hg]at h1;exact aJ rfl h1
  |cons g r=>
   rw[hg]at h3;have:=kK.1 h3 g (.head _);unfold BM at this;simp at this;exact this.2▸this.1
 ·have:=kK.1 h2 b hb;simpa using this
theorem DF (h:IK cl) {s:aT} (hs:s∈cl.leaves):xQ (bY cl.leaves) [2] s:=by
 have h0:cl.leaves≠[]:=fun e=>by rw[e]at hs;cases hs
 obtain⟨v,l,p,k,-⟩:=h.q h0;obtain⟨a,b,c⟩:=Gm (k s hs);exact⟨⟨v,by decide,l,by decide,(nF p).1,by decide⟩,h.ck s hs,fun _ _ _=>by rw[a];exact aA _⟩
def nG (cl:ik) (gs:List Bytes) (ls:List (List (Bool×Bytes))):List Lf:=(List.range cl.leaves.length).map fun i=>(cl.leaves.getD i cC,gs.getD (NY cl.gates i).toNat [],ls.getD i [])
def S2 (q:Bytes) (x:Lf):Int:=cG (ba x.1.groups) q [2] x.1.vars x.2.1 x.2.2
def nW (q:Bytes):List Lf->Int
 |[]=>0
 |x::r=>if S2 q x≠0 then S2 q x else nW q r
def nH (c sl:Bytes) (s:aT) (cl:ik) (ch:Bytes) (rs:List (Bool×Bytes)) (gs:List Bytes) (ls:List (List (Bool×Bytes))):Int:=
 if jC c s cl ch rs gs ls≠0 then jC c s cl ch rs gs ls else if cG (ba s.groups) c sl s.vars ch rs≠0 then cG (ba s.groups) c sl s.vars ch rs else nW (bY cl.leaves) (nG cl gs ls)
noncomputable def AL (c sl:Bytes) (s:aT) (cl:ik) (ch:Bytes) (rs:List (Bool×Bytes)) (gs:List Bytes) (ls:List (List (Bool×Bytes))):PV:=
 if nH c sl s cl ch rs gs ls=0 then .tup [jV (s,ch,rs), .agg [.sl (gs.map .s), .sl ((nG cl gs ls).map jV)],E 0]else .tup [Ke,B0,E (nH c sl s cl ch rs gs ls)]
theorem jK (cl:ik) (gs:List Bytes) (ls:List (List (Bool×Bytes))):(nG cl gs ls).length=cl.leaves.length:=by
 unfold nG;rw[au,qk]
theorem yx {i:Nat} (h:i<cl.leaves.length):(nG cl gs ls).getD i pg=(cl.leaves.getD i cC,gs.getD (NY cl.gates i).toNat [],ls.getD i []):=by
 unfold nG;simp only[bu,fy,mf h,Option.map_some,Option.getD_some]
theorem Dx {s:aT} (h:jC c s cl ch rs gs ls=0):(ae ch=true/\rs.all cr=true/\(ls.all fun l=>l.all cr)=true/\gs.all ae=true)/\(rs.length=s.vars.length/\gs.length=cl.gates.length/\ls.length=cl.leaves.length/\(ls.zip cl.leaves).all DG=true)/\num ch<num c/\ ∀g∈gs,num g<num (bY cl.leaves):=by
 unfold jC at h
 split at h
 ·cases h
 rename_i h1
 split at h
 ·cases h
 rename_i h2
 split at h
 ·cases h
 rename_i h3;simp only[fW,Bool.not_eq_false,bc]at h1;refine⟨⟨h1.1.1.1,h1.1.1.2,h1.1.2,h1.2⟩,⟨?_,?_,?_,?_⟩,?_,fun g hg=> ?_⟩
 ·exact Classical.byContradiction fun g=>h2 (.inl g)
 ·exact Classical.byContradiction fun g=>h2 (.inr (.inl g))
 ·exact Classical.byContradiction fun g=>h2 (.inr (.inr (.inl g)))
 ·exact Classical.byContradiction fun g=>h2 (.inr (.inr (.inr (dR.2 g))))
 ·exact Classical.byContradiction fun g=>h3 (.inl oO)
 ·refine Classical.byContradiction fun e=>h3 (.inr (m9.2 ⟨g,hg,?_⟩))
  unfold L4;exact aQ oO
theorem F2 (c sl:Bytes) (s:aT) (cl:ik):aH 94 [XC c sl s cl] (.agg [.s (bY cl.leaves), .s [2]]):=by
 have h:aH 24 [.i .u64 2] (.s [2]):=iC 2 oC;unfold XC;generalize bY cl.leaves=q at*;refine eW call94 func94 ?_;exact z1 @h
theorem C8 (l:List (Bool×Bytes)) (hl:l.length<1000000):aH 95 [.sl (l.map ca)] (.sl (l.map ca)):=by
 by_cases h:l=[]
 ·subst h;refine eW call95 func95 ?_;exact z0
 ·exact vY h hl
theorem xD:cH jV 3:=⟨fun _=>rfl,fun x y hy=>by simp[jV,PV.cells]at hy;rcases hy with rfl|rfl|rfl<;>rfl,fun h=>oO,fun _ x=>rfl⟩
theorem rH {s:aT} {l:List (Bool×Bytes)} (h:cG (ba s.groups) c sl s.vars ch l=0):jB c sl s ch l=(ep s ch l).map .s:=by
 unfold jB ep;rw[af h,iK];rfl
theorem rO (q:Bytes) {X:List Lf} {i:Nat} (h:i<X.length):nW q (X.drop i)=if S2 q (X.getD i pg)≠0 then S2 q (X.getD i pg)else nW q (X.drop (i+1)):=by rw[aE pg h];rfl
theorem qR {s:aT} {l:List (Bool×Bytes)} (h: ¬cG (ba s.groups) c sl s.vars ch l=0):jB c sl s ch l=[]:=aa h
theorem U3 {s:aT} (hp:xQ c sl s) (hG:IK cl) (h1:rs.length<1000000) (h2:gs.length<=1000) (h3:ls.length<=1000) (h4: ∀l∈ls,l.length<4611686018427387904):
  aH 43 [XC c sl s cl,kC ch rs gs ls] (AL c sl s cl ch rs gs ls):=by
 have hnl:=hG.sz.nl;have vq:ae (bY cl.leaves)=true:=by
  by_cases h0:cl.leaves=[]
  ·rw[h0];rfl
  ·exact(hG.q h0).v
 have hfo:=ZQ (c:=c) (sl:=sl) hp.r.vc s (cl:=cl) oO vq ch rs gs ls h1 h2 h3 h4;unfold AL nH
 by_cases hf:jC c s cl ch rs gs ls=0
 case neg=>
  rw[af hf,aa hf];have hb:(jC c s cl ch rs gs ls==0)=false:=by simpa using hf
  generalize jC c s cl ch rs gs ls=e at*;unfold XC kC at*;refine eW call43 func43 ?_;exact iE @hb @hfo
 rw[show(if jC c s cl ch rs gs ls≠0 then jC c s cl ch rs gs ls else if cG (ba s.groups) c sl s.vars ch rs≠0 then cG (ba s.groups) c sl s.vars ch rs else nW (bY cl.leaves) (nG cl gs ls))=if cG (ba s.groups) c sl s.vars ch rs≠0 then cG (ba s.groups) c sl s.vars ch rs else nW (bY cl.leaves) (nG cl gs ls)from aa (by simpa using hf)]
 obtain⟨-,⟨m1,m2,m3,m4⟩,-,m6⟩:=Dx hf;rw[hf]at hfo;have hfi:=D5 hp (ch:=ch) (l:=rs) h1
 by_cases hi:cG (ba s.groups) c sl s.vars ch rs=0
 case neg=>
  rw[af hi,aa hi];rw[show jB c sl s ch rs=[]from aa hi]at hfi
  have hb:(cG (ba s.groups) c sl s.vars ch rs==0)=false:=by simpa using hi
  generalize cG (ba s.groups) c sl s.vars ch rs=e at*;unfold XC kC aT.pv at*;refine eW call43 func43 ?_;exact vV @hb @hfo @hfi
 rw[aa (show¬cG (ba s.groups) c sl s.vars ch rs≠0 by simpa using hi)]
 rw[rH hi,hi]at hfi;have hcl:=C8 rs h1;have hcg:=BY gs oO;have hlr:=F2 c sl s cl;have hF:=HN hG.lv;have hGk:=hG.sz.k;have hGl:=hG.ng;have hXl:=jK cl gs ls;have hXget:=fun i h=>yx (cl:=cl) (gs:=gs) (ls:=ls) (i:=i) h
 have hFi:=fun s' (hs':s'∈cl.leaves) ch' l' hl'=>D5 (DF hG hs') (ch:=ch') (l:=l') hl'
 have hvl: ∀s'∈cl.leaves,s'.vars.length<=64:=fun s' h=>(hG.ck s' h).nv
 have hlen: ∀i,i<cl.leaves.length->(ls.getD i []).length=(cl.leaves.getD i cC).vars.length:=fun i hi=>by
  have hz:i<(ls.zip cl.leaves).length:=by rw[List.length_zip];omega
  have:=bz.1 m4 _ (ai (([],cC):List (Bool×Bytes)×aT) hz);rw[pN _ _ oO hi]at this;exact of_decide_eq_true this
 rw[show jV (s,ch,rs)= .agg [.sl ((ep s ch rs).map .s), .s ch, .sl (rs.map ca)]from rfl]
 generalize ep s ch rs=F0 at*;obtain⟨X,hX⟩: ∃X,X=nG cl gs ls:=⟨_,rfl⟩;rw[<-hX]at hXl hXget⊢;clear hX hf hi hp hG m1 m4 m6 h4 vq;obtain⟨gq,vs,es⟩:=s;obtain⟨lv,G⟩:=cl;simp only[XC,kC,aT.pv]at*;generalize bY lv=q at*;have l1:(lv.map aT.pv).length=lv.length:=au ..;have l4:(ls.map fj).length=lv.length:=by rw[au];exact m3
 have l5:(gs.map PV.s).length=gs.length:=au ..
 by_cases h0:lv=[]
 ·subst h0;obtain rfl:X=[]:=dt.1 hXl;rw[show nW q []=0 from rfl,af rfl]
  refine eW call43 func43 ?_;exact zu4 @hfo @hfi @hcl @hcg
 have hpos:0<lv.length:=gF.2 h0;have hp0: ∀ _:True,(0:Int)<(lv.length:Int):=fun _=>oO
 refine eW call43 func43 ?_;refine mK @l1 @hfo @hfi @hcg oT ?_;refine aq ?_;have e2:=getD_map aT.pv lv cC hpos;have e3:=getD_map fj ls ([]:List (Bool×Bytes)) (show 0<ls.length by omega)
 have hXg:=hXget _ hpos;obtain⟨jj,j1,-,j3,-⟩:=Dz hF hpos;have c4:=UR (G:=G) oO hGk 0;rw[j3]at c4 hXg;rw[Int.toNat_natCast]at hXg;have e4:=fJ (show jj<gs.length by omega)
 have hsm:=ai cC hpos;have hlz:=hlen _ hpos;have c5:=hFi _ hsm (gs.getD jj []) (ls.getD 0 []) (by have:=hvl _ hsm;omega)
 have c6:=C8 (ls.getD 0 []) (by have:=hvl _ hsm;omega)
 have r1:aP jV (X.take (0+1))=aP jV (X.take 0)++[.v (.sl ((ep (lv.getD 0 cC) (gs.getD jj []) (ls.getD 0 [])).map .s)), .v (.s (gs.getD jj [])), .v (.sl ((ls.getD 0 []).map ca))]:=by
  rw[aL pg (show 0<X.length by omega),bU,hXg];rfl
 have hlf:S2 q (X.getD 0 pg)=cG (ba (lv.getD 0 cC).groups) q [2] (lv.getD 0 cC).vars (gs.getD jj []) (ls.getD 0 []):=by rw[hXg];rfl
 have hdr:=rO q (X:=X) (i:=0) oO;rw[hlf]at hdr;clear hXg hsm hlz hlf;generalize X.getD 0 pg=x at*;generalize gs.getD jj []=cj at*;generalize ls.getD 0 []=lj at*;generalize lv.getD 0 cC=sj at*;simp only[fj]at e3;rw[y7]at hdr
 by_cases hz:cG (ba sj.groups) q [2] sj.vars cj lj=0
 case neg=>
  rw[af hz]at hdr;rw[hdr,aa hz];rw[qR hz]at c5;have hb:(cG (ba sj.groups) q [2] sj.vars cj lj==0)=false:=by simpa using hz
  generalize cG (ba sj.groups) q [2] sj.vars cj lj=e at*;obtain⟨gj,vj,ej⟩:=sj;simp only[aT.pv]at e2 c5;clear r1;exact ry (aN @l1 (aN @l4 (aN @l5 (aN @e2 (aN @e3 (aN @e4 (aN @hb (hp0 oT)))))))) @c4 @hlr @c5 oT
 rw[aa (by simpa using hz)]at hdr
 rw[rH hz,hz]at c5;clear hz;generalize ep sj cj lj=Fj at*;obtain⟨gj,vj,ej⟩:=sj;simp only[aT.pv]at e2 c5;refine mK (aN @l1 (aN @l4 (aN @l5 (aN @e2 (aN @e3 (aN @e4 (hp0 oT))))))) @c4 @hlr @c5 @c6 ?_;refine ah (α:=Nat) (fun j=>lv.length-(j+1)) (fun j=>⟨[(2, .p 1000 0 0),(3, .p 1001 0 0),(4, .p 1002 0 0),(5, .p 1003 0 0),(8, .v (.sl (F0.map .s))),(10, .p 1031 0 0),(47, .v (.sl (lv.map aT.pv))),(48,E' lv.length),(49,E' (j+1))],[(1000,⟨0,[.v (.s c), .v (.s sl), .v (.sl (gq.map cz)), .v (.sl (vs.map bO)), .v (.sl (es.map bZ.pv)), .v (.sl (lv.map aT.pv)), .v (.sl (G.map Gt.pv)), .v (.s q)],false,none⟩),(1001,⟨0,[.v (.s ch), .v (.sl (rs.map ca)), .v (.sl (gs.map .s)), .v (.sl (ls.map fj))],false,none⟩),(1002,⟨0,[.sn, .v (.s []), .sn],false,some 56⟩),(1003,⟨0,[.sn, .sn],false,some 59⟩),(1031,⟨0,[.v (.sl (gs.map .s)), .rs 1084 j 0 (j+1) 3],false,some 59⟩),(1084,⟨j,aP jV (X.take (j+1)),true,some 56⟩)],1089⟩) (fun j=>j+1<=lv.length/\nW q X=nW q (X.drop (j+1))) 0 (fun _=>cd rfl) ⟨hpos,hdr⟩ ?_ ?_
 ·rw[r1,List.take_zero,show aP jV []=[]from rfl]
  exact lE
 ·clear e2 e3 e4 c4 c5 c6 r1 hdr;rintro j ⟨hj,hd⟩ R hR;rw[hd];have hj1:(X.take (j+1)).length=j+1:=by rw[bQ];omega
  have b1:=bT xD (X.take (j+1));have b2:=cf xD (X.take (j+1));rw[hj1]at b1 b2
  by_cases hjt:j+1<lv.length
  ·have hgo:=fun h=>hR (j+1) ⟨oO,h⟩ oO
   rw[hd]at hgo;clear hR;have e2:=getD_map aT.pv lv cC hjt;have e3:=getD_map fj ls ([]:List (Bool×Bytes)) (show(j+1)<ls.length by omega)
   have hXg:=hXget _ hjt;obtain⟨jj,j1,-,j3,-⟩:=Dz hF hjt;have c4:=UR (G:=G) oO hGk (j+1);rw[j3]at c4 hXg;rw[Int.toNat_natCast]at hXg;have e4:=fJ (show jj<gs.length by omega)
   have hsm:=ai cC hjt;have hlz:=hlen _ hjt;have c5:=hFi _ hsm (gs.getD jj []) (ls.getD (j+1) []) (by have:=hvl _ hsm;omega)
   have c6:=C8 (ls.getD (j+1) []) (by have:=hvl _ hsm;omega)
   have r1:aP jV (X.take ((j+1)+1))=aP jV (X.take (j+1))++[.v (.sl ((ep (lv.getD (j+1) cC) (gs.getD jj []) (ls.getD (j+1) [])).map .s)), .v (.s (gs.getD jj [])), .v (.sl ((ls.getD (j+1) []).map ca))]:=by
    rw[aL pg (show(j+1)<X.length by omega),bU,hXg];rfl
   have hlf:S2 q (X.getD (j+1) pg)=cG (ba (lv.getD (j+1) cC).groups) q [2] (lv.getD (j+1) cC).vars (gs.getD jj []) (ls.getD (j+1) []):=by rw[hXg];rfl
   have hdr:=rO q (X:=X) (i:=(j+1)) oO;rw[hlf]at hdr;clear hXg hsm hlz hlf;generalize X.getD (j+1) pg=x at*;generalize gs.getD jj []=cj at*;generalize ls.getD (j+1) []=lj at*;generalize lv.getD (j+1) cC=sj at*;simp only[fj]at e3
   by_cases hz:cG (ba sj.groups) q [2] sj.vars cj lj=0
   case neg=>
    rw[af hz]at hdr;rw[hdr,aa hz];rw[qR hz]at c5;have hb:(cG (ba sj.groups) q [2] sj.vars cj lj==0)=false:=by simpa using hz
    generalize cG (ba sj.groups) q [2] sj.vars cj lj=e at*;obtain⟨gj,vj,ej⟩:=sj;simp only[aT.pv]at e2 c5;clear r1 hgo;exact ry (aN @l1 (aN @l4 (aN @l5 (aN @e2 (aN @e3 (aN @e4 @hb)))))) @c4 @hlr @c5 oT
   rw[aa (by simpa using hz)]at hdr
   rw[rH hz,hz]at c5;have hgo:=hgo hdr;rw[r1]at hgo;clear hz;generalize ep sj cj lj=Fj at*;obtain⟨gj,vj,ej⟩:=sj;simp only[aT.pv]at e2 c5;refine nX (aN @l1 (aN @l4 (aN @l5 (aN @e2 (aN @e3 (aN @e4 (aN @b1 @b2))))))) @c4 @hlr @c5 @c6 ?_;refine hgo _ ?_
   (refine AS.Le.of (by first|decide|omega) ?_ ?_<;>simp[cU,cT,aO,az,AV.bd,AV.bd.bdL,u8,aj,ak,an])
   all_goals (intro c hc;rcases hc with h|h<;>first|exact bj h|(subst h;rfl)|(rcases h with rfl|rfl|rfl<;>rfl))
  ·obtain hjv:j+1=lv.length:=oO;have hjx:j+1=X.length:=oO;rw[show X.drop (j+1)=[]from gG oO,show nW q []=0 from rfl,af rfl]
   rw[hjx,bm]at b1 b2;rw[hjx,bm];have p3:=dI xD X;have p4:=cK xD X;clear hR;repeat' first|simp only[go_sem,seval,l1,b1,b2,p3,p4,dj]|refine cP hcl ?_|refine oE ?_|apply xX<;>intro hc
   all_goals skip
def rm (ch:Bytes) (rs:List (Bool×Bytes)) (gs:List Bytes) (ls:List (List (Bool×Bytes))):Bool:=decide (ch.length<=24)&&(ux rs&&(sS gs&&qW ls))
theorem J1 (h:rm ch rs gs ls=true):ch.length<=24/\rs.length<=20/\(∀y∈rs,y.2.length<=24)/\gs.length<=40/\(∀y∈gs,y.length<=24)/\ls.length<=20/\ ∀l∈ls,l.length<=20/\ ∀y∈l,y.2.length<=24:=by
 simp only[rm,bc,a8]at h;obtain⟨a,b,c,d⟩:=h;exact⟨a,(uy b).1,(uy b).2,(uK c).1,(uK c).2,(rP d).1,(rP d).2⟩
theorem Bi (ch:Bytes) (h1:rs.length<4611686018427387904) (h2:gs.length<4611686018427387904) (h3:ls.length<4611686018427387904) (h4: ∀l∈ls,l.length<4611686018427387904):aH 12 [kC ch rs gs ls] (.b (rm ch rs gs ls)):=by
 have a1:=Aj rs h1;have a2:=wL gs h2;have a3:=zx ls h3 h4;unfold rm kC;generalize ux rs=b1 at*;generalize sS gs=b2 at*;generalize qW ls=b3 at*;have x1:decide ((ch.length:Int)<=24)=decide (ch.length<=24):=by rw[fk];omega
 generalize decide (ch.length<=24)=d1 at*;refine eW call12 func12 ?_;repeat' first|simp only[go_sem,seval,x1]|refine cP a1 ?_|refine cP a2 ?_|refine cP a3 ?_|refine oE ?_|apply xX<;>intro hc
 all_goals first|omega|simp_all
end Go.Proofs.Tryz
namespace Go.Proofs.YthlapgdhjcddkaaGreatDoor
open Go Go.Dom Go.ChangeShapes Go.WideShapes Go.ChangeAt Go.RowKit Go.Proofs.Tryz
theorem aah:Q0 Tryz.prog 9 52=true:=by kernel_rfl
theorem Vk {ps:List PV} (h:kT Tryz.prog 9 52 ps): ∃(ch:Bytes) (rs:List (Bool×Bytes)) (gs:List Bytes) (ls:List (List (Bool×Bytes))), .agg ps=kC ch rs gs ls/\rs.length*24<=reachBytes/\gs.length*16<=reachBytes/\ls.length*24<=reachBytes/\ ∀x∈ls,x.length*24<=reachBytes:=by
 rw[kT,Tryz.underlying52]at h;simp only[s9,cN,cLI,cLN,Zz]at h;obtain⟨h1,h2,h3,h4,h5⟩:=h;obtain⟨ch,h1⟩:=Ei h1;obtain⟨rs,h2,b2⟩:=Qv h2;obtain⟨gs,h3,b3⟩:=Qy h3;obtain⟨ls,h4,b4,b5⟩:=Qw h4;exact⟨ch,rs,gs,ls,by rw[tk h1,tk h2,tk h3,tk h4,h5];rfl,b2,b3,b4,b5⟩
end Go.Proofs.YthlapgdhjcddkaaGreatDoor
namespace Go.Proofs.Tryz
open Go Go.Dom Go.Num

def ShN (s:aT):Prop:= ∀q∈s.eqs,∀t∈q.terms,t.abs.length<=16










theorem qH.sh {s:aT} (h:qH s):ShN s:=fun q hq t ht=>(h.q q hq).2 t ht




noncomputable def H3 (c sl:Bytes) (s:aT) (cl:ik) (ch:Bytes) (rs:List (Bool×Bytes)) (gs:List Bytes) (ls:List (List (Bool×Bytes))):PV:=if ij c sl s cl≠0 then .tup [Ke,B0,E (ij c sl s cl)]else AL c sl s cl ch rs gs ls
theorem Nw {c sl ctx:Bytes} {s:aT} {cl:ik} (h:LZ c sl ctx s cl) {ch:Bytes} {rs:List (Bool×Bytes)} {gs:List Bytes} {ls:List (List (Bool×Bytes))} (h1:rs.length<1000000) (h2:gs.length<=1000) (h3:ls.length<=1000) (h4: ∀l∈ls,l.length<4611686018427387904):aH 14 [.agg [.s c, .s sl],s.pv,cl.pv,kC ch rs gs ls] (H3 c sl s cl ch rs gs ls):=by
 have hst:=DN h.lc h.ls h.zs h.zc;unfold H3;unfold Qa at hst
 by_cases hE:ij c sl s cl=0
 case neg=>
  rw[af hE];rw[aa hE]at hst;have hb:(ij c sl s cl==0)=false:=by simpa using hE
  have hb2:(ij c sl s cl !=0)=true:=by simpa using hE
  generalize ij c sl s cl=e at*;unfold kC aT.pv ik.pv at*;refine eW call14 func14 ?_;exact iE (aN @hb @hb2) @hst
 rw[aa (show¬ij c sl s cl≠0 by simpa using hE)]
 rw[af hE]at hst;obtain⟨hp,hG,c0⟩:=wZ h.lc h.ls h.zs h.zc hE;have ho:=U3 hp hG (ch:=ch) (rs:=rs) (gs:=gs) (ls:=ls) h1 h2 h3 h4;unfold AL at ho⊢
 by_cases hO:nH c sl s cl ch rs gs ls=0
 ·rw[af hO]at ho⊢;generalize (nG cl gs ls).map jV=X at*;rw[show jV (s,ch,rs)= .agg [.sl ((ep s ch rs).map .s), .s ch, .sl (rs.map ca)]from rfl]at ho⊢
  generalize (ep s ch rs).map PV.s=F at*;unfold kC aT.pv ik.pv XC at*;refine eW call14 func14 ?_;exact z2 @hst @ho
 ·rw[aa hO]at ho⊢;generalize nH c sl s cl ch rs gs ls=e at*;unfold kC aT.pv ik.pv XC at*;refine eW call14 func14 ?_;exact z2 @hst @ho
