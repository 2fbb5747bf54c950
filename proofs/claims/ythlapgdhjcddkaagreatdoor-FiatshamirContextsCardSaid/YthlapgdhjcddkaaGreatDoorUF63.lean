/- Part of the proof. -/
import Derived.Test.YthlapgdhjcddkaaGreatDoorUF62
import Derived.Test.YthlapgdhjcddkaaGreatDoorUF40
set_option linter.all false
set_option maxHeartbeats 16000000
set_option maxRecDepth 100000
namespace Go.Proofs.Tryz
open Go Go.Dom Go.Num
variable {c ch sl:Bytes} {cl:ik} {gs:List Bytes} {ls:List (List (Bool×Bytes))} {rs:List (Bool×Bytes)}
theorem SW (h:IK cl) {s:aT} (hs:s∈cl.leaves) (hf:cG (ba s.groups) (bY cl.leaves) [2] s.vars ch rs=0):aH 105 [.agg [.s (bY cl.leaves), .s [2]],s.pv,jV (s,ch,rs)] (E 0):=by
 have hp:=DF h hs;have h0:cl.leaves≠[]:=fun e=>by rw[e]at hs;cases hs
 obtain⟨v,l,p,k,-⟩:=h.q h0;obtain⟨a,b,hv⟩:=Gm (k s hs);obtain⟨-,hok,-,hl,hin⟩:=Dw hf;have hz:(rs.map zo).map iB=rs:=by
  rw[iK]
  conv=>rhs;rw[<-List.map_id rs]
  exact mW fun x hx=>yt (bz.1 hok x hx)
 have hw: ∀x∈rs.map zo,x.natAbs<(2^64):=fun x hx=>by
  obtain⟨i,hi,rfl⟩:=fU hx;rw[au]at hi;have h1:=bz.1 hin i (fV.2 oO);have h2:s.vars.getD i []=[]:=hv _ (ai [] oO);rw[h2]at h1;have h3:rs.getD i eT=rs[i]:=by simp[bu,hi]
  rw[h3]at h1;unfold qM lR at h1;rw[af rfl,bc,a8,a]at h1;have h4:=ga l;rw[EY,vU];omega
 have hw2: ∀x∈rs.map zo,x.natAbs<ek:=fun x hx=>by have:=hw x hx;have:=jM;omega
 have hsz:=h.sz.s s hs;have hLM:256^16*(2^64)<=ek:=by unfold ek;decide+kernel
 have:=U9 hp (ch:=ch) (w:=rs.map zo) (by rw[hz];exact hf) hw2 (fun q hq=>by
  obtain⟨q1,q2,q3,q4,q5⟩:=hp.g.q q hq;intro t ht;obtain⟨t1,t2,t3,t4⟩:=q5 t ht;have hlt:t.var.toNat<(rs.map zo).length:=by rw[au];omega
  have hx:=hw _ (ai 0 hlt);have hx2:=hw2 _ (ai 0 hlt);refine⟨t1,by rw[au];omega,t4,hx2,?_⟩
  have ha:=((hsz.q q hq).2 t ht);rw[vU];have h1:num t.abs<256^16:=bM (cO _) (dp oC ha);have h2:=fT h1 hx;exact bM h2 hLM)
 rw[hz]at this;have e:(rs.map zo).map Zp=rs.map ca:=by
  rw[iK];exact mW fun x hx=>congrArg ca (yt (bz.1 hok x hx))
 rw[e]at this;exact this
theorem F4 (q:Bytes): ∀{X:List Lf},nW q X=0-> ∀x∈X,S2 q x=0
 |[],_,s,h=>by cases h
 |a::r,h,s,hs=>by
  rw[nW]at h
  split at h
  ·rename_i g;exact aJ h g
  ·rename_i g;rcases cM.1 hs with rfl|hs
   ·exact Classical.not_not.1 g
   ·exact F4 q h s hs
noncomputable def BD (cl:ik) (gs:List Bytes) (ch:Bytes):Bool:=decide (cl.leaves=[])||(gs.getD 0 []==ch&&Hk (num (bY cl.leaves)) cl.gates gs)
theorem Zw (hG:IK cl) (h0:cl.leaves≠[]) (h12:cl.leaves.length<=12) {s:aT} (hf:jC c s cl ch rs gs ls=0) (hl:nW (bY cl.leaves) (nG cl gs ls)=0):aH 96 [cl.pv, .agg [.sl (gs.map .s), .sl ((nG cl gs ls).map jV)]] (E (if Hk (num (bY cl.leaves)) cl.gates gs then 0 else 16)):=by
 have hck:=IV hG.sz;rw[hG.e]at hck;obtain⟨v,l,p,k,f⟩:=hG.q h0;obtain⟨⟨-,-,-,o4⟩,⟨-,m2,m3,-⟩,-,m6⟩:=Dx hf;have hgv: ∀g∈gs,ae g=true/\num g<num (bY cl.leaves):=fun g hg=>⟨bz.1 o4 g hg,m6 g hg⟩
 have hng:=hG.ng;have hnl:=hG.sz.nl;have hXl:=jK cl gs ls;have hlf:=F4 _ hl;have hmem: ∀i,i<cl.leaves.length->(nG cl gs ls).getD i pg∈nG cl gs ls:=fun i hi=>ai pg oO
 have hFo:=HN hG.lv;have hfm:=zJ (gs:=gs) oO (fun g hg=>(hgv g hg).1) (X:=nG cl gs ls) oO (fun x hx=>by
  have hx0:=hlf x hx;unfold nG at hx;obtain⟨i,hi,rfl⟩:=cx.1 hx;have hi:=fV.1 hi;obtain⟨a1,a2,a3,a4,-⟩:=Dw hx0;have hs:=hG.ck _ (ai cC hi);refine⟨fun y hy=>(lT hs _ _ y hy).2,?_,a1,a2,?_⟩
  ·rw[iS];have:=hs.ne;simp only;omega
  ·have:=hs.nv;simp only at a4⊢;omega)
 have hv:=Hw (lv:=cl.leaves) (G:=cl.gates) (gs:=gs) (X:=nG cl gs ls) hFo l v p h12 hng hG.sz.s m2 hgv f hXl (fun i hi=>by
  have hx0:=hlf _ (hmem i hi);rw[yx hi]at hx0⊢;exact⟨SW hG (ai cC hi) hx0,rfl⟩)
 generalize (if Hk (num (bY cl.leaves)) cl.gates gs then(0:Int)else 16)=e at*
 generalize nG cl gs ls=X at*;unfold ik.pv at*;refine eW call96 func96 ?_;exact z4 @hck @hfm @hv oT
theorem abZ (hG:IK cl) (h12:cl.leaves.length<=12) {s:aT} (hf:jC c s cl ch rs gs ls=0) (hl:nW (bY cl.leaves) (nG cl gs ls)=0) (n:Bytes):aH 44 [XC c sl s cl, .agg [.sl (gs.map .s), .sl ((nG cl gs ls).map jV)], .s n] (.b (BD cl gs n)):=by
 unfold BD
 by_cases h0:cl.leaves=[]
 ·rw[aQ h0,iI];unfold XC;rw[h0,cb];generalize nG cl gs ls=X at*;refine eW call44 func44 ?_;exact z0
 rw[aS h0,eH];have hv:=Zw hG h0 h12 hf hl;obtain⟨-,⟨-,m2,-,-⟩,-,-⟩:=Dx hf;have hg0:cl.gates≠[]:=fun e=>by
  have:=hG.lv;rw[e]at this;unfold DI at this;rw[af rfl]at this;injection this with this
  exact h0 (dt.1 this.symm)
 have hgp:0<gs.length:=by have:=gF.2 hg0;omega
 have e1:=fJ hgp;have l1:(cl.leaves.map aT.pv).length=cl.leaves.length:=au ..;have l2:(gs.map PV.s).length=gs.length:=au ..;have hz:((cl.leaves.length:Int)==0)=false:=by
  rw[du];intro e;exact h0 (dt.1 oO)
 have hp: ∀ _:True,(0:Int)<(gs.length:Int):=fun _=>oO
 generalize nG cl gs ls=X at*;generalize Hk (num (bY cl.leaves)) cl.gates gs=a at*;unfold XC ik.pv at*;generalize bY cl.leaves=q at*;generalize gs.getD 0 []=g0 at*;generalize hb:(g0==n)=b at*;cases b
 ·refine eW call44 func44 ?_;exact fz (aN @l1 (aN @l2 (aN @e1 (aN @hz (aN (hp oT) @hb)))))
 ·cases a
  ·refine eW call44 func44 ?_;exact iE (aN @l1 (aN @l2 (aN @e1 (aN @hz (aN (hp oT) @hb))))) @hv
  ·refine eW call44 func44 ?_;exact iE (aN @l1 (aN @l2 (aN @e1 (aN @hz (aN (hp oT) @hb))))) @hv
noncomputable def xA (cl:ik) (gs:List Bytes) (ls:List (List (Bool×Bytes))):List (List Bytes):=(nG cl gs ls).map fun x=>ep x.1 x.2.1 x.2.2
noncomputable def uk (c ctx:Bytes) (s:aT) (cl:ik) (ch:Bytes) (rs:List (Bool×Bytes)) (gs:List Bytes) (ls:List (List (Bool×Bytes))):Nat:=ic (WN ctx s (tw cl.gates) cl (ep s ch rs) (xA cl gs ls)) c
noncomputable def El (c sl ctx:Bytes) (s:aT) (cl:ik) (ch:Bytes) (rs:List (Bool×Bytes)) (gs:List Bytes) (ls:List (List (Bool×Bytes))):Int:=
 if ij c sl s cl≠0 then ij c sl s cl else if nH c sl s cl ch rs gs ls≠0 then nH c sl s cl ch rs gs ls else if b7 (uk c ctx s cl ch rs gs ls)=ch/\BD cl gs ch=true then 0 else 16
theorem XH {s:aT} (h:nH c sl s cl ch rs gs ls=0):jC c s cl ch rs gs ls=0/\cG (ba s.groups) c sl s.vars ch rs=0/\nW (bY cl.leaves) (nG cl gs ls)=0:=by
 unfold nH at h
 split at h
 ·rename_i g;exact aJ h g
 rename_i h1
 split at h
 ·rename_i g;exact aJ h g
 rename_i h2;exact⟨Classical.not_not.1 h1,Classical.not_not.1 h2,h⟩
theorem Sc {ctx:Bytes} {s:aT} (h:LZ c sl ctx s cl) (hp:xQ c sl s) (hG:IK cl) (c0:c≠[]) (ch:Bytes) (rs:List (Bool×Bytes)) (gs:List Bytes) (ls:List (List (Bool×Bytes))):aH 34 [XC c sl s cl, .s ctx, .sl ((ep s ch rs).map .s), .sl ((xA cl gs ls).map kU)] (.tup [N (uk c ctx s cl ch rs gs ls),E 0]):=by
 have hne:=hp.g.ne;have h12:=h.l12;refine tj hp.r.vc c0 h.lc hp.g.bd oO (fun s hs=>(hG.ck s hs).bd) (h.tl hG) (h.text hG) h.lx (by rw[iS];omega) (fun x hx=>by have:=(lT hp.g ch rs x hx).1;omega) (by unfold xA;rw[au,jK];omega) fun l hl=> ?_
 unfold xA nG at hl;rw[iK]at hl;obtain⟨i,hi,rfl⟩:=cx.1 hl;have hs:=hG.ck _ (ai cC (fV.1 hi));have:=hs.ne;exact⟨by simp only[Function.comp,iS];omega,fun x hx=>by have:=(lT hs _ _ x hx).1;omega⟩
theorem qX:cH kU 1:=⟨fun _=>rfl,fun _ y hy=>by cases fa.1 hy;rfl,fun _ _=>rfl,fun h=>aJ rfl h⟩
theorem C7 {P:Program} [cW P] {Q:AX->AS->Prop} {nx:Nat} {bf:Option (List Nat)} {nn:Nat} {d:Option Nat} {ops:List j9} {k:Nat} {s:AS} {tr:List (Nat×List Nat×List Nat)} {K:List Fr} {nm:Nat} {f:FuncId} {α:Type} {g:α->PV} {z n ver m:Nat} {l:List α} {gr:Bool} {el:Option TypeId} {ax ay aw:AV} {x y w r:PV}
  (he:qG P f [x,y,w, .sl (l.map g)] r) (hrow:cH g z) (hr:r.flat=true) (hg:az s.h n=some ⟨ver,aP g l,gr,el⟩) (hm:m=l.length) (hx:view (az s.h) 9 ax=some x) (hy:view (az s.h) 9 ay=some y) (hw:view (az s.h) 9 aw=some w) (hK:RW P Q nx bf nn ops (k+1) (s.sM d (.v r) []) (xJ bf k ([ax,ay,aw,AV.rs n ver 0 m z].flatMap (aW (az s.h) 9)) [] tr) K):
  CR P Q nx bf nn nm (.v (.fn (.func f))) [ax,ay,aw, .rs n ver 0 m z] d ops k s tr K:=
 lO he (by simp[bA,iH hrow hm hg,hx,hy,hw]) hr hK
end Go.Proofs.Tryz
namespace Go.Proofs.YthlapgdhjcddkaaGreatDoor
open Go Go.Dom Go.ChangeShapes Go.WideShapes Go.ChangeAt Go.RowKit Go.Proofs.Tryz
theorem acJ:Q0 Tryz.prog 9 9=true:=by kernel_rfl
end Go.Proofs.YthlapgdhjcddkaaGreatDoor
namespace Go.Proofs.Tryz
open Go Go.Dom Go.Num
variable {c ch ctx sl:Bytes} {rs:List (Bool×Bytes)}
theorem z6 {s:aT} {cl:ik} (h:LZ c sl ctx s cl) {gs:List Bytes} {ls:List (List (Bool×Bytes))} (h1:rs.length<1000000) (h2:gs.length<=1000) (h3:ls.length<=1000) (h4: ∀l∈ls,l.length<4611686018427387904):aH 13 [.agg [.s c, .s sl], .s ctx,s.pv,cl.pv,kC ch rs gs ls] (E (El c sl ctx s cl ch rs gs ls)):=by
 have hst:=DN h.lc h.ls h.zs h.zc;unfold El;unfold Qa at hst
 by_cases hE:ij c sl s cl=0
 case neg=>
  rw[af hE];rw[aa hE]at hst;have hb:(ij c sl s cl==0)=false:=by simpa using hE
  generalize ij c sl s cl=e at*;unfold kC aT.pv ik.pv at*;refine eW call13 func13 ?_;exact iE @hb @hst
 rw[aa (show¬ij c sl s cl≠0 by simpa using hE)]
 rw[af hE]at hst;obtain⟨hp,hG,c0⟩:=wZ h.lc h.ls h.zs h.zc hE;have ho:=U3 hp hG (ch:=ch) (rs:=rs) (gs:=gs) (ls:=ls) h1 h2 h3 h4;unfold AL at ho
 by_cases hO:nH c sl s cl ch rs gs ls=0
 case neg=>
  rw[af hO];rw[aa hO]at ho;have hb:(nH c sl s cl ch rs gs ls==0)=false:=by simpa using hO
  generalize nH c sl s cl ch rs gs ls=e at*;unfold kC aT.pv ik.pv XC at*;refine eW call13 func13 ?_;exact vV @hb @hst @ho
 rw[aa (show¬nH c sl s cl ch rs gs ls≠0 by simpa using hO)]
 rw[af hO]at ho;obtain⟨hf,hi,hl⟩:=XH hO;have hc:=Sc h hp hG c0 ch rs gs ls;have ha:=abZ hG h.l12 (c:=c) (sl:=sl) (s:=s) hf hl (b7 (uk c ctx s cl ch rs gs ls));have hnl:=hG.sz.nl;have hXl:=jK cl gs ls;have hfF:xA cl gs ls=(nG cl gs ls).map fun x=>ep x.1 x.2.1 x.2.2:=rfl
 have hfg: ∀i,i<cl.leaves.length->(xA cl gs ls).getD i []=ep ((nG cl gs ls).getD i pg).1 ((nG cl gs ls).getD i pg).2.1 ((nG cl gs ls).getD i pg).2.2:=fun i hi=>by
  rw[hfF];have:i<(nG cl gs ls).length:=oO;simp[bu,this]
 have hFl:(xA cl gs ls).length=cl.leaves.length:=by rw[hfF,au];exact hXl
 rw[show jV (s,ch,rs)= .agg [.sl ((ep s ch rs).map .s), .s ch, .sl (rs.map ca)]from rfl]at ho
 generalize uk c ctx s cl ch rs gs ls=z at*;have hacc:b7 z=ch->BD cl gs ch=BD cl gs (b7 z):=fun e=>by rw[e]
 generalize ep s ch rs=F0 at*;generalize xA cl gs ls=FF at*;generalize nG cl gs ls=X at*;generalize BD cl gs (b7 z)=ab at*;generalize BD cl gs ch=ab2 at*;clear hfF hE hO hf hi hl hp hG c0 h h4;obtain⟨gq,vs,es⟩:=s;obtain⟨lv,G⟩:=cl;simp only[XC,kC,aT.pv,ik.pv]at*;generalize bY lv=q at*;have l1:(X.map jV).length=lv.length:=by rw[au];exact hXl
 have hfin:(if b7 z=ch/\ab2=true then(0:Int)else 16)=if(b7 z==ch)&&ab then 0 else 16:=by
  by_cases e:b7 z=ch
  ·rw[hacc e,e];simp
  ·have:(b7 z==ch)=false:=by simpa using e
   rw[this];simp[e]
 rw[hfin];clear hfin hacc;generalize hzb:(b7 z==ch)=zb at*
 by_cases h0:lv=[]
 ·subst h0;obtain rfl:X=[]:=dt.1 hXl;obtain rfl:FF=[]:=dt.1 hFl;simp only[cb]at*;cases zb
  ·refine eW call13 func13 ?_;exact abu @hzb @hst @ho @hc
  ·cases ab
   ·refine eW call13 func13 ?_;exact Us @hzb @hst @ho @hc @ha
   ·refine eW call13 func13 ?_;exact Us @hzb @hst @ho @hc @ha
 have hpos:0<lv.length:=gF.2 h0;have hp0: ∀ _:True,(0:Int)<(lv.length:Int):=fun _=>oO
 have row: ∀{i:Nat},i<lv.length->aP kU (FF.take (i+1))=aP kU (FF.take i)++[.v (.sl ((FF.getD i []).map .s))]:=fun{i} hi=>by
  rw[aL ([]:List Bytes) (show i<FF.length by omega),bU];rfl
 have e2:=getD_map jV X pg (show 0<X.length by omega)
 have hg0:=hfg 0 hpos;have r0:=row hpos;rw[List.take_zero,show aP kU []=[]from rfl,List.nil_append]at r0
 simp only[jV]at e2;rw[<-hg0]at e2;generalize X.getD 0 pg=x0 at*;obtain⟨s0,c0,r00⟩:=x0;simp only at e2;generalize FF.getD 0 []=f0 at*;refine eW call13 func13 ?_;refine Bw @l1 @hst @ho ?_;refine aq ?_;refine dh (aN @l1 (aN @e2 (hp0 oT))) ?_;refine ah (α:=Nat) (fun j=>lv.length-(j+1)) (fun j=>⟨[(1, .v (.s ctx)),(9, .p 1003 0 0),(11, .p 1012 0 0),(13, .p 1024 0 0),(14, .p 1025 0 0),(15, .rs 1045 j 0 (j+1) 1),(41, .v (.sl (X.map jV))),(42,E' lv.length),(43,E' (j+1))],[(1003,⟨0,[.v (.s ch), .v (.sl (rs.map ca)), .v (.sl (gs.map .s)), .v (.sl (ls.map fj))],false,none⟩),(1012,⟨0,[.v (.s c), .v (.s sl), .v (.sl (gq.map cz)), .v (.sl (vs.map bO)), .v (.sl (es.map bZ.pv)), .v (.sl (lv.map aT.pv)), .v (.sl (G.map Gt.pv)), .v (.s q)],false,some 86⟩),(1024,⟨0,[.v (.sl (F0.map .s)), .v (.s ch), .v (.sl (rs.map ca))],false,some 56⟩),(1025,⟨0,[.v (.sl (gs.map .s)), .v (.sl (X.map jV))],false,some 59⟩),(1045,⟨j,aP kU (FF.take (j+1)),true,some 40⟩)],1049⟩) (fun j=>j+1<=lv.length) 0 (fun _=>cd rfl) hpos ?_ ?_
 ·rw[r0];exact lE
 ·clear e2 r0 hg0;intro j hj R hR;have hj1:(FF.take (j+1)).length=j+1:=by rw[bQ];omega
  have b1:=bT qX (FF.take (j+1));have b2:=cf qX (FF.take (j+1));rw[hj1,dr]at b1 b2
  by_cases hjt:j+1<lv.length
  ·have e2:=getD_map jV X pg (show j+1<X.length by omega)
   have hg:=hfg _ hjt;have hgo:=hR (j+1) oO oO;rw[row hjt]at hgo;simp only[jV]at e2;rw[<-hg]at e2;clear hR hg hfg row;generalize X.getD (j+1) pg=x0 at*;obtain⟨s0,c0,r00⟩:=x0;simp only at e2;generalize FF.getD (j+1) []=f1 at*;refine dw (aN @l1 (aN @e2 (aN @b1 @b2))) ?_;refine hgo _ ?_
   (refine AS.Le.of (by first|decide|omega) ?_ ?_<;>simp[cU,cT,aO,az,AV.bd,AV.bd.bdL,u8,aj,ak,an])
   all_goals (intro c hc;rcases hc with h|h<;>first|exact bj h|(subst h;rfl))
  ·have hjx:j+1=FF.length:=oO;rw[show FF.take (j+1)=FF from cQ oO]at*
   clear hR hfg row;cases zb
   ·repeat' first|simp only[go_sem,seval,l1,b1,b2,hzb]|(refine C7 (l:=FF) (g:=kU) (gr:=true) (el:=some 40) hc qX rfl (by simp[az]) hjx rfl rfl rfl ?_)|refine oE ?_|apply xX<;>intro hc
    all_goals rfl
   ·cases ab
    ·repeat' first|simp only[go_sem,seval,l1,b1,b2,hzb]|(refine C7 (l:=FF) (g:=kU) (gr:=true) (el:=some 40) hc qX rfl (by simp[az]) hjx rfl rfl rfl ?_)|refine cP ha ?_|refine oE ?_|apply xX<;>intro hc
     all_goals rfl
    ·repeat' first|simp only[go_sem,seval,l1,b1,b2,hzb]|(refine C7 (l:=FF) (g:=kU) (gr:=true) (el:=some 40) hc qX rfl (by simp[az]) hjx rfl rfl rfl ?_)|refine cP ha ?_|refine oE ?_|apply xX<;>intro hc
     all_goals rfl
def Mg:ik:=⟨[],[]⟩
theorem ZA:LZ [2] [2] [97] E7 Mg:=⟨by decide,by decide,by decide,Vh,⟨by decide, .inl oC,fun s h=>(by cases h),fun s h=>(by cases h)⟩,by decide,by decide,fun g h=>by cases h⟩
theorem Yo:ij [2] [2] E7 Mg=0:=by
 unfold ij;rw[UI]
 kernel_rfl
theorem SD {s:aT}:jC c s Mg ch rs [] []=iT c s.vars.length ch rs [] []:=by
 unfold jC iT;simp[Mg]
theorem YB {s:aT} (h:ij c sl s Mg=0) (hv:BR c sl ctx s ch rs [] []=0):El c sl ctx s Mg ch rs [] []=0:=by
 unfold BR at hv
 by_cases h1:iT c s.vars.length ch rs [] []=0
 case neg=>rw[af h1]at hv;exact aJ hv h1
 rw[aa (by simpa using h1)]at hv
 by_cases h2:cG (ba s.groups) c sl s.vars ch rs=0
 case neg=>rw[af h2]at hv;exact aJ hv h2
 rw[aa (by simpa using h2)]at hv
 by_cases h3:b7 (ic (L3 ctx s (ep s ch rs)) c)=ch
 case neg=>rw[aa h3]at hv;exact aJ hv oC
 have ho:nH c sl s Mg ch rs [] []=0:=by
  unfold nH;rw[SD,h1,aa oC,aa (by simpa using h2)]
  rfl
 have hc:uk c ctx s Mg ch rs [] []=ic (L3 ctx s (ep s ch rs)) c:=by
  unfold uk WN;rw[show tw Mg.gates=[]from af rfl]
  rfl
 have ha:BD Mg [] ch=true:=by unfold BD;rw[aQ (show Mg.leaves=[]from rfl),iI]
 unfold El;rw[h,aa oC,ho,aa oC,hc,af ⟨h3,ha⟩]
theorem MJ:aH 9 [] (.b true):=IU fun ch rs hl hz=>by
 have h:=z6 ZA (ch:=ch) (rs:=rs.map iB) (gs:=[]) (ls:=[]) (by rw[au];omega) oC oC (fun l h=>by cases h)
 rw[YB Yo hz]at h;unfold kC at h;rw[show(rs.map iB).map ca=rs.map Zp by rw[iK];rfl]at h
 exact h
theorem Sf {s:aT} {cl:ik} (hs:xq s) (hG:IK cl) (hE:ij c sl s cl=0) (ch:Bytes) (rs:List (Bool×Bytes)) (gs:List Bytes) (ls:List (List (Bool×Bytes))):Fq c sl ctx s (tw cl.gates) cl (ep s ch rs) (xA cl gs ls)= .tup [N (uk c ctx s cl ch rs gs ls),E 0]:=by
 unfold Fq uk;have hm: ∀i,i<cl.leaves.length->(xA cl gs ls).getD i []=ep (cl.leaves.getD i cC) (gs.getD (NY cl.gates i).toNat []) (ls.getD i []):=fun i hi=>by
  have h2:i<(nG cl gs ls).length:=by rw[jK];exact hi
  have h3:=yx (cl:=cl) (gs:=gs) (ls:=ls) hi;unfold xA;rw[bu,fy,bC h2,Option.map_some,Option.getD_some];rw[bu,bC h2,Option.getD_some]at h3;rw[h3]
 have hl:(xA cl gs ls).length=cl.leaves.length:=by unfold xA;rw[au,jK]
 rw[aa (by simpa using hE)]
 have a1:qD (ep s ch rs)=true:=bz.2 fun x hx=>(lT hs ch rs x hx).2
 have a2:(xA cl gs ls).all qD=true:=bz.2 fun l hx=>by
  obtain⟨i,hi,rfl⟩:=fU hx;have:=hm i oO;rw[bu,bC hi,Option.getD_some]at this;rw[this];exact bz.2 fun x hx=>(lT (hG.ck _ (ai cC oO)) _ _ x hx).2
 rw[aa (by rw[a1,a2];decide)]
 have a3:((xA cl gs ls).zip cl.leaves).all F3=true:=bz.2 fun x hx=>by
  obtain⟨i,hi,rfl⟩:=fU hx;have hi2:i<cl.leaves.length:=by rw[List.length_zip]at hi;omega
  have:=pN ([]:List Bytes) cC (show i<(xA cl gs ls).length by omega) hi2
  rw[bu,bC hi,Option.getD_some]at this;rw[this,hm i hi2];exact aQ (iS ..)
 rw[aa (by rw[iS,hl,a3];simp)]
theorem yg {P:Program} [cW P] {Q:AX->AS->Prop} {nx:Nat} {bf:Option (List Nat)} {nn:Nat} {d:Option Nat} {ops:List j9} {k:Nat} {s:AS} {tr:List (Nat×List Nat×List Nat)} {K:List Fr} {nm:Nat} {f:FuncId} {α:Type} {g:α->PV} {z n ver m:Nat} {l:List α} {gr:Bool} {el:Option TypeId} {a1 a2 a3 a4 a5:AV} {x1 x2 x3 x4 x5 r:PV}
  (he:qG P f [x1,x2,x3,x4,x5, .sl (l.map g)] r) (hrow:cH g z) (hr:r.flat=true) (hg:az s.h n=some ⟨ver,aP g l,gr,el⟩) (hm:m=l.length) (h1:view (az s.h) 9 a1=some x1) (h2:view (az s.h) 9 a2=some x2) (h3:view (az s.h) 9 a3=some x3) (h4:view (az s.h) 9 a4=some x4) (h5:view (az s.h) 9 a5=some x5) (hK:RW P Q nx bf nn ops (k+1) (s.sM d (.v r) []) (xJ bf k ([a1,a2,a3,a4,a5,AV.rs n ver 0 m z].flatMap (aW (az s.h) 9)) [] tr) K):
  CR P Q nx bf nn nm (.v (.fn (.func f))) [a1,a2,a3,a4,a5, .rs n ver 0 m z] d ops k s tr K:=
 lO he (by simp[bA,iH hrow hm hg,h1,h2,h3,h4,h5]) hr hK
theorem KF (x:BW) (ch:Bytes) (rs:List (Bool×Bytes)) (gs:List Bytes) (ls:List (List (Bool×Bytes))) (ctx2:Bytes) (hx:Mc x) (h1:rs.length<4611686018427387904) (h2:gs.length<4611686018427387904) (h3:ls.length<4611686018427387904) (h4: ∀l∈ls,l.length<4611686018427387904):aH 4 [x.pv,kC ch rs gs ls, .s ctx2] (.b true):=by
 have hf:=z8 hx;have hs:=Bi ch h1 h2 h3 h4;have aw:=MJ
 by_cases hg:sQ x=true/\rm ch rs gs ls=true
 case neg=>
  clear hx h1 h2 h3 h4;generalize sQ x=b1 at*;generalize rm ch rs gs ls=b2 at*;unfold BW.pv kC at*;cases b1
  ·refine eW call4 func4 ?_;exact z2 @hf @aw
  ·cases b2
   ·refine eW call4 func4 ?_;exact z4 @hf @hs @aw oT
   ·exact aJ ⟨rfl,rfl⟩ hg
 obtain⟨hc,-⟩:=Dv hg.1;obtain⟨-,s1,s2,s3,-,s5,s6⟩:=J1 hg.2;rw[hg.1]at hf;rw[hg.2]at hs;clear hg hx
 by_cases hl:ctx2.length<=200
 case neg=>
  have x1:decide ((ctx2.length:Int)>200)=true:=aQ oO;clear h1 h2 h3 h4 hc s1 s2 s3 s5 s6;unfold BW.pv kC at*;refine eW call4 func4 ?_;exact ry @x1 @hf @hs @aw oT
 have x1:decide ((ctx2.length:Int)>200)=false:=aS oO;have hc2:LZ x.c x.sl ctx2 x.s x.cl:=⟨hc.lc,hc.ls,oO,hc.zs,hc.zc,hc.l12,hc.g5,hc.k⟩;have v1:=z6 hc (ch:=ch) (rs:=rs) (gs:=gs) (ls:=ls) oO oO oO h4
 by_cases hv:El x.c x.sl x.ctx x.s x.cl ch rs gs ls=0
 case neg=>
  have hb:(El x.c x.sl x.ctx x.s x.cl ch rs gs ls==0)=false:=by simpa using hv
  have hb2:(El x.c x.sl x.ctx x.s x.cl ch rs gs ls !=0)=true:=by simpa using hv
  obtain⟨c,sl,ctx,⟨gq,vs,es⟩,⟨lv,G⟩,w,ws⟩:=x;simp only at v1 hb hb2;generalize El c sl ctx ⟨gq,vs,es⟩ ⟨lv,G⟩ ch rs gs ls=e at*;clear h1 h2 h3 h4 hc hc2 s1 s2 s3 s5 s6 hv;simp only[BW.pv,kC,aT.pv,ik.pv]at*;refine eW call4 func4 ?_;exact ry (aN @x1 (aN @hb @hb2)) @hf @hs @aw @v1
 rw[hv]at v1;have v2:=z6 hc2 (ch:=ch) (rs:=rs) (gs:=gs) (ls:=ls) oO oO oO h4;have v3:=Nw hc (ch:=ch) (rs:=rs) (gs:=gs) (ls:=ls) oO oO oO h4;unfold H3 AL at v3;unfold El at hv v2
 by_cases hE:ij x.c x.sl x.s x.cl=0
 case neg=>rw[af hE]at hv;exact aJ hv hE
 rw[aa (by simpa using hE)]at hv v2 v3
 by_cases hO:nH x.c x.sl x.s x.cl ch rs gs ls=0
 case neg=>rw[af hO]at hv;exact aJ hv hO
 rw[aa (by simpa using hO)]at hv v2
 rw[af hO]at v3
 by_cases hd:b7 (uk x.c x.ctx x.s x.cl ch rs gs ls)=ch/\BD x.cl gs ch=true
 case neg=>rw[aa hd]at hv;exact aJ hv oC
 obtain⟨hd,ha⟩:=hd;rw[ha]at v2;obtain⟨hp,hG,c0⟩:=wZ hc.lc hc.ls hc.zs hc.zc hE;have hne:=hp.g.ne;have h12:=hc.l12;have ll: ∀l∈xA x.cl gs ls,l.length<=900/\ ∀x∈l,x.length<=100000:=fun l hl=>by
  unfold xA nG at hl;rw[iK]at hl;obtain⟨i,hi,rfl⟩:=cx.1 hl;have hs:=hG.ck _ (ai cC (fV.1 hi));have:=hs.ne;exact⟨by simp only[Function.comp,iS];omega,fun x hx=>by have:=(lT hs _ _ x hx).1;omega⟩
 have w1:=qQ hc (fs:=ep x.s ch rs) (by rw[iS];omega) (fun y hy=>by have:=(lT hp.g ch rs y hy).1;omega) (lss:=xA x.cl gs ls) (by unfold xA;rw[au,jK];omega) ll
 have w2:=qQ hc2 (fs:=ep x.s ch rs) (by rw[iS];omega) (fun y hy=>by have:=(lT hp.g ch rs y hy).1;omega) (lss:=xA x.cl gs ls) (by unfold xA;rw[au,jK];omega) ll
 rw[Sf hp.g hG hE]at w1 w2;have w1:aH 10 _ (.tup [.s (b7 (uk x.c x.ctx x.s x.cl ch rs gs ls)),E 0]):=w1;have w2:aH 10 _ (.tup [.s (b7 (uk x.c ctx2 x.s x.cl ch rs gs ls)),E 0]):=w2;rw[hd]at w1;have hnl:=hG.sz.nl;have hXl:=jK x.cl gs ls;have hfF:xA x.cl gs ls=(nG x.cl gs ls).map fun x=>ep x.1 x.2.1 x.2.2:=rfl
 have hfg: ∀i,i<x.cl.leaves.length->(xA x.cl gs ls).getD i []=ep ((nG x.cl gs ls).getD i pg).1 ((nG x.cl gs ls).getD i pg).2.1 ((nG x.cl gs ls).getD i pg).2.2:=fun i hi=>by
  rw[hfF];have:i<(nG x.cl gs ls).length:=oO;simp[bu,this]
 have hFl:(xA x.cl gs ls).length=x.cl.leaves.length:=by rw[hfF,au];exact hXl
 rw[show jV (x.s,ch,rs)= .agg [.sl ((ep x.s ch rs).map .s), .s ch, .sl (rs.map ca)]from rfl]at v3
 have q0:(ch==ch)=true:=eY ch;have f0:(false==false)=true:=rfl;have f1:(true==true)=true:=rfl;have q2:(ch !=ch)=false:=by rw[bne,q0];rfl
 have q1:(if b7 (uk x.c ctx2 x.s x.cl ch rs gs ls)=ch/\true=true then(0:Int)else 16)=if(b7 (uk x.c ctx2 x.s x.cl ch rs gs ls)==ch)=true then 0 else 16:=by
  simp only[and_true,fK]
 rw[q1]at v2;clear q1 hd ha hv hE hO ll hc hc2 hp hG c0 hfF h1 h2 h3 h4 s1 s2 s3 s5 s6 hne;generalize b7 (uk x.c ctx2 x.s x.cl ch rs gs ls)=z at*;generalize ep x.s ch rs=F0 at*;generalize xA x.cl gs ls=FF at*;generalize nG x.cl gs ls=X at*;obtain⟨c,sl,ctx,⟨gq,vs,es⟩,⟨lv,G⟩,w,ws⟩:=x;simp only[BW.pv,kC,aT.pv,ik.pv]at*;generalize hzb:(z==ch)=zb at*;have l1:(X.map jV).length=lv.length:=by rw[au];exact hXl
 by_cases h0:lv=[]
 ·subst h0;obtain rfl:X=[]:=dt.1 hXl;obtain rfl:FF=[]:=dt.1 hFl;simp only[cb]at*;cases zb
  ·refine eW call4 func4 ?_;repeat' first|simp only[go_sem,seval,x1,hzb,q0,q2,f0,f1]|refine cP hf ?_|refine cP hs ?_|refine cP v1 ?_|refine cP v3 ?_|refine cP w1 ?_|refine cP w2 ?_|refine cP v2 ?_|refine cP aw ?_|(refine aq ?_)|refine oE ?_|apply xX<;>intro hc
   all_goals rfl
  ·refine eW call4 func4 ?_;repeat' first|simp only[go_sem,seval,x1,hzb,q0,q2,f0,f1]|refine cP hf ?_|refine cP hs ?_|refine cP v1 ?_|refine cP v3 ?_|refine cP w1 ?_|refine cP w2 ?_|refine cP v2 ?_|refine cP aw ?_|(refine aq ?_)|refine oE ?_|apply xX<;>intro hc
   all_goals rfl
 have hpos:0<lv.length:=gF.2 h0;have hp0: ∀ _:True,(0:Int)<(lv.length:Int):=fun _=>oO
 have row: ∀{i:Nat},i<lv.length->aP kU (FF.take (i+1))=aP kU (FF.take i)++[.v (.sl ((FF.getD i []).map .s))]:=fun{i} hi=>by
  rw[aL ([]:List Bytes) (show i<FF.length by omega),bU];rfl
 have e2:=getD_map jV X pg (show 0<X.length by omega)
 have hg0:=hfg 0 hpos;have r0:=row hpos;rw[List.take_zero,show aP kU []=[]from rfl,List.nil_append]at r0
 simp only[jV]at e2;rw[<-hg0]at e2;generalize X.getD 0 pg=x0 at*;obtain⟨s0,c0,r00⟩:=x0;simp only at e2;generalize FF.getD 0 []=f0 at*;refine eW call4 func4 ?_;refine mK (aN @l1 @x1) @hf @hs @v1 @v3 ?_;refine aq ?_;refine dh (aN @l1 (aN @e2 (hp0 oT))) ?_;refine ah (α:=Nat) (fun j=>lv.length-(j+1)) (fun j=>⟨[(2, .v (.s ctx2)),(3, .p 1000 0 0),(4, .p 1001 0 0),(7, .p 1039 0 0),(8, .p 1040 0 0),(9, .v (E 0)),(10, .rs 1059 j 0 (j+1) 1),(11,E' (j+1))],[(1000,⟨0,[.v (.s c), .v (.s sl), .v (.s ctx), .v (.sl (gq.map cz)), .v (.sl (vs.map bO)), .v (.sl (es.map bZ.pv)), .v (.sl (lv.map aT.pv)), .v (.sl (G.map Gt.pv)), .v (.sl (w.map ca)), .v (.sl (ws.map fj))],false,none⟩),(1001,⟨0,[.v (.s ch), .v (.sl (rs.map ca)), .v (.sl (gs.map .s)), .v (.sl (ls.map fj))],false,none⟩),(1039,⟨0,[.v (.sl (F0.map .s)), .v (.s ch), .v (.sl (rs.map ca))],false,some 56⟩),(1040,⟨0,[.v (.sl (gs.map .s)), .v (.sl (X.map jV))],false,some 59⟩),(1059,⟨j,aP kU (FF.take (j+1)),true,some 40⟩)],1064⟩) (fun j=>j+1<=lv.length) 0 (fun _=>cd rfl) hpos ?_ ?_
 ·rw[r0];exact lE
 ·clear e2 r0 hg0;intro j hj R hR;have hj1:(FF.take (j+1)).length=j+1:=by rw[bQ];omega
  have b1:=bT qX (FF.take (j+1));have b2:=cf qX (FF.take (j+1));rw[hj1,dr]at b1 b2
  by_cases hjt:j+1<lv.length
  ·have e2:=getD_map jV X pg (show j+1<X.length by omega)
   have hg:=hfg _ hjt;have hgo:=hR (j+1) oO oO;rw[row hjt]at hgo;simp only[jV]at e2;rw[<-hg]at e2;clear hR hg hfg row;generalize X.getD (j+1) pg=x0 at*;obtain⟨s0,c0,r00⟩:=x0;simp only at e2;generalize FF.getD (j+1) []=f1 at*;refine dw (aN @l1 (aN @e2 (aN @b1 @b2))) ?_;refine hgo _ ?_
   (refine AS.Le.of (by first|decide|omega) ?_ ?_<;>simp[cU,cT,aO,az,AV.bd,AV.bd.bdL,u8,aj,ak,an])
   all_goals (intro c hc;rcases hc with h|h<;>first|exact bj h|(subst h;rfl))
  ·have hjx:j+1=FF.length:=oO;rw[show FF.take (j+1)=FF from cQ oO]at*
   clear hR hfg row;cases zb
   ·repeat' first|simp only[go_sem,seval,l1,b1,b2,hzb,q0,q2,eY]|(refine yg (l:=FF) (g:=kU) (gr:=true) (el:=some 40) w2 qX rfl (by simp[az]) hjx rfl rfl rfl rfl rfl ?_)|(refine yg (l:=FF) (g:=kU) (gr:=true) (el:=some 40) w1 qX rfl (by simp[az]) hjx rfl rfl rfl rfl rfl ?_)|refine cP v2 ?_|refine cP aw ?_|refine oE ?_|apply xX<;>intro hc
    all_goals rfl
   ·repeat' first|simp only[go_sem,seval,l1,b1,b2,hzb,q0,q2,eY]|(refine yg (l:=FF) (g:=kU) (gr:=true) (el:=some 40) w2 qX rfl (by simp[az]) hjx rfl rfl rfl rfl rfl ?_)|(refine yg (l:=FF) (g:=kU) (gr:=true) (el:=some 40) w1 qX rfl (by simp[az]) hjx rfl rfl rfl rfl rfl ?_)|refine cP v2 ?_|refine cP aw ?_|refine oE ?_|apply xX<;>intro hc
    all_goals rfl
end Go.Proofs.Tryz
namespace Go.Proofs.YthlapgdhjcddkaaGreatDoor
open Go Go.Dom Go.ChangeShapes Go.WideShapes Go.ChangeAt Go.RowKit Go.Proofs.Tryz
theorem xR (os:Os) (started:os.Started) (H:Type) (enc:TypeId×Value->H):
  ReturnsInHanded {} Tryz.checked os 4 .any (fun w args=>(Rows.fiatshamirContextsSpec.pre enc Tryz.prog Tryz.f4 [] false w args/\laidMetH Tryz.prog mM w)/\sizedMet enc Tryz.prog Tryz.f4 (OpenSpec.ofChange Rows.fiatshamirContextsSpec) false w args)
   (Rows.fiatshamirContextsSpec.post enc Tryz.prog Tryz.f4 false true false false):=by
 refine returnsInHanded_of_change_and (C:=Tryz.checked) (X:=fun w _=>laidMetH Tryz.prog mM w) (fun _ _ _ hh h=>h.of_heap hh) XM started (by kernel_rfl) Tryz.func4
  (ChangeSpec.witness_shaped (enc:=enc) (C:=Tryz.checked) (os:=os) (X:=fun w _=>laidMetH Tryz.prog mM w) false (World.laidAll Tryz.prog os mM) #[.agg #[.string ⟨#[]⟩, .string ⟨#[]⟩, .string ⟨#[]⟩, .slice none 0 0, .slice none 0 0, .slice none 0 0, .slice none 0 0, .slice none 0 0, .slice none 0 0, .slice none 0 0], .agg #[.string ⟨#[]⟩, .slice none 0 0, .slice none 0 0, .slice none 0 0], .string ⟨#[]⟩] 8 (World.laidAll_os _ _ _)
   (World.shaped_of_ZipB (by kernel_rfl) (by kernel_rfl)) (by kernel_rfl) (by kernel_rfl) (by kernel_rfl)
   (by rw[MakeChecks.laidMetH_plain _ _ _ (by kernel_rfl)];exact laidMet_laidAll _ (by kernel_rfl) (by kernel_rfl))) ?_
 intro W base args ds gs before hval0 hW hcnd hwt hL _;rw[MakeChecks.laidMetH_plain _ _ _ (by kernel_rfl)]at hL
 have hval: ∀(j:Nat) t v,Tryz.f4.params[j]?=some t->args[j]?=some v->Value.okWide Tryz.prog W .any base t v:=hval0;have hW':=hW;obtain⟨p,q,hA0,hV,rfl,hfz,hnd⟩:=hW;have hA:DataW.TrodAll enc Tryz.prog W 0 (fun _=>true) true Tryz.f4.params.toList args.toList ds p:=hA0
 have hlt: ∀x∈p++q,x.block<W.heap.size:=fun x hx=>hW'.lt x hx
 rw[Tryz.params4]at hA hval;obtain⟨v0,v1,v2,d0,d1,d2,p0,p1,p2,rfl,rfl,rfl,h0,h1,h2⟩:=trodAll_three hA;obtain⟨rfl,rfl⟩:=trodVars_none hV;have hall:=bz.1 hwt;have rb:=reachBytes_lt;have hv0:=hval 0 39 v0 rfl rfl;unfold Value.okWide at hv0;rw[Tryz.underlying39]at hv0;simp only at hv0;obtain⟨c0,rfl,s0,-⟩:=hv0;have w0: ∀m∈d0.weights Tryz.prog 39,m<=reachBytes:=fun m hm=>of_decide_eq_true (hall m (DataW.weights_mem_each (j:=0) rfl rfl m hm))
 obtain⟨n0,t0⟩:=id h0;obtain⟨L7,r0,o0,y0⟩:=oN 12 n0 _ c0.toList d0 p0 O2 t0 w0;obtain⟨x0,ea0,hx0⟩:=IC y0;have q0:PR (x8 W) (x0.pv) (.agg c0):=by
  rw[<-ea0];have:=PR.agg (rd:=x8 W) L7 c0.toList o0 r0.1 r0.2;simpa using this
 have hv1:=hval 1 52 v1 rfl rfl;unfold Value.okWide at hv1;rw[Tryz.underlying52]at hv1;simp only at hv1;obtain⟨c1,rfl,s1,-⟩:=hv1;have w1: ∀m∈d1.weights Tryz.prog 52,m<=reachBytes:=fun m hm=>of_decide_eq_true (hall m (DataW.weights_mem_each (j:=1) rfl rfl m hm))
 obtain⟨n1,t1⟩:=id h1;obtain⟨AZ,r1,o1,y1⟩:=oN 9 n1 _ c1.toList d1 p1 aah t1 w1;obtain⟨ch,rs,gs,ls,ea1,hb1,hc1,hd1,he1⟩:=Vk y1;have q1:PR (x8 W) (kC ch rs gs ls) (.agg c1):=by
  rw[<-ea1];have:=PR.agg (rd:=x8 W) AZ c1.toList o1 r1.1 r1.2;simpa using this
 have hv2:=hval 2 9 v2 rfl rfl;obtain⟨z2,rfl⟩:=okWide_string uS hv2;have w2: ∀m∈d2.weights Tryz.prog 9,m<=reachBytes:=fun m hm=>of_decide_eq_true (hall m (DataW.weights_mem_each (j:=2) rfl rfl m hm))
 obtain⟨n2,t2⟩:=id h2;obtain⟨pv2,r2,o2,y2⟩:=oN 9 n2 _ [.string z2] d2 p2 acJ t2 w2;obtain⟨ctx2,rfl⟩:=Vl y2;have q2:PR (x8 W) (.s ctx2) (.string z2):=r2.2 0 _ _ rfl rfl;obtain⟨g,hg,hc⟩:=KF x0 ch rs gs ls ctx2 hx0 (by omega) (by omega) (by omega) (fun l hl=>by have:=he1 l hl;omega)
 have hg3:g=4:=by
  have a1:=hg #[] W;have a2:=Tryz.call4 #[] W;rw[a1]at a2;injection a2 with a2 _
  injection a2
 subst hg3;refine(hc W (x8 W) [.agg c0, .agg c1, .string z2] (xh hL) (fun _ _ _ h=>h) (.cons q0 (.cons q1 (.cons q2 .nil)))).mono ?_
 rintro e W' ⟨v,rfl,hb,hpr⟩;cases hpr;refine⟨_,rfl,wR (pa:=p0++(p1++p2)) (pv:=[]) hW' (fun _ _ _=>trodAll_mk1 (shut_bool C3 true)) (fun sp hsp=>trodAll_mk3 (WideElems.Trod_stays xz (by kernel_rfl) (of_decide_eq_true (by kernel_rfl)) h0 (fun x hx=>hb.same (hlt x (by simp[hx]))) (fun x hx=>hsp x (by simp[hx]))) (WideElems.Trod_stays xz (by kernel_rfl) (of_decide_eq_true (by kernel_rfl)) h1 (fun x hx=>hb.same (hlt x (by simp[hx]))) (fun x hx=>hsp x (by simp[hx]))) (WideElems.Trod_stays xz (by kernel_rfl) (of_decide_eq_true (by kernel_rfl)) h2 (fun x hx=>hb.same (hlt x (by simp[hx]))) (fun x hx=>hsp x (by simp[hx])))) (fun _ _=>rfl) (by simp) hb (ok_one (by kernel_rfl) rfl (okWide_bool_mk C3 true))⟩
