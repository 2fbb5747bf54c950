/- Part of the proof. -/
import Derived.Test.YtipbhapfacgabaaGreatDoorUH31
import Derived.Test.YtipbhapfacgabaaGreatDoorUH32
set_option linter.all false
set_option maxHeartbeats 16000000
set_option maxRecDepth 100000
namespace Go.Proofs.Tryz
open Go Go.Dom
theorem y5 (k:Nat) {c:Int} (hc:c=IntKind.u8.wrap (k:Int)) (l:List Bytes) (hm:l≠[]) (hn:l.length<=1000) (hb: ∀s∈l,s.length<=100000):aF 269 [.i .u8 c, .sl (l.map .s)] (.s (nG (ig k l))):=by
 have h:=QF k hc [] l hm (by simpa using hn) (by simpa using hb)
 rw[List.nil_append,bH]at h;refine eW call269 func269 ?_;repeat' first|simp only[go_sem,seval]|refine cV h ?_|refine oE ?_|apply xX<;>intro hc
theorem R4 (l:Bytes) (hl:l.length<=100000):aF 186 [.s l] (.s (qY l)):=by
 have h:=y5 78 (c:=78) rfl [l] (by simp) (by simp) (by simp;omega)
 simp only[br,bH]at h;refine eW call186 func186 ?_;exact z1 @h
theorem kI (st l d:Bytes) (h1:st.length<=100000) (h2:l.length<=100000) (h3:d.length<=100000):aF 185 [.s st, .s l, .s d] (.s (e9 st l d)):=by
 have h:=y5 65 (c:=65) rfl [st,l,d] (by simp) (by simp) (by intro s hs;simp at hs;rcases hs with rfl|rfl|rfl<;>assumption)
 simp only[br,bH]at h;refine eW call185 func185 ?_;exact z1 @h
theorem jJ (st l:Bytes) (xs:List Bytes) (h1:st.length<=100000) (h2:l.length<=100000) (h0:xs≠[]) (hn:xs.length<=900) (h3: ∀x∈xs,x.length<=100000):aF 189 [.s st, .s l, .sl (xs.map .s)] (.s (eF st l xs)):=by
 have h:=QE 76 (c:=76) rfl [st,l] xs h0 (by simp;omega) (by intro s hs;simp at hs;rcases hs with rfl|rfl|hs<;>first|assumption|exact h3 s hs)
 simp only[br,bH]at h;refine eW call189 func189 ?_;exact z1 @h
theorem s8 (st l:Bytes) (n:Bool) (a:Bytes) (h1:st.length<=100000) (h2:l.length<=100000) (h3:a.length<=99999):aF 271 [.s st, .s l, .sl [.agg [.b n, .s a]]] (.s (Hl st l [(n,a)])):=by
 have h:=QD 73 (c:=73) rfl [st,l] n a (by simp) (by intro s hs;simp at hs;rcases hs with rfl|rfl|rfl<;>first|assumption|(simp[oG];omega))
 simp only[br,bH]at h;refine eW call271 func271 ?_;exact z1 @h
theorem Pz:(2^64)+(2^64)<dP:=by decide+kernel
theorem XO {a b m:Nat} (ha:a<m) (hb:b<m) (hm:m<(2^64)):aF 289 [N a,N b,N m] (N ((a+b)%m)):=by
 have hW:=Pz;have h1:=Al (a:=m) (b:=b) oO oO;have h2:=Ef (a:=a) (b:=m-b) oO oO
 by_cases hge:m-b<=a
 ·have h3:=Al (a:=a) (b:=m-b) hge oO;have h4: ∀ _:True,(0:Int)<=bK a (m-b):=fun _=>mP.2 hge
  have h5: ∀ _:True,decide (bK a (m-b)>=0)=true:=fun _=>aS (h4 oT)
  have e:(a+b)%m=a-(m-b):=by rw[show a+b=(a-(m-b))+m by omega,Nat.add_mod_right,bM oO]
  rw[e];generalize bK a (m-b)=cm at*;refine eW call289 func289 ?_;exact zW (h5 oT) @h1 @h2 @h3 oT
 ·have h3:=TJ (a:=a) (b:=b) oO;have h4: ∀ _:True,¬(0:Int)<=bK a (m-b):=fun _ h=>hge (mP.1 h)
  have h5: ∀ _:True,decide (bK a (m-b)>=0)=false:=fun _=>b9 (h4 oT)
  rw[bM oO];generalize bK a (m-b)=cm at*;refine eW call289 func289 ?_;exact zW (h5 oT) @h1 @h2 @h3 oT
theorem XD {a b m:Nat} (ha:a<(2^64)) (hb:b<(2^64)) (hm:m<(2^64)) (h0:0<m):aF 201 [N a,N b,N m] (.tup [N ((a+b)%m),E 0]):=by
 have hc:=fun nm=>Gh nm (aZ a) (aZ b) (aZ m)
 rw[HQ ha (vN hb) hm h0]at hc;have hp:=XO (a:=a%m) (b:=b%m) (m:=m) (aL _ h0) (aL _ h0) hm;rw[<-lg]at hp;refine eW call201 func201 ?_;repeat' first|simp only[go_sem,seval]|(refine aW (hc _) (by simp) ?_)|refine cP (kZ ha hm h0) ?_|refine cP (kZ hb hm h0) ?_|refine cP hp ?_|refine oE ?_|apply xX<;>intro hc
abbrev SB:TypeId:=325
theorem Ao (st b:Bytes) (hs:st.length<=100000) (vb:aa b=true) (b0:b≠[]) (lb:b.length<=8):aF 190 [.s st, .s b] (.tup [N (iV st b),E 0]):=by
 have hv:=aD b;rw[vb]at hv;have hbb:(b==([]:Bytes))=false:=by simpa using b0
 have w1:=fun nm=>ZX SB 1007 nm
 have w2:=fun nm=>Uz 1014 nm 0 oC
 have w3:=fun nm=>Ld FR 1014 1016 nm 7 (be 8 0) oC oC oC
 have hp:=y5 67 (c:=67) rfl [st,be 8 0] (by simp) (by simp) (by intro s hs';simp at hs';rcases hs' with rfl|rfl;exact hs;simp[cA])
 simp only[br,bH]at hp;have hp:aF 269 [.i .u8 67, .sl [.s st, .s (be 8 0)]] (.s (zJ st)):=hp;have hcl:=Hk st;have htr:iV st b=num ((zJ st).take (b.length+8))%num b:=rfl;rw[htr];generalize zJ st=code at*;have w4:=fun nm=>wsF SB Xz 1007 nm code oO oO
 have w5:=fun nm=>ZW SB 1007 1022 nm 0 code oC
 have w6:=fun nm=>Ld SB 1007 1022 nm 0 code oC oO oO
 have hd1: ∀ _:True,decide ((0:Int)<(b.length:Int)+8)=true:=fun _=>by simp;omega
 refine eW call190 func190 ?_;refine Hx @hbb @hv ?_;refine aj ?_;repeat' first|simp only[go_sem,seval,hbb,hd1 oT]|(refine aW (w1 _) (by simp[hget,bF]) ?_)|(refine aW (w2 _) (by simp[hget,bF]) ?_)|(refine aW (w3 _) (by simp[hget]) ?_)|(refine aW (w4 _) (by simp[hget,bF]) ?_)|refine cP hp ?_|refine oE ?_|apply xX<;>intro hc
 refine aj ?_;have hd2: ∀ _:True,decide ((32:Int)<(b.length:Int)+8)=false:=fun _=>by simp;omega
 have ht8: ∀ _:True,((b.length:Int)+8).toNat=b.length+8:=fun _=>oO
 rw[hcl]at w5;repeat' first|simp only[go_sem,seval,hcl,hd2 oT,ht8 oT]|(refine aW (w5 _) (by simp[hget]) ?_)|(refine aW (w6 _) (by simp[hget]) ?_)|refine oE ?_|apply xX<;>intro hc
 have hll:(code.take (b.length+8)).length<=32:=by rw[da];omega
 generalize code.take (b.length+8)=l at hll⊢;have hm:=cU lb;have hm0:0<num b:=by
  rcases kQ (num b)with h|h
  ·exact aJ (by have:=eT vb;rw[h]at this;injection this with h1;exact h1.symm) b0
  ·exact h
 have hN:(.s b:PV)=N (num b):=(eT vb).symm;rw[hN];generalize num b=m at*;have h256:aF 85 [.i .u64 256] (N 256):=pK 256 oC;clear w1 w2 w3 w4 w5 w6 hp hd1 hd2 ht8 hv;refine aq (α:=Nat) (fun i=>l.length-i) (fun i=>⟨[(1, .v (N m)),(9, .v (N (num (l.take i)%m))),(37, .v (.sl (l.map u8))),(38,E' l.length),(39,E' i)],[],_⟩) (fun i=>i<=l.length) 0 (fun _=>aB _) (aT _) ?_ ?_
 ·(refine AS.Le.of (by first|decide|omega) ?_ ?_<;>simp[dG,dF,aO,hget,AV.bd,AV.bd.bdL,u8,ar,au,az])
  all_goals (rw[show num []=0 from rfl,Nat.zero_mod];rfl)
 ·intro i hi R hR
  by_cases hit:i<l.length
  ·have e2:=getD_map u8 l 0 hit;have hgo:=hR (i+1) oO oO;rw[kH hit]at hgo;have hc:(l.getD i 0).toNat<256:=(l.getD i 0).toNat_lt;have hou:aF 85 [.i .u64 ((l.getD i 0).toNat:Nat)] (N (l.getD i 0).toNat):=pK _ oO;have w1: ∀ _:True,IntKind.u64.wrap (((l.getD i 0).toNat:Nat):Int)=(((l.getD i 0).toNat:Nat):Int):=fun _=>by rw[FO];omega
   generalize (l.getD i 0)=y at*;generalize num (l.take i)=x at*;have hx:x%m<m:=aL _ hm0;have hx2:x%m*256%m<m:=aL _ hm0;have h1:=Nx (a:=x%m) (b:=256) (m:=m) oO oC hm hm0;have h2:=XD (a:=x%m*256%m) (b:=y.toNat) (m:=m) oO oO hm hm0;have e:(x%m*256%m+y.toNat)%m=(x*256+y.toNat)%m:=by
    rw[lg,dN,<-lg,lg (x%m*256),lj,<-lg]
   rw[e]at h2;clear hR hi e;repeat' first|simp only[go_sem,seval,e2,w1 oT]|refine cP h256 ?_|refine cP h1 ?_|refine cP h2 ?_|refine cP hou ?_|refine oE ?_|apply xX<;>intro hc
   all_goals (refine hgo _ ?_)
   (refine AS.Le.of (by first|decide|omega) ?_ ?_<;>simp[dG,dF,aO,hget,AV.bd,AV.bd.bdL,u8,ar,au,az])
   all_goals first|omega|skip
  ·have h:i=l.length:=oO;rw[h,cq];exact z0
theorem w0:IntKind.u32.wrap 0=0:=rfl
def m8 (x c:Nat):Nat:=(x*256+c)%4294967296



abbrev uV:Bytes:=[118,97,114,105,97,98,108,101]
abbrev sV:Bytes:=[98,97,115,101]
abbrev Fo:Bytes:=[99,111,101,102,102,105,99,105,101,110,116]
abbrev p9:Bytes:=[101,113,117,97,116,105,111,110]
abbrev uU:Bytes:=[116,97,114,103,101,116]
abbrev zC:Bytes:=[103,114,111,117,112,115]
abbrev Bw:Bytes:=[98,111,117,110,100,115]
def jY (st:Bytes) (t:fS):Bytes:=Hl (eF (e9 st uV (gM t.var.toNat)) sV [t.base]) Fo [(t.neg,t.abs)]
def jW (st:Bytes) (q:dS):Bytes:=q.terms.foldl jY (eF (e9 st p9 (gM q.jA.toNat)) uU [q.tgt])
def jX (st:Bytes) (s:cY):Bytes:=s.eqs.foldl jW (eF (eF st zC (s.groups.flatMap fun g=>[g.1,g.2])) Bw s.vars)
structure BdS (s:cY):Prop where
 g: ∃m o,s.groups=[(m,o)]/\m.length<=1000/\o.length<=1000
 v0:s.vars≠[]
 nv:s.vars.length<=64
 v: ∀b∈s.vars,b.length<=1000
 ne:s.eqs.length<=64
 q: ∀q∈s.eqs,0<=q.jA/\q.jA<100/\q.tgt.length<=1000/\ ∃t,q.terms=[t]/\0<=t.var/\t.var<100/\t.base.length<=1000/\t.abs.length<=1000
theorem fZ {α β:Type} (f:β->α->β) (b:β) {l:List α} {i:Nat} (d:α) (h:i<l.length):(l.take (i+1)).foldl f b=f ((l.take i).foldl f b) (l.getD i d):=by
 rw[aY d h,List.foldl_append];rfl
theorem pJ {P:Program} [ct P] {Q:AX->AS->Prop} {nx:Nat} {bf:Option (List Nat)} {nn:Nat} {d:Option Nat} {ops:List jV} {k:Nat} {s:AS} {tr:List (Nat×List Nat×List Nat)} {K:List Fr} {nm:Nat} {f:FuncId} {α:Type} {g:α->PV} {z n ver m:Nat} {l:List α} {gr:Bool} {el:Option TypeId} {x y r:PV}
  (he:qO P f [x,y, .sl (l.map g)] r) (hrow:dq g z) (hr:r.flat=true) (hg:hget s.h n=some ⟨ver,bI g l,gr,el⟩) (hm:m=l.length) (hK:RW P Q nx bf nn ops (k+1) (s.s9 d (.v r) []) (zV bf k [n] [] tr) K):
  CR P Q nx bf nn nm (.v (.fn (.func f))) [.v x, .v y, .rs n ver 0 m z] d ops k s tr K:=by
 refine gp he ?_ hr ?_
 ·simp[aU,u4 hrow hm hg];rfl
 ·have:[AV.v x,AV.v y,AV.rs n ver 0 m z].flatMap (aX (hget s.h) 9)=[n]:=by simp[Hs hrow hm hg];rfl
  rw[this];exact hK

abbrev F0:PV:= .agg [.sl []]
abbrev C0:PV:= .agg [.sl [], .sl []]
theorem Io:aF 272 [F0] (.tup [E 0, .b true]):=by
 refine eW call272 func272 ?_;exact z0
theorem H4:aF 248 [F0,E 0] (E 0):=by
 refine eW call248 func248 ?_;exact z1 @Io
theorem UD:aF 188 [F0] (.tup [.s [],E 0]):=by
 refine eW call188 func188 ?_;exact z1 @Io
theorem HJ:aF 167 [C0] (E 0):=by
 refine eW call167 func167 ?_;exact Y2 @H4
end Go.Proofs.Tryz
namespace Go.Proofs.Tryz
open Go Go.Dom Go.Num
variable {c:Bytes}
theorem Bz (x:Bool×Bytes):aF 374 [fw x] (.b (!dh x)):=by
 obtain⟨n,a⟩:=x;have hv:=ib n a;have e:dh (n,a)=(aa a&& !(n&&a==[])):=rfl;rw[e];generalize (aa a&& !(n&&a==[]))=b at*;simp only[fw];refine eW call374 func374 ?_;exact z1 @hv
theorem OH (l:List (Bool×Bytes)) (hl:l.length<1000000):aF 342 [.sl (l.map fw)] (.b (l.all dh)):=by
 have h1:=gD l _ _ oO Bz;have e:(l.all dh)= !(l.any fun x=> !dh x):=by
  induction l with
  |nil=>rfl
  |cons x l ih=>
   have:=ih (by simp at hl;omega)
   rw[List.all_cons,List.any_cons,this]
   ·cases dh x<;>simp
   ·exact gD l _ _ (by simp at hl;omega) Bz
 rw[e];generalize (l.any fun x=> !dh x)=b at*
 refine eW call342 func342 ?_;exact z1 @h1
noncomputable def uH (M:Nat) (l:List (Bool×Bytes)) (x:Nat) (t:fS):Nat:=
 x*dU M (dU M (num t.base) t.neg (num t.abs)) (l.getD t.var.toNat lU).1 (num (l.getD t.var.toNat lU).2)%M
noncomputable def mz (gs:List (Bytes×Bytes)) (c:Bytes) (l:List (Bool×Bytes)) (q:dS):Nat:=
 q.terms.foldl (uH (num (gs.getD q.jA.toNat iC).1) l) (dU (num (gs.getD q.jA.toNat iC).1) (num q.tgt) (!(c==[])) (num c))
theorem ou (vc:aa c=true):aF 66 [.agg [.b false, .s c]] (.agg [.b (!(c==[])), .s c]):=by
 have hv:=ib false c;rw[vc]at hv;have hm:=wF true c;rw[cB]at hm;refine eW call66 func66 ?_;exact z2 @hv @hm
theorem CN {s:cY} (hs:Y5 s) (h0:s.eqs≠[]) (vc:aa c=true) {l:List (Bool×Bytes)} (hlen:l.length=s.vars.length) (hl: ∀x∈l,dh x=true):aF 344 [s.pv, .s c, .sl (l.map fw)] (.sl (s.eqs.map fun q=>N (mz s.groups c l q))):=by
 obtain⟨gs,vs,es⟩:=s;obtain⟨hg,hq,ng,nv,ne⟩:=hs;simp only at hg hq ng nv ne h0 hlen;have hpos:0<es.length:=qy.2 h0;have l1:(gs.map gV).length=gs.length:=aR ..;have l3:(es.map dS.pv).length=es.length:=aR ..;have l5:(l.map fw).length=l.length:=aR ..;have fr:=mJ vc;have ng':=ou vc;have hM:dq (fun q=>N (mz gs c l q)) 1:=⟨fun _=>rfl,fun _ y hy=>by cases ik.1 hy;rfl,fun _ _=>rfl,fun h=>aJ rfl h⟩
 have row1: ∀{i:Nat},i<es.length->bI (fun q=>N (mz gs c l q)) (es.take (i+1))=bI (fun q=>N (mz gs c l q)) (es.take i)++[.v (N (mz gs c l (es.getD i jz)))]:=fun h=>by
  rw[aY jz h,dQ];rfl
 have rn1:bI (fun q=>N (mz gs c l q)) []=[]:=rfl
 unfold cY.pv;simp only;refine eW call344 func344 ?_;refine fq @l3 ?_;refine aj ?_;have e1:=getD_map dS.pv es jz hpos;obtain⟨q1,q2,q3,q4,q5⟩:=hq _ (aG jz hpos);have r1:=row1 hpos;obtain⟨x,hx⟩: ∃x,x=es.getD 0 jz:=⟨_,rfl⟩;rw[<-hx]at e1 q1 q2 q3 q4 q5 r1;clear hx;obtain⟨gr,tg,ts⟩:=x;simp only at q1 q2 q3 q4 q5;have hgl:gr.toNat<gs.length:=oO;have kg:=hg _ (aG iC hgl);have e3:=getD_map gV gs iC hgl;have hmQ:mz gs c l ⟨gr,tg,ts⟩=ts.foldl (uH (num (gs.getD gr.toNat iC).1) l) (dU (num (gs.getD gr.toNat iC).1) (num tg) (!(c==[])) (num c)):=rfl;obtain⟨z,hz⟩: ∃z,z=gs.getD gr.toNat iC:=⟨_,rfl⟩;rw[<-hz]at q3 q5 kg e3 hmQ;clear hz;obtain⟨m,o⟩:=z;simp only at q3 q5 kg hmQ;obtain⟨vt,gt⟩:=(eY kg.1).1 q3;have m1:=(qJ kg.1).2.2.1;have hzc:(!(c==[])&&c==[])=false:=by cases(c==([]:Bytes))<;>rfl
 have xe:=qk kg.2.1 kg.2.2 kg.1 gt vc hzc;rw[eT vt]at xe;have gx0:=gt.dU m1 (!(c==[])) (num c);obtain⟨x0,hx0⟩: ∃x0,x0=dU (num m) (num tg) (!(c==[])) (num c):=⟨_,rfl⟩;rw[<-hx0]at xe gx0 hmQ;rw[hmQ]at r1;clear hx0 hmQ gt vt;have l4:(ts.map fS.pv).length=ts.length:=aR ..;simp only[gV]at e3;simp only[dS.pv]at e1;refine rT (aN @l1 (aN @l3 (aN @e1 (aN @e3 @l4)))) @fr @ng' @xe oT ?_;refine aq (α:=Nat×Nat) (fun s=>ts.length-s.1) (fun s=>⟨[(1, .v (.s c)),(2, .v (.sl (l.map fw))),(3, .p 1000 0 0),(7, .sn),(18, .v (.sl (es.map dS.pv))),(19,E' es.length),(20,E' 0),(10, .p 1018 0 0),(11, .v (N s.2)),(41, .v (.sl (ts.map fS.pv))),(42,E' ts.length),(43,E' s.1)],[(1000,⟨0,[.v (.sl (gs.map gV)), .v (.sl (vs.map dE)), .v (.sl (es.map dS.pv))],false,none⟩),(1018,⟨0,[.v (.s m), .v (.s o)],false,some 26⟩)],1036⟩) (fun s=>s.1<=ts.length/\GP m o s.2/\(ts.drop s.1).foldl (uH (num m) l) s.2=ts.foldl (uH (num m) l) x0) (0,x0) (fun _=>fk rfl) ⟨aT _,gx0,rfl⟩ ?_ ?_
 ·(refine AS.Le.of (by first|decide|omega) ?_ ?_<;>simp[dG,dF,aO,hget,AV.bd,AV.bd.bdL,u8,ar,au,az])
  skip
 ·rintro⟨j,x⟩ ⟨hj,gx,hf⟩ R' hR';simp only at hj gx hf
  by_cases hjt:j<ts.length
  ·have e2:=getD_map fS.pv ts jl hjt;obtain⟨t1,t2,t3,t4⟩:=q5 _ (aG jl hjt);rw[bL jl hjt]at hf;obtain⟨y,hy⟩: ∃y,y=ts.getD j jl:=⟨_,rfl⟩;rw[<-hy]at e2 t1 t2 t3 t4 hf;obtain⟨b,v,n,a⟩:=y;simp only at t1 t2 t3 t4;rw[List.foldl_cons]at hf;obtain⟨kb1,kb2⟩:=(eY kg.1).1 t3;have hvl:v.toNat<l.length:=oO;have e4:=getD_map fw l lU hvl;have kr:=hl _ (aG lU hvl);have hmT:uH (num m) l x ⟨b,v,n,a⟩=x*dU (num m) (dU (num m) (num b) n (num a)) (l.getD v.toNat lU).1 (num (l.getD v.toNat lU).2)%num m:=rfl;obtain⟨w,hw⟩: ∃w,w=l.getD v.toNat lU:=⟨_,rfl⟩;rw[<-hw]at e4 kr hmT;obtain⟨rn,ra⟩:=w;simp only[dh,aV,dC]at t4 kr;have m1:=(qJ kg.1).2.2.1;have x1:=qk kg.2.1 kg.2.2 kg.1 kb2 t4.1 t4.2;rw[eT kb1]at x1;have gy:=kb2.dU m1 n (num a);have x2:=qk kg.2.1 kg.2.2 kg.1 gy kr.1 kr.2;have gz:=gy.dU m1 rn (num ra);have x3:=H7 kg.2.1 kg.2.2 kg.1 gx gz;have hgo':=hR' (j+1,uH (num m) l x ⟨b,v,n,a⟩) ⟨by show j+1<= _;omega,by rw[hmT];exact gx.mul gz,hf⟩ (by show ts.length-(j+1)<ts.length-j;omega)
   rw[hmT]at hgo';clear hR' hy t3 t4 q5 hf hw kb1 kb2 gx gy gz hmT kr;simp only[fS.pv]at e2;simp only[fw]at e4;have hd3: ∀ _:True,v<(l.length:Int):=fun _=>oO
   generalize dU (num m) (dU (num m) (num b) n (num a)) rn (num ra)=z at*;generalize dU (num m) (num b) n (num a)=y at*;refine zT (aN @l3 (aN @l4 (aN @l5 (aN @e2 @e4)))) @x1 @x2 @x3 oT ?_;refine hgo' _ ?_
   (refine AS.Le.of (by first|decide|omega) ?_ ?_<;>simp[dG,dF,aO,hget,AV.bd,AV.bd.bdL,u8,ar,au,az])
   skip
  ·obtain rfl:j=ts.length:=oO;rw[dO]at hf;simp only[List.foldl_nil]at hf;subst hf;refine fq (aN @l3 @l4) ?_;refine aq (α:=Nat) (fun j=>es.length-(j+1)) (fun j=>⟨[(1, .v (.s c)),(2, .v (.sl (l.map fw))),(3, .p 1000 0 0),(7, .rs 1040 j 0 (j+1) 1),(18, .v (.sl (es.map dS.pv))),(19,E' es.length),(20,E' (j+1))],[(1000,⟨0,[.v (.sl (gs.map gV)), .v (.sl (vs.map dE)), .v (.sl (es.map dS.pv))],false,none⟩),(1040,⟨j,bI (fun q=>N (mz gs c l q)) (es.take (j+1)),true,some 22⟩)],1044⟩) (fun j=>j+1<=es.length) 0 (fun _=>fk rfl) hpos ?_ ?_
   ·rw[fG,r1,List.take_zero,rn1];exact lE
   ·clear e1 e3 q1 q2 q3 q4 q5 kg gx0 xe r1 l4;intro i hi R hR;have hj1:(es.take (i+1)).length=i+1:=by rw[da];omega
    have p1:=dw hM (es.take (i+1));have p2:=eD hM (es.take (i+1));rw[hj1,eH]at p1 p2;have hw1: ∀ _:True,((i:Int)+1)=((i+1:Nat):Int):=fun _=>oO
    by_cases hlt:i+1<es.length
    ·have hgo:=hR (i+1) oO oO;clear hR;have e1:=getD_map dS.pv es jz hlt;obtain⟨q1,q2,q3,q4,q5⟩:=hq _ (aG jz hlt);have r1:=row1 hlt;obtain⟨x,hx⟩: ∃x,x=es.getD (i+1) jz:=⟨_,rfl⟩;rw[<-hx]at e1 q1 q2 q3 q4 q5 r1;clear hx;obtain⟨gr,tg,ts⟩:=x;simp only at q1 q2 q3 q4 q5;have hgl:gr.toNat<gs.length:=oO;have kg:=hg _ (aG iC hgl);have e3:=getD_map gV gs iC hgl;have hmQ:mz gs c l ⟨gr,tg,ts⟩=ts.foldl (uH (num (gs.getD gr.toNat iC).1) l) (dU (num (gs.getD gr.toNat iC).1) (num tg) (!(c==[])) (num c)):=rfl;obtain⟨z,hz⟩: ∃z,z=gs.getD gr.toNat iC:=⟨_,rfl⟩;rw[<-hz]at q3 q5 kg e3 hmQ;clear hz;obtain⟨m,o⟩:=z;simp only at q3 q5 kg hmQ;obtain⟨vt,gt⟩:=(eY kg.1).1 q3;have m1:=(qJ kg.1).2.2.1;have hzc:(!(c==[])&&c==[])=false:=by cases(c==([]:Bytes))<;>rfl
     have xe:=qk kg.2.1 kg.2.2 kg.1 gt vc hzc;rw[eT vt]at xe;have gx0:=gt.dU m1 (!(c==[])) (num c);obtain⟨x0,hx0⟩: ∃x0,x0=dU (num m) (num tg) (!(c==[])) (num c):=⟨_,rfl⟩;rw[<-hx0]at xe gx0 hmQ;rw[hmQ]at r1;clear hx0 hmQ gt vt;have l4:(ts.map fS.pv).length=ts.length:=aR ..;simp only[gV]at e3;simp only[dS.pv]at e1;rw[r1]at hgo;refine rT (aN @l1 (aN @l3 (aN @e1 (aN @e3 @l4)))) @fr @ng' @xe oT ?_;refine aq (α:=Nat×Nat) (fun s=>ts.length-s.1) (fun s=>⟨[(1, .v (.s c)),(2, .v (.sl (l.map fw))),(3, .p 1000 0 0),(7, .rs 1040 i 0 (i+1) 1),(18, .v (.sl (es.map dS.pv))),(19,E' es.length),(20,E' (i+1)),(10, .p 1055 0 0),(11, .v (N s.2)),(41, .v (.sl (ts.map fS.pv))),(42,E' ts.length),(43,E' s.1)],[(1000,⟨0,[.v (.sl (gs.map gV)), .v (.sl (vs.map dE)), .v (.sl (es.map dS.pv))],false,none⟩),(1055,⟨0,[.v (.s m), .v (.s o)],false,some 26⟩),(1040,⟨i,bI (fun q=>N (mz gs c l q)) (es.take (i+1)),true,some 22⟩)],1073⟩) (fun s=>s.1<=ts.length/\GP m o s.2/\(ts.drop s.1).foldl (uH (num m) l) s.2=ts.foldl (uH (num m) l) x0) (0,x0) (fun _=>fk rfl) ⟨aT _,gx0,rfl⟩ ?_ ?_
     ·(refine AS.Le.of (by first|decide|omega) ?_ ?_<;>simp[dG,dF,aO,hget,AV.bd,AV.bd.bdL,u8,ar,au,az])
      all_goals (intro c hc;exact cf hc)
     ·rintro⟨j,x⟩ ⟨hj,gx,hf⟩ R' hR';simp only at hj gx hf
      by_cases hjt:j<ts.length
      ·have e2:=getD_map fS.pv ts jl hjt;obtain⟨t1,t2,t3,t4⟩:=q5 _ (aG jl hjt);rw[bL jl hjt]at hf;obtain⟨y,hy⟩: ∃y,y=ts.getD j jl:=⟨_,rfl⟩;rw[<-hy]at e2 t1 t2 t3 t4 hf;obtain⟨b,v,n,a⟩:=y;simp only at t1 t2 t3 t4;rw[List.foldl_cons]at hf;obtain⟨kb1,kb2⟩:=(eY kg.1).1 t3;have hvl:v.toNat<l.length:=oO;have e4:=getD_map fw l lU hvl;have kr:=hl _ (aG lU hvl);have hmT:uH (num m) l x ⟨b,v,n,a⟩=x*dU (num m) (dU (num m) (num b) n (num a)) (l.getD v.toNat lU).1 (num (l.getD v.toNat lU).2)%num m:=rfl;obtain⟨w,hw⟩: ∃w,w=l.getD v.toNat lU:=⟨_,rfl⟩;rw[<-hw]at e4 kr hmT;obtain⟨rn,ra⟩:=w;simp only[dh,aV,dC]at t4 kr;have m1:=(qJ kg.1).2.2.1;have x1:=qk kg.2.1 kg.2.2 kg.1 kb2 t4.1 t4.2;rw[eT kb1]at x1;have gy:=kb2.dU m1 n (num a);have x2:=qk kg.2.1 kg.2.2 kg.1 gy kr.1 kr.2;have gz:=gy.dU m1 rn (num ra);have x3:=H7 kg.2.1 kg.2.2 kg.1 gx gz;have hgo':=hR' (j+1,uH (num m) l x ⟨b,v,n,a⟩) ⟨by show j+1<= _;omega,by rw[hmT];exact gx.mul gz,hf⟩ (by show ts.length-(j+1)<ts.length-j;omega)
       rw[hmT]at hgo';clear hR' hy t3 t4 q5 hf hw kb1 kb2 gx gy gz hmT kr;simp only[fS.pv]at e2;simp only[fw]at e4;have hd3: ∀ _:True,v<(l.length:Int):=fun _=>oO
       generalize dU (num m) (dU (num m) (num b) n (num a)) rn (num ra)=z at*;generalize dU (num m) (num b) n (num a)=y at*;refine zT (aN @l3 (aN @l4 (aN @l5 (aN @e2 @e4)))) @x1 @x2 @x3 oT ?_;refine hgo' _ ?_
       (refine AS.Le.of (by first|decide|omega) ?_ ?_<;>simp[dG,dF,aO,hget,AV.bd,AV.bd.bdL,u8,ar,au,az])
       all_goals (intro c hc;exact cf hc)
      ·obtain rfl:j=ts.length:=oO;rw[dO]at hf;simp only[List.foldl_nil]at hf;subst hf;refine eJ (aN @l3 (aN @l4 (aN @p1 @p2))) ?_;refine hgo _ ?_
       (refine AS.Le.of (by first|decide|omega) ?_ ?_<;>simp[dG,dF,aO,hget,AV.bd,AV.bd.bdL,u8,ar,au,az])
       all_goals (intro c hc;rcases hc with h|h<;>first|exact cf h|(subst h;rfl))
    ·obtain hjv:i+1=es.length:=oO;rw[hjv,cq]at p1 p2;rw[hjv,cq];have p3:=gH hM es;have p4:chunk 1 es.length (List.flatMap (fun x=>[PV.s (aZ (mz gs c l x))]) es)=es.map fun q=>N (mz gs c l q):=eC hM es
     exact oo (aN @l3 (aN @p1 (aN @p2 (aN @p3 (aN @p4 @gI)))))
theorem Hg {s:cY} (hs:Y5 s) (vc:aa c=true) {l:List (Bool×Bytes)} (hlen:l.length=s.vars.length) (hl: ∀x∈l,dh x=true):aF 344 [s.pv, .s c, .sl (l.map fw)] (.sl (s.eqs.map fun q=>N (mz s.groups c l q))):=by
 by_cases h:s.eqs=[]
 ·obtain⟨gs,vs,es⟩:=s;simp only at h;subst h;unfold cY.pv;simp only[bH];refine eW call344 func344 ?_;exact Tg
 ·exact CN hs h vc hlen hl
theorem QW {sl b:Bytes} (hr:r9 c sl) (hb:b.length<=16):UU c sl b<dP:=dD (Nat.sub_le _ _) (Cp hr hb)
end Go.Proofs.Tryz
namespace Go.Proofs.Tryz
open Go Go.Dom
def Ip (l:List (Bool×Bytes)):PV:= .sl (l.map fw)
theorem xE (l:List (Bytes)) (f:FuncId) (p:Bytes->Bool) (hl:l.length<4611686018427387904) (h: ∀x,aF f [PV.s x] (.b (p x))):aF 216 [.sl (l.map PV.s), .fn (.func f)] (E (dR p 0 l)):=by
 have hlm:(l.map PV.s).length=l.length:=aR ..;refine eW call216 func216 ?_;refine fq @hlm ?_;refine aq (α:=Nat) (fun i=>l.length-i) (fun i=>⟨[(0, .v (.sl (l.map PV.s))),(1, .v (.fn (.func f))),(7, .v (.i .i64 l.length)),(8, .v (.i .i64 (i:Nat)))],[],_⟩) (fun i=>i<=l.length/\dR p i (l.drop i)=dR p 0 l) 0 (fun _=>aB _) ⟨aT _,rfl⟩ ?_ ?_
 ·exact lE
 ·rintro i ⟨hi,hx⟩ R hR;rw[<-hx]
  by_cases hlt:i<l.length
  ·have e1:=getD_map PV.s l [] hlt;have hf:=h (l.getD i []);have hgo:=hR (i+1);rw[<-hx,bL [] hlt]at hgo;rw[bL [] hlt];simp only[dR]at hgo⊢;clear hx hR h;generalize p (l.getD i [])=b at*;generalize l.getD i []=x at*;cases b
   ·have hgo:=hgo ⟨oO,rfl⟩ oO;exact qe (aN @hlm @e1) @hgo @hf
   ·exact ot (aN @hlm @e1) @hf
  ·obtain rfl:i=l.length:=oO;rw[dO];repeat' first|simp only[go_sem,seval,hlm]|refine oE ?_|apply xX<;>intro hc
   all_goals simp[dR]
theorem iy (l:List (Bytes)) (f:FuncId) (p:Bytes->Bool) (hl:l.length<4611686018427387904) (h: ∀x,aF f [PV.s x] (.b (p x))):aF 121 [.sl (l.map PV.s), .fn (.func f)] (.b (l.any p)):=by
 have hi:=xE l f p hl h;have e:decide (dR p 0 l>=0)=l.any p:=by
  rw[cI,decide_eq_true_iff];exact jd
 refine eW call121 func121 ?_;exact ot @e @hi
theorem zY (l:List (List (Bool×Bytes))) (f:FuncId) (c:List PV) (p:List (Bool×Bytes)->Bool) (hl:l.length<4611686018427387904) (h: ∀x∈l,aF f (Ip x::c) (.b (p x))):aF 252 [.sl (l.map Ip), .fc f [] c] (E (dR p 0 l)):=by
 have hlm:(l.map Ip).length=l.length:=aR ..;refine eW call252 func252 ?_;refine fq @hlm ?_;refine aq (α:=Nat) (fun i=>l.length-i) (fun i=>⟨[(0, .v (.sl (l.map Ip))),(1, .v (.fc f [] c)),(7, .v (.i .i64 l.length)),(8, .v (.i .i64 (i:Nat)))],[],_⟩) (fun i=>i<=l.length/\dR p i (l.drop i)=dR p 0 l) 0 (fun _=>aB _) ⟨aT _,rfl⟩ ?_ ?_
 ·exact lE
 ·rintro i ⟨hi,hx⟩ R hR;rw[<-hx]
  by_cases hlt:i<l.length
  ·have e1:=getD_map Ip l [] hlt;have hf:=h (l.getD i []) (aG [] hlt);have hgo:=hR (i+1);rw[<-hx,bL [] hlt]at hgo;rw[bL [] hlt];simp only[dR]at hgo⊢;clear hx hR h;generalize p (l.getD i [])=b at*;generalize l.getD i []=x at*;simp only[Ip]at e1 hf;cases b
   ·have hgo:=hgo ⟨oO,rfl⟩ oO;repeat' first|simp only[go_sem,seval,hlm,e1]|(refine iw hf (lH _ _) ?_)|refine oE ?_|apply xX<;>intro hc
    refine hgo _ ?_;exact lE
   ·repeat' first|simp only[go_sem,seval,hlm,e1]|(refine iw hf (lH _ _) ?_)|refine oE ?_|apply xX<;>intro hc
    all_goals rfl
  ·obtain rfl:i=l.length:=oO;rw[dO];repeat' first|simp only[go_sem,seval,hlm]|refine oE ?_|apply xX<;>intro hc
   all_goals simp[dR]
theorem nJ (l:List (List (Bool×Bytes))) (f:FuncId) (c:List PV) (p:List (Bool×Bytes)->Bool) (hl:l.length<4611686018427387904) (h: ∀x∈l,aF f (Ip x::c) (.b (p x))):aF 170 [.sl (l.map Ip), .fc f [] c] (.b (l.any p)):=by
 have hi:=zY l f c p hl h;have e:decide (dR p 0 l>=0)=l.any p:=by
  rw[cI,decide_eq_true_iff];exact jd
 refine eW call170 func170 ?_;exact ot @e @hi
theorem MU (x:Bool×Bytes):aF 345 [fw x] (.b (!dh x)):=by
 obtain⟨n,a⟩:=x;have hv:=ib n a;have e:dh (n,a)=(aa a&& !(n&&a==[])):=rfl;rw[e];generalize (aa a&& !(n&&a==[]))=b at*;simp only[fw];refine eW call345 func345 ?_;exact z1 @hv
abbrev Xg:PV:= .pt (.agg [.fn (.func 345)]) 0
theorem Ey (l:List (Bool×Bytes)) (hl:l.length<4611686018427387904):aF 346 [Ip l,Xg] (.b (!l.all dh)):=by
 have h1:=gD l _ _ hl MU;rw[jD]at h1;unfold Ip;refine eW call346 func346 ?_;exact z1 @h1
theorem MV (a:Bytes):aF 347 [.s a] (.b (!aa a)):=by
 have hv:=aD a;generalize aa a=b at*;refine eW call347 func347 ?_;exact z1 @hv
theorem Zd (f:FuncId) (c:List PV):aF 121 [.sl [], .fc f [] c] (.b false):=by
 have hi:aF 216 [.sl [], .fc f [] c] (E (-1)):=by
  refine eW call216 func216 ?_;exact Tg
 refine eW call121 func121 ?_;exact z1 @hi
def wj (b:Bytes) (i:Nat):fS:=⟨b,i,false,[1]⟩
structure aaU (s:cY):Prop where
 l:s.eqs.length=s.vars.length
 t: ∀i,i<s.eqs.length-> ∃b,(s.eqs.getD i jz).terms=[wj b i]
end Go.Proofs.Tryz
namespace Go.Proofs.Tryz
open Go Go.Dom Go.Num
theorem ow {n i:Nat} {p:Nat->Bool} (hi:i<n) (h:p i=false):(List.range n).all p=false:=by
 rw[dA];intro g;have:=bJ.1 g i (fE.2 hi);rw[h]at this;cases this
theorem nM {n:Nat} {p:Nat->Bool} (h: ∀i,i<n->p i=true):(List.range n).all p=true:=by
 rw[bJ];intro i hi;exact h i (fE.1 hi)
theorem Qy {L:List Bytes} {es:List dS} (hl:L.length=es.length) (h: ∀j,j<es.length->L.getD j []=(es.getD j jz).tgt):L=es.map (·.tgt):=by
 refine tL (by simpa using hl) fun j h1 h2=> ?_
 have h2:j<es.length:=by simpa using h2
 have:=h j h2;rw[bR,bR,bG h1,bG h2]at this;simpa using this
end Go.Proofs.Tryz
namespace Go.Proofs.Tryz
open Go Go.Dom
end Go.Proofs.Tryz
namespace Go.Proofs.Tryz
open Go Go.Dom Go.Num
end Go.Proofs.Tryz
namespace Go.Dom
structure Gt where
 need:Int
 kids:List Int
 leaf:Int
end Go.Dom
namespace Go.Proofs.Tryz
open Go Go.Dom Go.Num
def Ekv (k:Int):PV:=E k
def Gt.pv (g:Gt):PV:= .agg [E g.need, .sl (g.kids.map Ekv),E g.leaf]
abbrev Fpv (G:List Gt):PV:= .agg [.sl (G.map Gt.pv)]
end Go.Proofs.Tryz
namespace Go.Proofs.Tryz
open Go Go.Dom
theorem BB (l:List (Bool×Bytes)) (hl:l.length<1000000):aF 191 [.sl (l.map fw)] (.b (l.all dh)):=by
 have l5:(l.map fw).length=l.length:=aR ..;refine eW call191 func191 ?_;repeat' first|simp only[go_sem,seval,l5]|refine oE ?_|apply xX<;>intro hc
 refine aq (α:=Nat) (fun i=>l.length-i) (fun i=>⟨[(5, .v (.sl (l.map fw))),(6,E' l.length),(7,E' i)],[],_⟩) (fun i=>i<=l.length/\(l.drop i).all dh=l.all dh) 0 (fun _=>aB _) ⟨aT _,rfl⟩ ?_ ?_
 ·exact lE
 ·rintro i ⟨hi,hf⟩ R hR;rw[<-hf]
  by_cases hlt:i<l.length
  ·have e1:=getD_map fw l lU hlt;have hgo:=hR (i+1);rw[<-hf]at hgo;rw[bL lU hlt,List.all_cons]at hgo⊢;obtain⟨x,hx⟩: ∃x,x=l.getD i lU:=⟨_,rfl⟩;rw[<-hx]at e1 hgo⊢;clear hx hf hR;obtain⟨n,a⟩:=x;have hv:=ib n a;have e:dh (n,a)=(aa a&& !(n&&a==[])):=rfl;rw[e]at hgo⊢;clear e;simp only[fw]at e1;generalize (aa a&& !(n&&a==[]))=b at*;cases b
   ·repeat' first|simp only[go_sem,seval,l5,e1]|refine cP hv ?_|refine oE ?_|apply xX<;>intro hc
    all_goals simp
   ·have hgo:=hgo ⟨oO,by simp⟩ oO
    repeat' first|simp only[go_sem,seval,l5,e1]|refine cP hv ?_|refine oE ?_|apply xX<;>intro hc
    refine hgo _ ?_;exact lE
  ·obtain rfl:i=l.length:=oO;rw[dO];repeat' first|simp only[go_sem,seval,l5]|refine oE ?_|apply xX<;>intro hc
   all_goals rfl
end Go.Proofs.Tryz
namespace Go.Proofs.Tryz
open Go Go.Dom Go.Num
