/- Part of the proof. -/
import Derived.Test.YtnhhajlcpjgkjaaGreatDoorUC39
set_option linter.all false
set_option maxHeartbeats 16000000
set_option maxRecDepth 100000
namespace Go.Proofs.Tryz
open Go Go.Dom Go.Num
variable {c ch ctx o sd sl x:Bytes} {k:Key} {rs:List (Bool×Bytes)} {vs:List Bytes}
noncomputable def sZ (c sl ctx:Bytes) (s:cK) (w:List Int) (vs:List Bytes) (sd:Bytes):Nat->Nat->Except Int (Bytes×List Int×Nat)
 |0,_=> .error 15
 |k+1,i=>match nu (bK s.groups) c sl vs sd s.vars i []with
  | .error e=> .error e
  | .ok ms=>
   if BP (bK s.groups) c sl s.vars (fA (bK s.groups) s.vars ms w (gK (xQ ctx s (uj s ms)) c))then .ok (bR (gK (xQ ctx s (uj s ms)) c),fA (bK s.groups) s.vars ms w (gK (xQ ctx s (uj s ms)) c),i+s.vars.length)else sZ c sl ctx s w vs sd k (i+s.vars.length)
noncomputable def sN (c sl ctx:Bytes) (s:cK) (w:List Int) (vs:List Bytes) (sd:Bytes) (a:Int):Except Int (Bytes×List Int×Nat):=
 if vO s w vs a≠0 then .error (vO s w vs a)else sZ c sl ctx s w vs sd 64 a.toNat
theorem Rj {s:cK} {w:List Int} {a:Int} (h:vO s w vs a=0):fK vs a=true/\w.length=s.vars.length/\BQ (bK s.groups) s.vars w=true/\BL s w=true:=by
 unfold vO at h
 split at h
 ·cases h
 ·rename_i h1
  split at h
  ·cases h
  ·rename_i h2
   split at h
   ·cases h
   ·rename_i h3
    split at h
    ·cases h
    ·rename_i h4;exact⟨by simpa using h1,by simpa using h2,by simpa using h3,by simpa using h4⟩
theorem TS {s:cK} (hs:Bo s) (w:List Int): ∀x∈uj s w,x.length<=8/\aa x=true:=by
 intro x hx;obtain⟨q,hq,rfl⟩:=cv.1 hx;obtain⟨q1,q2,-⟩:=hs.q q hq;have hg:=hs.g _ (aC eU (show q.kR.toNat<s.groups.length by omega))
 have hm:=(mc hg.1).2.2.1;have hlt:Mg s.groups w q<256^8:=by
  unfold Mg yE;exact iM (aP _ oO) (dO hg.2.1)
 exact⟨n8.2 hlt,vN hlt⟩
theorem KF {s:cK} (hp:uV c sl s) (hbd:Rs s) (h00:s.eqs≠[]) {m o:Bytes} (hg1:s.groups=[(m,o)]) (hx:ctx.length<=100000) {w:List Int} (hw6:w.length<1000000) (hw: ∀x∈w,x.natAbs<dC) (hW:BQ (bK s.groups) s.vars w=true->WS s w) {a:Int} (hl:vs.length<1000000) (hsd:sd.length<1000000):
  aE 40 [.agg [.s c, .s sl], .s ctx,s.pv, .sl (w.map Zp),C0, .sl [],T vs sd a] (Xt vs sd (sN c sl ctx s w vs sd a)):=by
 have hr:=hp.r;have hs:=hp.g;have hn:=vj hp;have hwt:=N4 (c:=c) (sl:=sl) hs hg1 hw6 hw hW sd (a:=a) hl;unfold sN
 by_cases he:vO s w vs a=0
 ·rw[af (by simpa using he)]
  rw[he]at hwt;obtain⟨f2,f3,f4,-⟩:=Rj he;obtain⟨g1,g2,g3⟩:=D7 f2;obtain⟨i0,rfl⟩: ∃i:Nat,a=i:=⟨a.toNat,oO⟩;rw[Int.toNat_natCast];have hCo:=fun(i:Nat) (hi:i<=2147483647)=>IM hp (vs:=vs) (sd:=sd) (i:=i) g1 hi hl hsd
  have hRe:=fun(ms:List Int) (ch:Nat) (hml:ms.length=s.vars.length) (hch:ch<num c)=>Fu hp f3 hml hch f4
  have hMf:=fun(i:Nat) (hi:i<=2147483647) (ms:List Int)=>ym hp (sd:=sd) (i:=i) g1 hi hl (ms:=ms)
  have hCh:=fun(fs:List Bytes)=>xG hr hbd hx (fs:=fs)
  have hB:=fun(i:Nat) (hi:i<=2147483647)=>Oz (vs:=vs) (a:=i) sd (Ma g1 hi) hl
  have hmI:=TS hs;have hii: ∀ms:List Int,uj s ms≠[]/\(uj s ms).length<=900:=fun ms=>by
   have:=BN s ms;have ne:=hs.ne;exact⟨fun h=>h00 (fg.1 (by rw[<-this,h];rfl)),oO⟩
  obtain⟨R0,hR0⟩: ∃R0,R0=sZ c sl ctx s w vs sd 64 i0:=⟨_,rfl⟩;rw[<-hR0];obtain⟨gs,us,es⟩:=s;simp only[X0,cK.pv]at hn hwt hCo hRe hCh hMf hg1⊢;subst hg1;obtain⟨oq,hoq⟩: ∃oq,oq=bK [(m,o)]:=⟨_,rfl⟩;simp only[bV,bj,dS,<-hoq]at hn hwt hCo hRe hCh hMf f4⊢;refine eW call40 func40 ?_;refine zl2 @hn @hwt ?_;refine ak (α:=Nat×Nat) (fun p=>64-p.1) (fun p=>⟨[(1, .v (.s ctx)),(3, .v (.sl (w.map Zp))),(5, .v (.sl [])),(7, .p 1000 0 0),(9, .p 1001 0 0),(11, .p 1002 0 0),(13, .p 1003 0 0),(14, .p 1004 0 0),(15, .p 1005 0 0),(17, .p 1014 0 0),(50,E' p.1)],[(1000,⟨0,[.v (.s c), .v (.s sl)],false,none⟩),(1001,⟨0,[.v (.sl [G m o]), .v (.sl (us.map cO)), .v (.sl (es.map dr.pv))],false,none⟩),(1002,⟨0,[.v (.sl []), .v (.sl [])],false,none⟩),(1003,⟨0,[.v (.sl (vs.map .s)), .v (.s sd), .v (.i .i64 ((p.2:Nat):Int))],false,none⟩),(1004,⟨0,[.v (.s []), .sn, .sn, .sn],false,some 48⟩),(1005,⟨0,[.sn, .v (.s []), .v (.i .i64 0)],false,some 41⟩),(1014,⟨0,[.v (.s c), .v (.s sl), .v (.sl [G m o]), .v (.sl (us.map cO)), .v (.sl (es.map dr.pv)), .v (.sl []), .v (.sl []), .v (.s [])],false,some 156⟩)],1028⟩) (fun p=>p.1<=64/\p.2<=2147483647/\R0=sZ c sl ctx ⟨[(m,o)],us,es⟩ w vs sd (64-p.1) p.2) (0,i0) (fun _=>dF rfl) ⟨aR _,oO,hR0⟩ ?_ ?_
  ·exact lE
  ·clear hn hwt hR0 he f2;rintro⟨k,i⟩ ⟨hk,hi,hR0⟩ R hR;simp only at hk hi hR0
   by_cases hlt:k<64
   ·obtain⟨q,hq⟩: ∃q,64-k=q+1:=⟨63-k,oO⟩;rw[hq,sZ]at hR0;simp only[<-hoq]at hR0;have hCo:=hCo i hi
    cases hM:nu oq c sl vs sd us i []with
    |error e=>
     simp only[hM]at hR0 hCo;subst hR0;have he:(e !=0)=true:=by rcases yk hM with rfl|rfl<;>rfl
     simp only[LC]at hCo;clear hR;exact lF @he @hCo
    |ok ms=>
     simp only[hM]at hR0 hCo;simp only[LC]at hCo;obtain⟨m1,m2,m3,m4⟩:=hMf i hi ms hM;have hii:=hii ms;have hCh:=hCh (uj ⟨[(m,o)],us,es⟩ ms) hii.1 hii.2 (fun x hx=>by have:=(hmI _ x hx).1;omega)
     have hlc:=Bg (xQ ctx ⟨[(m,o)],us,es⟩ (uj ⟨[(m,o)],us,es⟩ ms)) hr.c2;have hRe:=hRe ms _ m1 hlc m2;generalize gK (xQ ctx ⟨[(m,o)],us,es⟩ (uj ⟨[(m,o)],us,es⟩ ms)) c=z at*;have hB:=hB (i+us.length) m3;generalize uj ⟨[(m,o)],us,es⟩ ms=L at*;unfold GJ at hRe
     by_cases hin:BP oq c sl us (fA oq us ms w z)=true
     ·rw[ah hin]at hR0 hRe;subst hR0;generalize fA oq us ms w z=rs at*;clear hR hMf m2 m4 hmI hM f4;exact z4 @hCo @hB @hCh @hRe
     ·rw[af hin]at hR0 hRe;have hgo:=hR (k+1,i+us.length) ⟨oO,m3,by rw[show 64-(k+1)=q by omega];exact hR0⟩ (by simp only;omega)
      clear hR hMf m2 m4 hmI hM f4;exact zg4 @hgo @hCo @hB @hCh @hRe
   ·obtain rfl:k=64:=oO;simp only[gS,sZ]at hR0;subst hR0;clear hR hRe hCh hCo hMf hB;exact z0
 ·rw[ah he];have hb:(vO s w vs a==0)=false:=by simpa using he
  have hb2:(vO s w vs a !=0)=true:=by simpa using he
  generalize vO s w vs a=e at*;obtain⟨gs,us,es⟩:=s;simp only[X0,cK.pv]at hn hwt⊢;refine eW call40 func40 ?_;exact zA (aN @hb @hb2) @hn @hwt
def sj (b:Bytes) (x:Bool×Bytes) (L:Nat):Bool:=decide (num x.2<L)&& !(b==[]&&x.1)
theorem NH (b:Bytes) {n:Bool} {a:Bytes} (va:aa a=true) {L:Nat} (hL:L<dC):aE 442 [cO b,N L, .agg [.b n, .s a]] (.b (sj b (n,a) L)):=by
 have hc:=DI (ov va) hL;rw[dZ va]at hc;have hd: ∀ _:True,decide (aZ (num a) L<0)=decide (num a<L):=fun _=>by rw[dk];simp only[bM];exact fy
 generalize aZ (num a) L=cm at*;unfold cO sj;simp only;generalize decide (num a<L)=p at*;generalize hb:(b==([]:Bytes))=q at*
 cases p<;>cases q<;>cases n<;>
 ·refine eW call442 func442 ?_;exact lF (aN @hb (hd oT)) @hc
def El (o c sl:Bytes) (vs:List Bytes) (l:List (Bool×Bytes)):Bool:=(List.range vs.length).all fun i=>sj (vs.getD i []) (l.getD i fh) (lR o c sl (vs.getD i []))
def dR (o c sl:Bytes) (vs:List Bytes) (ch:Bytes) (l:List (Bool×Bytes)):Int:=
 if !(aa ch&&l.all cr)then 3 else if num c<=num ch then 2 else if l.length≠vs.length then 6 else if !El o c sl vs l then 2 else 0
noncomputable def jl (c sl:Bytes) (s:cK) (ch:Bytes) (l:List (Bool×Bytes)):List PV:=
 if dR (bK s.groups) c sl s.vars ch l=0 then s.eqs.map fun q=>N (fP s.groups ch l q)else[]
theorem Em {l:List (Bool×Bytes)} {i:Nat} (hi:i<vs.length) (h: ¬sj (vs.getD i []) (l.getD i fh) (lR o c sl (vs.getD i []))=true):El o c sl vs l=false:=by
 unfold El;rw[dy];intro g;exact h (bH.1 g i (fS.2 hi))
theorem uA {l:List (Bool×Bytes)} (h: ∀i,i<vs.length->sj (vs.getD i []) (l.getD i fh) (lR o c sl (vs.getD i []))=true):El o c sl vs l=true:=by
 unfold El;rw[bH];intro i hi;exact h i (fS.1 hi)
theorem Q3 {s:cK} (hp:uV c sl s) {l:List (Bool×Bytes)} (hll:l.length<1000000):aE 352 [.agg [.s c, .s sl],s.pv, .s ch, .sl (l.map cU)] (.tup [.sl (jl c sl s ch l),E (dR (bK s.groups) c sl s.vars ch l)]):=by
 have hr:=hp.r;have hs:=hp.g;have hb:=ES hp;have lo:=(eF hs.g).2;clear hp;have vh:=aG ch;have hi:=NN l hll;have l5:(l.map cU).length=l.length:=aL ..;have l2:(s.vars.map cO).length=s.vars.length:=aL ..;have l6:(s.vars.map fun b=>N (lR (bK s.groups) c sl b)).length=s.vars.length:=aL ..
 have nv:=hs.nv
 by_cases g1:aa ch=true/\l.all cr=true
 case neg=>
  have e:(aa ch&&l.all cr)=false:=by rw[dy];intro g;simp at g;exact g1 ⟨g.1,by simpa[bH]using g.2⟩
  have e2:dR (bK s.groups) c sl s.vars ch l=3:=by simp only[dR,e];rfl
  rw[jl,af (by rw[e2];decide),e2]
  clear e2 hs;unfold cK.pv at*;generalize aa ch=b1 at*;generalize l.all cr=b2 at*;refine eW call352 func352 ?_;repeat' first|simp only[go_sem,seval]|refine cP hb ?_|refine cP vh ?_|refine cP hi ?_|refine oE ?_|apply xX<;>intro hc
  all_goals (exfalso;simp_all)
 obtain⟨vc,hok⟩:=g1;rw[vc]at vh;rw[hok]at hi;have hcm:=jH vc hr.vc
 by_cases g2:num c<=num ch
 ·have e2:dR (bK s.groups) c sl s.vars ch l=2:=by simp only[dR,vc,hok];rw[af (by simp),ah g2]
  have hd: ∀ _:True,decide (aZ (num ch) (num c)>=0)=true:=fun _=>aV (fH.2 g2)
  rw[jl,af (by rw[e2];decide),e2]
  generalize aZ (num ch) (num c)=cm at*;clear e2 hs;unfold cK.pv at*;refine eW call352 func352 ?_;exact zB (hd oT) @hb @vh @hi @hcm
 have hd: ∀ _:True,decide (aZ (num ch) (num c)>=0)=false:=fun _=>bL (fun g=>g2 (fH.1 g))
 by_cases g3:l.length=s.vars.length
 case neg=>
  have e2:dR (bK s.groups) c sl s.vars ch l=6:=by simp only[dR,vc,hok];rw[af (by simp),af g2,ah g3]
  rw[jl,af (by rw[e2];decide),e2]
  generalize aZ (num ch) (num c)=cm at*;clear e2 hs;unfold cK.pv at*;refine eW call352 func352 ?_;repeat' first|simp only[go_sem,seval,hd oT,l5,l2]|refine cP hb ?_|refine cP vh ?_|refine cP hi ?_|refine cP hcm ?_|refine oE ?_|apply xX<;>intro hc
  all_goals (exfalso;omega)
 have hms:=GO hs.m vc g3 (bH.1 hok);have hv:=hs.v;have hval: ∀x∈l,aa x.2=true:=fun x hx=>by
  have:=bH.1 hok x hx;simp only[cr,ba]at this;exact this.1
 have e0:dR (bK s.groups) c sl s.vars ch l=if !El (bK s.groups) c sl s.vars l then 2 else 0:=by
  simp only[dR,vc,hok];rw[af (by simp),af g2,af oO]
 unfold jl;rw[e0];clear e0 hs hok;obtain⟨gs,vs,es⟩:=s;simp only at*;generalize bK gs=o at*;unfold cK.pv at*;simp only at*;generalize aZ (num ch) (num c)=cm at*;refine eW call352 func352 ?_;refine tN (aN (hd oT) (aN @l5 @l2)) @hb @vh @hi @hcm ?_;refine ak (α:=Nat) (fun i=>vs.length-i) (fun i=>⟨[(2, .v (.s ch)),(3, .v (.sl (l.map cU))),(5, .p 1001 0 0),(11, .v (.sl (vs.map fun b=>N (lR o c sl b)))),(45, .v (.sl (vs.map cO))),(46,E' vs.length),(47,E' i)],[(1001,⟨0,[.v (.sl (gs.map dS)), .v (.sl (vs.map cO)), .v (.sl (es.map dr.pv))],false,none⟩)],_⟩) (fun i=>i<=vs.length/\ ∀j,j<i->sj (vs.getD j []) (l.getD j fh) (lR o c sl (vs.getD j []))=true) 0 (fun _=>aD _) ⟨aR _,fun j hj=>oO⟩ ?_ ?_
 ·exact lE
 ·rintro i ⟨hi',hf⟩ R hR
  by_cases hlt:i<vs.length
  ·have e1:=getD_map cO vs [] hlt;have e2:=getD_map (fun b=>N (lR o c sl b)) vs [] hlt
   have hlt2:i<l.length:=oO;have e3:=getD_map cU l fh hlt2;obtain⟨k1,k3⟩:=hv _ (aC [] hlt);have kv:=hval _ (aC fh hlt2);have ad:aE 442 [cO (vs.getD i []),N (lR o c sl (vs.getD i [])),cU (l.getD i fh)] (.b (sj (vs.getD i []) (l.getD i fh) (lR o c sl (vs.getD i [])))):=NH (vs.getD i []) (n:=(l.getD i fh).1) kv (Ee hr lo k3);have hgo:=hR (i+1)
   by_cases hc2:sj (vs.getD i []) (l.getD i fh) (lR o c sl (vs.getD i []))=true
   ·have hgo:=hgo ⟨oO,fun j hj=>by
     by_cases e:j=i
     ·rw[e];exact hc2
     ·exact hf j oO⟩ oO
    rw[hc2]at ad;clear hR hf hc2 kv k1 k3;generalize lR o c sl (vs.getD i [])=L at*;generalize vs.getD i []=b at*;obtain⟨x,hx⟩: ∃x,x=l.getD i fh:=⟨_,rfl⟩;rw[<-hx]at ad e3;clear hx;obtain⟨xn,xa⟩:=x;simp only[cO,cU]at*;exact kp (aN @l2 (aN @l5 (aN @l6 (aN @e1 (aN @e2 @e3))))) @hgo @ad
   ·rw[Em hlt hc2];rw[dy.2 hc2]at ad;clear hR hf hgo hc2 kv k1 k3;generalize lR o c sl (vs.getD i [])=L at*;generalize vs.getD i []=b at*;obtain⟨x,hx⟩: ∃x,x=l.getD i fh:=⟨_,rfl⟩;rw[<-hx]at ad e3;clear hx;obtain⟨xn,xa⟩:=x;simp only[cO,cU]at*;exact lF (aN @l2 (aN @l5 (aN @l6 (aN @e1 (aN @e2 @e3))))) @ad
  ·obtain rfl:i=vs.length:=oO;rw[uA hf];exact lF @l2 @hms
theorem Iv {s:cK} (hp:uV c sl s) (h1:s.eqs≠[]) {l:List (Bool×Bytes)} (hll:l.length<1000000):aE 352 [.agg [.s c, .s sl],s.pv, .s ch, .sl (l.map cU)] (.tup [.sl (jl c sl s ch l),E (dR (bK s.groups) c sl s.vars ch l)]):=Q3 hp hll
theorem DW {α:Type} {f:Nat->α->Nat} {m:Nat} (h: ∀x a,f x a<m): ∀(l:List α) (x:Nat),x<m->l.foldl f x<m
 |[],_,hx=>hx
 |a::l,x,_=>DW h l _ (h x a)
theorem HE {s:cK} (hs:Bo s) (ch:Bytes) (rs:List (Bool×Bytes)): ∀x∈oi s ch rs,x.length<=8/\aa x=true:=by
 intro x hx;obtain⟨q,hq,rfl⟩:=cv.1 hx;obtain⟨q1,q2,-⟩:=hs.q q hq;have hg:=hs.g _ (aC eU (show q.kR.toNat<s.groups.length by omega))
 have hm:=(mc hg.1).2.2.1;have hlt:fP s.groups ch rs q<256^8:=by
  refine iM ?_ (dO hg.2.1);unfold fP;exact DW (fun x a=>aP _ oO) _ _ (aP _ oO)
 exact⟨n8.2 hlt,vN hlt⟩
theorem Ge {s:cK} (hp:uV c sl s) (h0:s.vars≠[]) (h00:s.eqs≠[]) (h1:rs.length<1000000) (hf:fJ c s.vars.length ch rs [] []=0) (hi:dR (bK s.groups) c sl s.vars ch rs≠0):
  aE 279 [X0 c sl s,uL ch rs [] []] (.tup [YP,B0,E (dR (bK s.groups) c sl s.vars ch rs)]):=by
 have hfo:=BH (c:=c) (sl:=sl) hp.r.vc s ch rs [] [] h1 (by simp) (by simp) (by simp)
 rw[hf]at hfo;have hfi:=Iv hp h00 (ch:=ch) (l:=rs) h1;have hl:jl c sl s ch rs=[]:=by unfold jl;rw[af hi]
 rw[hl]at hfi;have hb:(dR (bK s.groups) c sl s.vars ch rs==0)=false:=by simpa using hi
 generalize dR (bK s.groups) c sl s.vars ch rs=e at*;obtain⟨gq,vs,es⟩:=s;simp only[X0,uL,cK.pv]at hfo hfi⊢;refine eW call279 func279 ?_;repeat' first|simp only[go_sem,seval,hb]|refine cP hfo ?_|refine cP hfi ?_|refine oE ?_|apply xX<;>intro hc
 all_goals skip
theorem Gf {s:cK} (hp:uV c sl s) (h0:s.vars≠[]) (h00:s.eqs≠[]) (h1:rs.length<1000000) (hf:fJ c s.vars.length ch rs [] []=0) (hi:dR (bK s.groups) c sl s.vars ch rs=0):
  aE 279 [X0 c sl s,uL ch rs [] []] (.tup [.agg [.sl (s.eqs.map fun q=>N (fP s.groups ch rs q)), .s ch, .sl (rs.map cU)],B0,E 0]):=by
 have hfo:=BH (c:=c) (sl:=sl) hp.r.vc s ch rs [] [] h1 (by simp) (by simp) (by simp)
 rw[hf]at hfo;have hfi:=Iv hp h00 (ch:=ch) (l:=rs) h1;have hl:jl c sl s ch rs=s.eqs.map fun q=>N (fP s.groups ch rs q):=by unfold jl;rw[ah hi]
 rw[hl,hi]at hfi;have hrs:rs≠[]:=by
  intro h;subst h;unfold fJ at hf;have hv:([]:List (Bool×Bytes)).length≠s.vars.length:=by
   intro h;exact h0 (fg.1 h.symm)
  split at hf
  ·exact aM hf oC
  ·rw[ah (.inl hv)]at hf;exact aM hf oC
 have hcl:=IL hrs h1;have hcn:=G8;generalize (s.eqs.map fun q=>N (fP s.groups ch rs q))=fl at*
 obtain⟨gq,vs,es⟩:=s;simp only[X0,uL,cK.pv,bj]at hfo hfi⊢;refine eW call279 func279 ?_;exact Z3 @hfo @hfi @hcl @hcn
noncomputable def zo (c sl ctx:Bytes) (s:cK) (ch:Bytes) (rs:List (Bool×Bytes)) (gs:List Bytes) (ls:List (List (Bool×Bytes))):Int:=
 if fJ c s.vars.length ch rs gs ls≠0 then fJ c s.vars.length ch rs gs ls else if dR (bK s.groups) c sl s.vars ch rs≠0 then dR (bK s.groups) c sl s.vars ch rs else if bR (gK (xQ ctx s (oi s ch rs)) c)=ch then 0 else 16
theorem LS {s:cK} (hp:uV c sl s) (hb:Rs s) (h00:s.eqs≠[]) (hx:ctx.length<=100000) {gs:List Bytes} {ls:List (List (Bool×Bytes))} (h1:rs.length<1000000) (h2:gs.length<=1000) (h3:ls.length<=1000) (h4: ∀l∈ls,l.length<4611686018427387904):
  aE 153 [.agg [.s c, .s sl], .s ctx,s.pv,C0,uL ch rs gs ls] (E (zo c sl ctx s ch rs gs ls)):=by
 have hn:=vj hp;unfold zo
 by_cases hf:fJ c s.vars.length ch rs gs ls=0
 ·obtain⟨rfl,rfl⟩:=Au hf;rw[af (by simpa using hf)]
  by_cases hi:dR (bK s.groups) c sl s.vars ch rs=0
  ·rw[af (by simpa using hi)]
   have ho:=Gf hp hb.v0 h00 h1 hf hi;have hmap:(s.eqs.map fun q=>N (fP s.groups ch rs q))=(oi s ch rs).map .s:=by unfold oi;rw[iF];rfl
   rw[hmap]at ho;have f0:oi s ch rs≠[]:=by unfold oi;simpa using h00
   have fl: ∀x∈oi s ch rs,x.length<=100000:=fun x hx=>by have:=(HE hp.g ch rs x hx).1;omega
   have fn:(oi s ch rs).length<=900:=by unfold oi;rw[aL];have:=hp.g.ne;omega
   generalize oi s ch rs=fs at*;have hc:=xG hp.r hb hx f0 fn fl;have ha:=Fw (c:=c) (sl:=sl) s B0 (bR (gK (xQ ctx s fs) c));generalize gK (xQ ctx s fs) c=z at*;obtain⟨gq,vs,es⟩:=s;simp only[X0,uL,cK.pv,bj]at hn ho hc ha⊢;clear hp hb h2 h3 h4 hf hi hmap
   by_cases hz:bR z=ch
   ·rw[ah hz];have hz1:(bR z==ch)=true:=by simpa using hz
    refine eW call153 func153 ?_;exact Ro @hz1 @hn @ho @hc @ha
   ·rw[af hz];have hz1:(bR z==ch)=false:=by simpa using hz
    refine eW call153 func153 ?_;exact Ro @hz1 @hn @ho @hc @ha
  ·rw[ah hi];have ho:=Ge hp hb.v0 h00 h1 hf hi;have hb:(dR (bK s.groups) c sl s.vars ch rs==0)=false:=by simpa using hi
   generalize dR (bK s.groups) c sl s.vars ch rs=e at*;obtain⟨gq,vs,es⟩:=s;simp only[X0,uL,cK.pv,bj]at hn ho⊢;refine eW call153 func153 ?_;exact zA @hb @hn @ho
 ·rw[ah hf];have ho:=JQ hp.r h1 h2 h3 h4 hf (sl:=sl);have hb:(fJ c s.vars.length ch rs gs ls==0)=false:=by simpa using hf
  generalize fJ c s.vars.length ch rs gs ls=e at*;obtain⟨gq,vs,es⟩:=s;simp only[X0,uL,cK.pv]at hn ho⊢;refine eW call153 func153 ?_;exact zA @hb @hn @ho
def kY (k:Key) (n:Bytes):Bytes:=[105,115,115,117,101,32]++k.name++[46]++n
def e9 (p:cq) (k:Key) (c:Bytes):cK:=⟨[(k.m,k.o)],[p.bl,p.se],[⟨0,c,[vL k.s 0,vL (k.r.getD 0 []) 1]⟩]⟩
theorem Hl (k:Key) (n:Bytes) (hk:k.name.length<=1000) (hn:n.length<=1000):aE 41 [k.pv, .s n] (.s (kY k n)):=by
 unfold Key.pv kY;refine eW call41 func41 ?_;repeat' first|simp only[go_sem,seval,bY]|refine oE ?_|apply xX<;>intro hc
 all_goals rfl
theorem Hn (p:cq) (k:Key) (c:Bytes) (h0:0<k.r.length) (hl:k.r.length<1000000):aE 42 [p.pv,k.pv, .s c] (e9 p k c).pv:=by
 have e1:=jm (l:=k.r) (x:=0) h0;have l1:(k.r.map PV.s).length=k.r.length:=aL ..;have hp: ∀ _:True,(0:Int)<(k.r.length:Int):=fun _=>oO
 unfold e9 Key.pv cq.pv cK.pv;generalize k.r.getD 0 []=r0 at*;simp only[dr.pv,bV,bj,eD.pv,vL];refine eW call42 func42 ?_;exact lF (aN @l1 (aN @e1 (hp oT))) @SI
theorem x7 {pe:Int} (h:fa pe k=0):2<=k.r.length:=by
 unfold fa at h;repeat (split at h; ·first|exact aM h oC|(rename_i g;exact aM h g))
 omega
theorem jr (hk:py k) (h:dx k.m [] x=true):jF k.m k.o x=true:=by rw[hk.o];unfold jF;rw[ah (by simp)];exact h
theorem qW (hk:py k):gE k.m k.o=0:=by rw[hk.o,FU];exact Vi.2 hk.gd
theorem yB {p:cq} (h:eQ p=0):(∀x∈p.eP,aa x=true)/\ ∀x∈p.zX,2<=num x:=by
 unfold eQ at h
 split at h
 ·rename_i hv
  split at h
  ·exact aM h oC
  ·split at h
   ·exact aM h oC
   ·rename_i ht;exact⟨bH.1 hv,fun x hx=>CY fun g=>ht (qI.2 ⟨x,hx,by simpa using g⟩)⟩
 ·exact aM h oC
theorem F9 (h:2<=num x):x≠[]:=by intro e;rw[e]at h;exact aM h oC
theorem F4 (h:0<k.r.length):k.r.getD 0 []∈BU k:=by
 simp only[BU,cd];exact .inr (.inr (.inr (aC [] h)))
theorem sw {p:cq} (hp:p.short) (hpe:eQ p=0) (hk:py k) (lm:k.m.length<=8) (h0:0<k.r.length) (hc:dx k.m [] c=true):uV p.c p.sl (e9 p k c):=by
 obtain⟨hv,ht⟩:=yB hpe;have b2:=ht p.bl (by simp[cq.zX])
 have s2:=ht p.se (by simp[cq.zX])
 have vb:=hv p.bl (by simp[cq.eP])
 have vs:=hv p.se (by simp[cq.eP])
 have lb:=hp p.bl (by simp[cq.eP])
 have ls:=hp p.se (by simp[cq.eP])
 have nb:=F9 b2;have ns:=F9 s2;have lo:k.o.length<=8:=by rw[hk.o];simp
 have gs:=jr hk hk.s;have gr:=jr hk (hk.t _ (F4 h0));have gc:=jr hk hc;refine⟨QZ hp hpe,⟨⟨?_,?_,?_,?_,?_,?_⟩,?_,?_,?_,?_,?_,?_,?_⟩,?_⟩
 ·intro q hq;simp only[e9,fR]at hq;subst hq;exact⟨lm,lo⟩
 ·intro b hb;simp only[e9,cd,il,or_false]at hb;rcases hb with rfl|rfl<;>omega
 ·intro q hq;simp only[e9,fR]at hq;subst hq;simp[vL]
 ·simp[e9]
 ·simp[e9]
 ·simp[e9]
 ·intro q hq;simp only[e9,fR]at hq;subst hq;exact⟨qW hk,lm,lo⟩
 ·intro b hb;simp only[e9,cd,il,or_false]at hb;rcases hb with rfl|rfl<;>exact⟨by assumption,oO⟩
 ·intro q hq;simp only[e9,fR]at hq;subst hq;refine⟨Int.le_refl _,by simp[e9],gc,by simp,fun t ht=> ?_⟩
  simp only[cd,il,or_false]at ht;rcases ht with rfl|rfl
  ·exact⟨by simp[vL],by simp[vL,e9],gs,rfl⟩
  ·exact⟨by simp[vL],by simp[vL,e9],gr,rfl⟩
 ·simp[e9]
 ·simp[e9]
 ·simp[e9]
 ·simp[BV,e9,nb,ns]
 ·intro b hb h;simp only[e9,cd,il,or_false]at hb;rcases hb with rfl|rfl
  ·exact aM h nb
  ·exact aM h ns
theorem xA {p:cq} (hp:p.short) (hk:py k) (lm:k.m.length<=8) (h0:0<k.r.length) (hc:dx k.m [] c=true):Rs (e9 p k c):=by
 have lb:=hp p.bl (by simp[cq.eP])
 have ls:=hp p.se (by simp[cq.eP])
 have l1:=yQ lm hk.s;have l2:=yQ lm (hk.t _ (F4 h0));have l3:=yQ lm hc;refine⟨⟨k.m,k.o,rfl,oO,by rw[hk.o];simp⟩,by simp[e9],by simp[e9],fun b hb=> ?_,by simp[e9],fun q hq=> ?_⟩
 ·simp only[e9,cd,il,or_false]at hb;rcases hb with rfl|rfl<;>omega
 ·simp only[e9,fR]at hq;subst hq;refine⟨Int.le_refl _,by simp,by show c.length<=1000;omega,by simp,fun t ht=> ?_⟩
  simp only[cd,il,or_false]at ht;rcases ht with rfl|rfl
  ·exact⟨by simp[vL],by simp[vL],by show k.s.length<=1000;omega,by simp[vL]⟩
  ·exact⟨by simp[vL],by simp[vL],by show(k.r.getD 0 []).length<=1000;omega,by simp[vL]⟩
theorem Pn (p:cq) (k:Key) (c:Bytes) {x y:Nat} (hx:x<(2^64)) (hy:y<(2^64)):WS (e9 p k c) [(x:Int),(y:Int)]:=by
 have hL:=m9;intro q hq;simp only[e9,fR]at hq;subst hq;intro t ht;simp only[cd,il,or_false]at ht;rcases ht with rfl|rfl
 ·refine⟨by simp[vL],by simp[vL],rfl,?_,?_⟩
  ·show((x:Int)).natAbs<dC;omega
  ·show(1:Nat)*((x:Int)).natAbs<dC;omega
 ·refine⟨by simp[vL],by simp[vL],rfl,?_,?_⟩
  ·show((y:Int)).natAbs<dC;omega
  ·show(1:Nat)*((y:Int)).natAbs<dC;omega
theorem Fb {s:cK} {w:List Int} {rs:List Int} {j:Nat}: ∀{n i:Nat},sZ c sl ctx s w vs sd n i= .ok (ch,rs,j)-> ∃ms z,z=gK (xQ ctx s (uj s ms)) c/\ch=bR z/\rs=fA (bK s.groups) s.vars ms w z/\BP (bK s.groups) c sl s.vars rs=true
 |0,i,h=>by cases h
 |n+1,i,h=>by
  rw[sZ]at h
  split at h
  ·cases h
  ·rename_i ms hms
   split at h
   ·rename_i hin;simp only[Except.ok.injEq,dP]at h;obtain⟨rfl,rfl,-⟩:=h;exact⟨ms,_,rfl,rfl,rfl,hin⟩
   ·exact Fb h
theorem JY (m x:Nat) (z:Int):dw m x (je z).1 (num (je z).2)=gJ m x z:=by
 simp only[je,uy,zs];rfl
theorem JZ (m x z:Nat):dw m x (!(bR z==[])) (num (bR z))=gJ m x (-(z:Int)):=by
 have e:(!(bR z==([]:Bytes)))=decide (-(z:Int)<0):=by
  rw[dk];simp[gA];omega
 rw[e,aY];unfold gJ;congr 1;omega
theorem MP {m x:Nat} {n:Bool} {a:Bytes} (h:cr (n,a)=true):dw m x n (num a)=gJ m x (Fj (n,a)):=by
 simp only[cr,ba,dW]at h;have e:Fj (n,a)=if n then-(num a:Int)else num a:=rfl
 rw[e];cases n
 ·simp only[bO,ar];unfold gJ;congr 1
 ·simp only[az];have h2:a≠[]:=by simpa using h.2
  have:=mR (bG h.1) h2;unfold gJ;congr 1
  ·symm;exact aV oO
  ·omega
theorem PU {gs:List (Bytes×Bytes)} {w:List Int} {q:dr}:Mg gs w q=yD (num (gs.getD q.kR.toNat eU).1) (q.terms.map fun t=>(num t.base,tz w t)):=by
 unfold Mg;have:=Qv (m:=num (gs.getD q.kR.toNat eU).1) (q.terms.map fun t=>(num t.base,tz w t)) (fun p=>(p.1,je p.2)) (fun p=>rfl)
 rw[iF]at this;exact this
theorem MJ: ∀{gs:List (Bytes×Bytes)} {q:Bytes},gs.any (Ek q)=false-> ∀g∈gs,g.2≠[]->g.2=q:=by
 intro gs q h g hg h0;have:=oP.1 h g hg;simp only[Ek,ba,dW,ey,ne_eq,not_and,Decidable.not_not]at this;exact this h0
theorem TF {s:cK} (hp:uV c sl s) {w ms:List Int} {z:Nat} {q:dr} (hq:q∈s.eqs) (ht:Mg s.groups w q=num q.tgt):fP s.groups (bR z) ((fA (bK s.groups) s.vars ms w z).map je) q=Mg s.groups ms q:=by
 have hs:=hp.g;obtain⟨q1,q2,q3,q4,q5⟩:=hs.q q hq;have hg:=hs.g _ (aC eU (show q.kR.toNat<s.groups.length by omega))
 have hgm:=aC eU (show q.kR.toNat<s.groups.length by omega)
 rw[PU]at ht⊢;unfold fP;obtain⟨g,hgg⟩: ∃g,g=s.groups.getD q.kR.toNat eU:=⟨_,rfl⟩;rw[<-hgg]at hg hgm q3 q5 ht⊢;obtain⟨m,o⟩:=g;simp only at hg q3 q5 ht⊢;obtain⟨vm,vo,m1,-,hoq⟩:=mc hg.1;have hm0:0<num m:=oO;have hu: ∀t∈q.terms,GP m o (num t.base):=fun t ht=>((cL hg.1).1 (q5 t ht).2.2.1).2
 have hr: ∀t∈q.terms,gJ (num m) (num t.base) (tz (fA (bK s.groups) s.vars ms w z) t)=gJ (num m) (num t.base) (tz ms t+z*tz w t):=by
  intro t ht';obtain⟨t1,t2,-,-⟩:=q5 t ht';have hv:t.var.toNat<s.vars.length:=oO;have hG:=hu t ht';unfold tz;rw[yV hv];unfold iz;split
  ·rename_i hb;have hk:=hs.k;have ha:(s.vars.any fun b=>b==[])=true:=qI.2 ⟨_,aC [] hv,by rw[hb];rfl⟩
   unfold BV at hk;rw[ha]at hk;simp only[cl,jx,ba,dW]at hk;obtain⟨⟨hk1,hk2⟩,hk3⟩:=hk;have hbq:=bH.1 hk3 q hq;unfold IX at hbq;rw[<-hgg]at hbq;simp only at hbq;have hmt:q.terms.any (vF s.vars)=true:=qI.2 ⟨t,ht',by unfold vF;rw[hb];rfl⟩
   rw[hmt,gj]at hbq;have ho:o≠[]:=by simpa using hbq
   have hoq:=MJ hk2 (m,o) hgm ho;simp only at hoq;rw[<-hoq];have hord:=hG.ord.resolve_left ho;refine MN hG.unit hm0 hord ⟨-(Fj (t.neg,t.abs)*((ms.getD t.var.toNat 0+z*w.getD t.var.toNat 0)/num o)),?_⟩;have:=Int.mul_ediv_add_emod (ms.getD t.var.toNat 0+z*w.getD t.var.toNat 0) (num o);have e:(ms.getD t.var.toNat 0+z*w.getD t.var.toNat 0)%num o=(ms.getD t.var.toNat 0+z*w.getD t.var.toNat 0)-num o*((ms.getD t.var.toNat 0+z*w.getD t.var.toNat 0)/num o):=oO;rw[e]
   grind
  ·congr 1
   grind
 have hL:=Nq (m:=num m) (fun t:eD=>num t.base) hm0 (l:=q.terms) (fun t ht=>(hu t ht).unit) (tz w) (tz ms) (tz (fA (bK s.groups) s.vars ms w z)) z hr
 rw[ht]at hL;rw[<-hL,JZ];rw[<-MS (fun t:eD=>num t.base) hm0 _ _ (Ew _ _ _)]
 have key: ∀(l:List eD) (x:Nat),(∀t∈l,t∈q.terms)->l.foldl (qN (num m) ((fA (bK s.groups) s.vars ms w z).map je)) x=l.foldl (fun y t=>y*gJ (num m) (num t.base) (tz (fA (bK s.groups) s.vars ms w z) t)%num m) x:=by
  intro l
  induction l with
  |nil=>intro x _;rfl
  |cons t l ih=>
   intro x hl;rw[List.foldl_cons,List.foldl_cons,ih _ fun t h=>hl t (.tail _ h)]
   have ht':=hl t (.head _);obtain⟨t1,t2,-,t4⟩:=q5 t ht';congr 1;unfold qN;have aB:((fA (bK s.groups) s.vars ms w z).map je).getD t.var.toNat fh=je ((fA (bK s.groups) s.vars ms w z).getD t.var.toNat 0):=by
    have hlen:t.var.toNat<(fA (bK s.groups) s.vars ms w z).length:=by rw[sS];omega
    simp[ca,hlen]
   rw[aB,JY,MP t4,nN (hu t ht').unit hm0];rfl
 exact key q.terms _ fun t h=>h
theorem TE {s:cK} (hp:uV c sl s) {w:List Int} (hh:BL s w=true) {a:Int} {rs:List Int} {j:Nat} (h:sN c sl ctx s w vs sd a= .ok (ch,rs,j)):zo c sl ctx s ch (rs.map je) [] []=0:=by
 unfold sN at h
 split at h
 ·cases h
 obtain⟨ms,z,hz,rfl,hrs,hin⟩:=Fb h;have hc:=hp.r;have hc2:=hc.c2;have hzc:z<num c:=by rw[hz];exact Bg _ oO
 have hlc:=dO hc.lc;have hrl:rs.length=s.vars.length:=by rw[hrs];exact sS ..
 have hov:=eF hp.g.g;have hall: ∀i,i<s.vars.length->jc (s.vars.getD i []) (rs.getD i 0) (lR (bK s.groups) c sl (s.vars.getD i []))=true:=fun i hi=>bH.1 hin i (fS.2 hi)
 have hLI: ∀x∈rs,x.natAbs<dC:=fun x hx=>by
  obtain⟨i,hi,rfl⟩:=gR hx;have:=hall i oO;simp only[jc,ba,bM]at this;have h2:=Ee hc hov.2 (hp.g.v _ (aC [] (show i<s.vars.length by omega))).2
  have h3:rs.getD i 0=rs[i]:=by simp[ca,hi]
  rw[h3]at this;omega
 have hok:(rs.map je).all cr=true:=by
  rw[bH];intro x hx;obtain⟨y,hy,rfl⟩:=cv.1 hx;exact rA (hLI y hy)
 have a1:aa (bR z)=true:=vN oO;have hfm:oi s (bR z) (rs.map je)=uj s ms:=by
  unfold oi uj;refine oX fun q hq=> ?_
  rw[hrs];refine congrArg bR (TF hp hq ?_);have h3:=of_decide_eq_true hh;unfold uj at h3;have h4:=List.map_eq_map_iff.1 h3 q hq;rw[<-h4,aY]
 have f1:fJ c s.vars.length (bR z) (rs.map je) [] []=0:=by
  unfold fJ;rw[a1,hok,af (by simp),af (by simp[hrl]),af (by rw[aY];omega)]
 have f2:dR (bK s.groups) c sl s.vars (bR z) (rs.map je)=0:=by
  have f3:El (bK s.groups) c sl s.vars (rs.map je)=true:=uA fun i hi=>by
   have hg:(rs.map je).getD i fh=je (rs.getD i 0):=by
    have:i<rs.length:=oO;simp[ca,this]
   rw[hg];have:=hall i hi;simp only[jc,ba,bM,dW,C5,lD]at this;simp only[sj,je,uy,zs,ba,bM,dW,C5,ey,lD];exact this
  unfold dR;rw[a1,hok,f3,af (by simp),af (by rw[aY];omega),af (by simp[hrl]),af (by simp)]
 unfold zo;rw[af (by rw[f1];simp),af (by rw[f2];simp),hfm,<-hz,ah rfl]
