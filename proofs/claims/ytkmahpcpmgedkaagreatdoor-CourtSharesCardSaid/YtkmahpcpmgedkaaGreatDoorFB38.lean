/- Part of the proof. -/
import Derived.Test.YtkmahpcpmgedkaaGreatDoorFB37
set_option linter.all false
set_option maxHeartbeats 16000000
set_option maxRecDepth 100000
namespace Go.Proofs.Tryz
open Go Go.Dom Go.Num
variable {b c o sl st:Bytes} {ch i:Nat}
def gi (o b:Bytes) (m w:Int) (c:Nat):Int:=if b=[]then(m+c*w)%num o else m+c*w
def dT (o:Bytes) (us:List Bytes) (ms w:List Int) (c:Nat):List Int:=(List.range us.length).map fun i=>gi o (us.getD i []) (ms.getD i 0) (w.getD i 0) c
theorem Av (o:Bytes) (us:List Bytes) (ms w:List Int) (c:Nat):(dT o us ms w c).length=us.length:=by simp[dT]
theorem ua {us:List Bytes} {ms w:List Int} {c:Nat} (h:i<us.length):(dT o us ms w c).getD i 0=gi o (us.getD i []) (ms.getD i 0) (w.getD i 0) c:=by
 simp[dT,bu,h]
def zx (o c sl:Bytes) (us:List Bytes) (rs:List Int):Bool:=(List.range us.length).all fun i=>fU (us.getD i []) (rs.getD i 0) (lR o c sl (us.getD i []))
def xr (o c sl:Bytes) (us:List Bytes) (rs:List Int):PV:=if zx o c sl us rs then .tup [.sl (rs.map Zp),E 0]else .tup [.sl [],E 15]
theorem E5 (hr:sR c sl) (lo:o.length<=8) (lb:b.length<=16):lR o c sl b<cW:=by
 unfold lR;split
 ·exact wT lo
 ·exact Rn hr lb
theorem Je {m w:Int} (hol:num o<cW) (h64:num o<(2^64)) (h0:0<num o) (h:b=[]) (hx:m.natAbs+((ch:Int)*w).natAbs+(2^64)<cW):
  fU b (gi o b m w ch) (lR o c sl b)=true/\ ∃k:Nat,aD 279 [Z ((ch:Int)*w),N (lM o c sl b)] (.tup [N k,E 0])/\aD 28 [N k] (Z k)/\aD 280 [Z m,Z k] (.tup [Z (m+k),E 0])/\ ∃k2:Nat,aD 279 [Z (m+k),N (lM o c sl b)] (.tup [N k2,E 0])/\aD 28 [N k2] (Z (gi o b m w ch)):=by
 subst h;have g1:=gK ((ch:Int)*w) (b:=num o) oO;have g2:=gT ((ch:Int)*w) (b:=num o) oO;have g3:=gK (m+ch*w) (b:=num o) oO;have g4:=gT (m+ch*w) (b:=num o) oO;simp only[lM,lR,gi,au];refine⟨?_,((ch:Int)*w%num o).toNat,Th oO hol h0,BB oO,EX oO,((m+ch*w)%num o).toNat,?_,?_⟩
 ·simp only[fU,aZ,cq,decide_true,cj,fJ,pI];omega
 ·have:=Th (x:=m+(((ch:Int)*w%num o).toNat:Int)) (m:=num o) oO hol h0;rw[lz g1,Int.add_emod_emod]at this;rw[lz g1];exact this
 ·have:=BB (n:=((m+ch*w)%num o).toNat) oO
  rwa[lz g3]at this
theorem Ox {s:cG} (hp:BD c sl s) {w ms:List Int} (hwl:w.length=s.vars.length) (hml:ms.length=s.vars.length) (hch:ch<dL) (hI: ∀i,i<s.vars.length->(w.getD i 0).natAbs<dL/\(ms.getD i 0).natAbs+((ch:Int)*w.getD i 0).natAbs+(2^64)<cW):
  aD 164 [s.pv, .sl (s.vars.map (lP (bA s.groups) c sl)), .sl (w.map Zp), .sl (ms.map Zp),N ch] (xr (bA s.groups) c sl s.vars (dT (bA s.groups) s.vars ms w ch)):=by
 have hb:=hp.g.v;have nv:=hp.g.nv;have hr:=hp.r;have hov:=dc hp.g.g;have lo:=hov.2;have ho:[]∈s.vars->0<num (bA s.groups):=fun h=>Nat.pos_of_ne_zero (vP hov.1 (tx hp.g h))
 obtain⟨gs,us,es⟩:=s;simp only at hb nv hwl hml hI lo ho⊢;clear hp hov;generalize bA gs=o at*;have h64:=eP lo;have hol:=wT lo;have l2:(us.map cl).length=us.length:=aB ..;have l3:(us.map (lP o c sl)).length=us.length:=aB ..;have l4:(w.map Zp).length=us.length:=by rw[aB];exact hwl
 have l5:(ms.map Zp).length=us.length:=by rw[aB];exact hml
 have hF:=BB (n:=ch) (bH hch xz);have hrl:=Av o us ms w ch;have rS: ∀{j:Nat},j<us.length->bj Zp ((dT o us ms w ch).take (j+1))=bj Zp ((dT o us ms w ch).take j)++[.v (.b (zs ((dT o us ms w ch).getD j 0))), .v (.s (zb ((dT o us ms w ch).getD j 0)))]:=fun h=>by
  rw[aQ 0 oO,uW]
 unfold cG.pv;simp only
 by_cases hpos:0<us.length
 rotate_left
 ·obtain rfl:us=[]:=gS.1 oO;refine eW call164 func164 ?_;exact PG
 refine eW call164 func164 ?_;refine cU @l2 ?_;refine ai ?_;have e1:=getD_map cl us [] hpos;have e2:=getD_map (lP o c sl) us [] hpos;have e3:=getD_map Zp w 0 (i:=0) oO;have e4:=getD_map Zp ms 0 (i:=0) oO;have kb:=hb _ (aq [] hpos);have hk:=po (us.getD 0 []);have hx:=hI 0 hpos;have hp:=Nj (x:=(ch:Int)) (y:=w.getD 0 0) (by simpa using hch) hx.1
 have hgr:=ua (o:=o) (ms:=ms) (w:=w) (c:=ch) hpos;have hgk: ∀k,k<0+1->(∀q,q<0->fU (us.getD q []) ((dT o us ms w ch).getD q 0) (lR o c sl (us.getD q []))=true)->fU (us.getD 0 []) ((dT o us ms w ch).getD 0 0) (lR o c sl (us.getD 0 []))=true->fU (us.getD k []) ((dT o us ms w ch).getD k 0) (lR o c sl (us.getD k []))=true:=fun k hk h1 h2=>by
  by_cases hkj:k<0
  ·exact h1 k hkj
  ·obtain rfl:k=0:=oO;exact h2
 rw[hgr]at hgk;have hbad:=fun h: ¬fU (us.getD 0 []) ((dT o us ms w ch).getD 0 0) (lR o c sl (us.getD 0 []))=true=>kY (p:=fun i=>fU (us.getD i []) ((dT o us ms w ch).getD i 0) (lR o c sl (us.getD i []))) hpos (fy.2 h)
 rw[<-zx,hgr]at hbad;have r1:=rS hpos;rw[hgr]at r1;have hcs:(us.getD 0 []≠[]/\fU (us.getD 0 []) (gi o (us.getD 0 []) (ms.getD 0 0) (w.getD 0 0) ch) (lR o c sl (us.getD 0 []))=false/\aD 280 [Z (ms.getD 0 0),Z ((ch:Int)*w.getD 0 0)] (.tup [Z (gi o (us.getD 0 []) (ms.getD 0 0) (w.getD 0 0) ch),E 0])/\aD 163 [cl (us.getD 0 []),Zp (gi o (us.getD 0 []) (ms.getD 0 0) (w.getD 0 0) ch),N (lR o c sl (us.getD 0 []))] (.b false))\/
   (us.getD 0 []=[]/\fU (us.getD 0 []) (gi o (us.getD 0 []) (ms.getD 0 0) (w.getD 0 0) ch) (lR o c sl (us.getD 0 []))=true/\ ∃k:Nat,aD 279 [Z ((ch:Int)*w.getD 0 0),N (lM o c sl (us.getD 0 []))] (.tup [N k,E 0])/\aD 28 [N k] (Z k)/\aD 280 [Z (ms.getD 0 0),Z k] (.tup [Z (ms.getD 0 0+k),E 0])/\ ∃k2:Nat,aD 279 [Z (ms.getD 0 0+k),N (lM o c sl (us.getD 0 []))] (.tup [N k2,E 0])/\aD 28 [N k2] (Z (gi o (us.getD 0 []) (ms.getD 0 0) (w.getD 0 0) ch)))\/
   (us.getD 0 []≠[]/\fU (us.getD 0 []) (gi o (us.getD 0 []) (ms.getD 0 0) (w.getD 0 0) ch) (lR o c sl (us.getD 0 []))=true/\aD 280 [Z (ms.getD 0 0),Z ((ch:Int)*w.getD 0 0)] (.tup [Z (gi o (us.getD 0 []) (ms.getD 0 0) (w.getD 0 0) ch),E 0])/\aD 163 [cl (us.getD 0 []),Zp (gi o (us.getD 0 []) (ms.getD 0 0) (w.getD 0 0) ch),N (lR o c sl (us.getD 0 []))] (.b true)):=by
  by_cases h:us.getD 0 []=[]
  ·exact .inr (.inl ⟨h,Je hol h64 (ho (by rw[<-h];exact aq [] hpos)) h hx.2⟩)
  ·have h1:aD 280 [Z (ms.getD 0 0),Z ((ch:Int)*w.getD 0 0)] (.tup [Z (gi o (us.getD 0 []) (ms.getD 0 0) (w.getD 0 0) ch),E 0]):=by
    rw[gi,ae h];exact EX oO
   have h2:=xR (us.getD 0 []) (x:=gi o (us.getD 0 []) (ms.getD 0 0) (w.getD 0 0) ch) (L:=lR o c sl (us.getD 0 [])) (by rw[gi,ae h];have:=yq (ms.getD 0 0) (ch*w.getD 0 0);omega) (E5 hr lo kb.2)
   cases hin:fU (us.getD 0 []) (gi o (us.getD 0 []) (ms.getD 0 0) (w.getD 0 0) ch) (lR o c sl (us.getD 0 []))
   ·rw[hin]at h2;exact .inl ⟨h,rfl,h1,h2⟩
   ·rw[hin]at h2;exact .inr (.inr ⟨h,rfl,h1,h2⟩)
 clear hx kb;generalize gi o (us.getD 0 []) (ms.getD 0 0) (w.getD 0 0) ch=z at*;generalize hu0:us.getD 0 []=u at*;simp only[cl]at e1 hk hcs;simp only[lP]at e2;generalize lM o c sl u=M at*;generalize lR o c sl u=Rr at*;simp only[Zp,dI,gW]at e3 e4 hcs;rcases hcs with⟨hu,hgd,m1,m2⟩|⟨hu,hgd,k,m1,m2,m3,k2,m4,m5⟩|⟨hu,hgd,m1,m2⟩
 ·rw[ae hu]at hk;rw[xr,hbad (by simp[hgd])]
  exact AU (aN @l2 (aN @l3 (aN @l4 (aN @l5 (aN @e1 (aN @e2 (aN @e3 @e4))))))) @hk @hF @hp @m1 @m2 oT oT
 all_goals
  first|rw[ah hu]at hk|rw[ae hu]at hk
  repeat' first|simp only[go_sem,seval,l2,l3,l4,l5,e1,e2,e3,e4]|refine cP hk ?_|refine cP hF ?_|refine cP hp ?_|refine cP m1 ?_|refine cP m2 ?_|refine cP m3 ?_|refine cP m4 ?_|refine cP m5 ?_|refine oE ?_|apply xX<;>intro hc
  obtain⟨nm,hnm⟩: ∃nm,nm=(if u=[]then 1074 else 1059):=⟨_,rfl⟩
  first|rw[ah hu]at hnm|rw[ae hu]at hnm
  refine af (α:=Nat) (fun j=>us.length-(j+1)) (fun j=>⟨[(1, .v (.sl (us.map (lP o c sl)))),(2, .v (.sl (w.map Zp))),(3, .v (.sl (ms.map Zp))),(4, .v (N ch)),(5, .p 1000 0 0),(12, .rs nm j 0 (j+1) 2),(28, .v (.sl (us.map cl))),(29,E' us.length),(30,E' (j+1))],[(1000,⟨0,[.v (.sl (gs.map eu)), .v (.sl (us.map cl)), .v (.sl (es.map da.pv))],false,none⟩),(nm,⟨j,bj Zp ((dT o us ms w ch).take (j+1)),true,some 77⟩)],nm+4⟩) (fun j=>j+1<=us.length/\ ∀k,k<j+1->fU (us.getD k []) ((dT o us ms w ch).getD k 0) (lR o c sl (us.getD k []))=true) 0 (fun _=>by show _<=nm+4;rw[hnm];exact bZ rfl) ⟨hpos,fun k hk=>hgk k hk (fun j hj=>oO) hgd⟩ ?_ ?_<;>subst hnm
  ·rw[r1,List.take_zero,show bj Zp ([]:List Int)=[]from rfl,List.nil_append]
   exact lE
  ·clear e1 e2 e3 e4 hk hgr hbad r1 hgk hgd m1 m2 hu0 hp
   first|clear m3 m4 m5|skip
   rintro j ⟨hj,hall⟩ R hR;have hlm:((dT o us ms w ch).take (j+1)).length=j+1:=by rw[bV];omega
   have q1:=cz ru ((dT o us ms w ch).take (j+1));have q2:=cM ru ((dT o us ms w ch).take (j+1));rw[hlm]at q1 q2
   by_cases hlt:j+1<us.length
   ·have e1:=getD_map cl us [] hlt;have e2:=getD_map (lP o c sl) us [] hlt;have e3:=getD_map Zp w 0 (i:=(j+1)) oO;have e4:=getD_map Zp ms 0 (i:=(j+1)) oO;have kb:=hb _ (aq [] hlt);have hk:=po (us.getD (j+1) []);have hx:=hI (j+1) hlt;have hp:=Nj (x:=(ch:Int)) (y:=w.getD (j+1) 0) (by simpa using hch) hx.1
    have hgr:=ua (o:=o) (ms:=ms) (w:=w) (c:=ch) hlt;have hgk: ∀k,k<(j+1)+1->(∀q,q<(j+1)->fU (us.getD q []) ((dT o us ms w ch).getD q 0) (lR o c sl (us.getD q []))=true)->fU (us.getD (j+1) []) ((dT o us ms w ch).getD (j+1) 0) (lR o c sl (us.getD (j+1) []))=true->fU (us.getD k []) ((dT o us ms w ch).getD k 0) (lR o c sl (us.getD k []))=true:=fun k hk h1 h2=>by
     by_cases hkj:k<(j+1)
     ·exact h1 k hkj
     ·obtain rfl:k=(j+1):=oO;exact h2
    rw[hgr]at hgk;have hbad:=fun h: ¬fU (us.getD (j+1) []) ((dT o us ms w ch).getD (j+1) 0) (lR o c sl (us.getD (j+1) []))=true=>kY (p:=fun i=>fU (us.getD i []) ((dT o us ms w ch).getD i 0) (lR o c sl (us.getD i []))) hlt (fy.2 h)
    rw[<-zx,hgr]at hbad;have r1:=rS hlt;rw[hgr]at r1;have hcs:(us.getD (j+1) []≠[]/\fU (us.getD (j+1) []) (gi o (us.getD (j+1) []) (ms.getD (j+1) 0) (w.getD (j+1) 0) ch) (lR o c sl (us.getD (j+1) []))=false/\aD 280 [Z (ms.getD (j+1) 0),Z ((ch:Int)*w.getD (j+1) 0)] (.tup [Z (gi o (us.getD (j+1) []) (ms.getD (j+1) 0) (w.getD (j+1) 0) ch),E 0])/\aD 163 [cl (us.getD (j+1) []),Zp (gi o (us.getD (j+1) []) (ms.getD (j+1) 0) (w.getD (j+1) 0) ch),N (lR o c sl (us.getD (j+1) []))] (.b false))\/
      (us.getD (j+1) []=[]/\fU (us.getD (j+1) []) (gi o (us.getD (j+1) []) (ms.getD (j+1) 0) (w.getD (j+1) 0) ch) (lR o c sl (us.getD (j+1) []))=true/\ ∃k:Nat,aD 279 [Z ((ch:Int)*w.getD (j+1) 0),N (lM o c sl (us.getD (j+1) []))] (.tup [N k,E 0])/\aD 28 [N k] (Z k)/\aD 280 [Z (ms.getD (j+1) 0),Z k] (.tup [Z (ms.getD (j+1) 0+k),E 0])/\ ∃k2:Nat,aD 279 [Z (ms.getD (j+1) 0+k),N (lM o c sl (us.getD (j+1) []))] (.tup [N k2,E 0])/\aD 28 [N k2] (Z (gi o (us.getD (j+1) []) (ms.getD (j+1) 0) (w.getD (j+1) 0) ch)))\/
      (us.getD (j+1) []≠[]/\fU (us.getD (j+1) []) (gi o (us.getD (j+1) []) (ms.getD (j+1) 0) (w.getD (j+1) 0) ch) (lR o c sl (us.getD (j+1) []))=true/\aD 280 [Z (ms.getD (j+1) 0),Z ((ch:Int)*w.getD (j+1) 0)] (.tup [Z (gi o (us.getD (j+1) []) (ms.getD (j+1) 0) (w.getD (j+1) 0) ch),E 0])/\aD 163 [cl (us.getD (j+1) []),Zp (gi o (us.getD (j+1) []) (ms.getD (j+1) 0) (w.getD (j+1) 0) ch),N (lR o c sl (us.getD (j+1) []))] (.b true)):=by
     by_cases h:us.getD (j+1) []=[]
     ·exact .inr (.inl ⟨h,Je hol h64 (ho (by rw[<-h];exact aq [] hlt)) h hx.2⟩)
     ·have h1:aD 280 [Z (ms.getD (j+1) 0),Z ((ch:Int)*w.getD (j+1) 0)] (.tup [Z (gi o (us.getD (j+1) []) (ms.getD (j+1) 0) (w.getD (j+1) 0) ch),E 0]):=by
       rw[gi,ae h];exact EX oO
      have h2:=xR (us.getD (j+1) []) (x:=gi o (us.getD (j+1) []) (ms.getD (j+1) 0) (w.getD (j+1) 0) ch) (L:=lR o c sl (us.getD (j+1) [])) (by rw[gi,ae h];have:=yq (ms.getD (j+1) 0) (ch*w.getD (j+1) 0);omega) (E5 hr lo kb.2)
      cases hin:fU (us.getD (j+1) []) (gi o (us.getD (j+1) []) (ms.getD (j+1) 0) (w.getD (j+1) 0) ch) (lR o c sl (us.getD (j+1) []))
      ·rw[hin]at h2;exact .inl ⟨h,rfl,h1,h2⟩
      ·rw[hin]at h2;exact .inr (.inr ⟨h,rfl,h1,h2⟩)
    clear hx kb;generalize gi o (us.getD (j+1) []) (ms.getD (j+1) 0) (w.getD (j+1) 0) ch=z at*;generalize hu0:us.getD (j+1) []=u at*;simp only[cl]at e1 hk hcs;simp only[lP]at e2;generalize lM o c sl u=M at*;generalize lR o c sl u=Rr at*;simp only[Zp,dI,gW]at e3 e4 hcs;rcases hcs with⟨hu,hgd,m1,m2⟩|⟨hu,hgd,k,m1,m2,m3,k2,m4,m5⟩|⟨hu,hgd,m1,m2⟩
    ·rw[ae hu]at hk;rw[xr,hbad (by simp[hgd])]
     clear hR hall hgk;exact AU (aN @l2 (aN @l3 (aN @l4 (aN @l5 (aN @e1 (aN @e2 (aN @e3 (aN @e4 (aN @q1 @q2))))))))) @hk @hF @hp @m1 @m2 oT oT
    all_goals
     have hgo:=hR (j+1) ⟨oO,fun k hk=>hgk k hk hall hgd⟩ oO
     rw[r1]at hgo;clear hR hall hgk
     first|rw[ah hu]at hk|rw[ae hu]at hk
     repeat' first|simp only[go_sem,seval,l2,l3,l4,l5,e1,e2,e3,e4,q1,q2]|refine cP hk ?_|refine cP hF ?_|refine cP hp ?_|refine cP m1 ?_|refine cP m2 ?_|refine cP m3 ?_|refine cP m4 ?_|refine cP m5 ?_|refine oE ?_|apply xX<;>intro hc
     refine hgo _ ?_;refine lG ?_;all_goals exact fun c hc=>by rcases hc with hc|rfl|rfl<;>first|exact cR hc|rfl
   ·have hjl:us.length=j+1:=oO;have hgood2:zx o c sl us (dT o us ms w ch)=true:=lO fun k hk=>hall k oO
    rw[xr,hgood2];have hT:(dT o us ms w ch).take (j+1)=dT o us ms w ch:=cb oO;rw[hT]at q1 q2⊢;have q3:=ff ru (dT o us ms w ch);have q4:=dD ru (dT o us ms w ch);rw[hrl,hjl]at q4;rw[hjl];clear hR;exact gn (aN @l2 (aN @hjl (aN @q1 (aN @q2 (aN @q3 (aN @q4 @fk))))))
theorem C7 {w:List Int} {n:Nat} {P:Int->Prop} (hwl:w.length=n) (h: ∀i,i<n->P (w.getD i 0)): ∀x∈w,P x:=fun x hx=>by
 obtain⟨j,hj,rfl⟩:=ik hx;have:=h j oO
 rwa[bu,bC hj]at this
theorem C3 {us:List Bytes} {w:List Int} (h:tw o us w=true) (hi:i<us.length):fU (us.getD i []) (w.getD i 0) (dS o (us.getD i []))=true:=bM.1 h i (dV.2 hi)
theorem Ey (lo:o.length<=8) (lb:b.length<=16):dS o b<=dL:=by
 unfold dS;split
 ·exact ku (bH (eP lo) uk)
 ·exact ku (Fe lb)
theorem Gp {s:cG} (hp:BD c sl s) {w ms:List Int} (hwl:w.length=s.vars.length) (hml:ms.length=s.vars.length) (hch:ch<num c) (hW:tw (bA s.groups) s.vars w=true) (hM: ∀i,i<s.vars.length->fU (s.vars.getD i []) (ms.getD i 0) (lM (bA s.groups) c sl (s.vars.getD i []))=true):
  aD 74 [.agg [.s c, .s sl],s.pv, .sl (w.map Zp), .sl (ms.map Zp),N ch] (xr (bA s.groups) c sl s.vars (dT (bA s.groups) s.vars ms w ch)):=by
 have hr:=hp.r;have hb:=hp.g.v;have nv:=hp.g.nv;have lo:=(dc hp.g.g).2;have hbo:=Ay hp;have c8:=eP hr.lc;have h64:=lr;have h128:=uk;have hwb: ∀i,i<s.vars.length->(w.getD i 0).natAbs<dL:=fun i hi=>bH (o7 (C3 hW hi)).1 (Ey lo (hb _ (aq [] hi)).2)
 have hmb: ∀i,i<s.vars.length->(ms.getD i 0).natAbs<256^33:=fun i hi=>jy (o7 (hM i hi)).1 (C5 hr lo (hb _ (aq [] hi)).2)
 have h33:256^33+(2^64)*dL+(2^64)<cW:=by unfold cW dL;decide+kernel
 have hwA: ∀x∈w,x.natAbs<cW:=C7 hwl fun i hi=>bH (hwb i hi) xz
 have hmA: ∀x∈ms,x.natAbs<cW:=C7 hml fun i hi=>by have:=hmb i hi;omega
 have hv1:=Cr (w.map gW) (by rw[aB];omega)
 have hv2:=Cr (ms.map gW) (by rw[aB];omega)
 have hrg:=Sv hp.g hwl hwA;rw[P7,mz hwA]at hv1;rw[P7,mz hmA]at hv2;rw[hW]at hrg;have hn:=aS (aX ch);rw[vB oO]at hn;have hcm:=sZ (a:=ch) (b:=num c) oO oO;rw[eE hr.vc]at hcm;have hd: ∀ _:True,decide (ba ch (num c)>=0)=false:=fun _=>by rw[Kc,aI hch];rfl
 have hre:=Ox hp hwl hml (ch:=ch) oO (fun i hi=>by
  refine⟨hwb i hi,?_⟩;have h1:=hmb i hi;have h2:((ch:Int)*w.getD i 0).natAbs<=(2^64)*dL:=by
   rw[jg,Int.natAbs_natCast];exact j8 oO (ku (hwb i hi))
  omega)
 have hmL: ∀i,i<s.vars.length->aD 163 [cl (s.vars.getD i []),Zp (ms.getD i 0),N (lM (bA s.groups) c sl (s.vars.getD i []))] (.b true):=fun i hi=>by
  have:=xR (s.vars.getD i []) (x:=ms.getD i 0) (L:=lM (bA s.groups) c sl (s.vars.getD i [])) (by have:=hmb i hi;omega) (Nt hr lo (hb _ (aq [] hi)).2)
  rwa[hM i hi]at this
 generalize ba ch (num c)=cm at*;generalize dT (bA s.groups) s.vars ms w ch=rs at*;unfold xr at*;obtain⟨gs,us,es⟩:=s;simp only at nv hwl hml hmL hre hbo⊢;generalize bA gs=o at*;have l2:(us.map cl).length=us.length:=aB ..;have l3:(us.map (lP o c sl)).length=us.length:=aB ..;have l4:(w.map Zp).length=us.length:=by rw[aB];exact hwl
 have l5:(ms.map Zp).length=us.length:=by rw[aB];exact hml
 clear hW hwb hmb hM hwA hmA h33 h64 hb hp hr;unfold cG.pv at*;simp only at*;refine eW call74 func74 ?_;refine Gj (aN @l2 (aN @l4 (aN @l5 (hd oT)))) @hbo @hv1 @hv2 @hn @hcm @hrg oT ?_;refine af (α:=Nat) (fun i=>us.length-i) (fun i=>⟨[(2, .v (.sl (w.map Zp))),(3, .v (.sl (ms.map Zp))),(4, .v (N ch)),(6, .p 1001 0 0),(12, .v (.sl (us.map (lP o c sl)))),(68, .v (.sl (us.map cl))),(69,E' us.length),(70,E' i)],[(1001,⟨0,[.v (.sl (gs.map eu)), .v (.sl (us.map cl)), .v (.sl (es.map da.pv))],false,none⟩)],_⟩) (fun i=>i<=us.length) 0 (fun _=>ay _) (aJ _) ?_ ?_
 ·exact lE
 ·intro i hi R hR
  by_cases hlt:i<us.length
  ·have hgo:=hR (i+1) oO oO;have e1:=getD_map cl us [] hlt;have e2:=getD_map (lP o c sl) us [] hlt;have e4:=getD_map Zp ms 0 (i:=i) oO;have hc:=hmL i hlt;clear hR hmL hre hv1 hv2;simp only[lP]at e2;generalize lM o c sl (us.getD i [])=M at*;generalize us.getD i []=u at*;generalize ms.getD i 0=x at*;simp only[cl]at e1 hc;simp only[Zp,dI,gW]at e4 hc;exact gV (aN @l2 (aN @l3 (aN @l5 (aN @e1 (aN @e2 @e4))))) @hgo @hc
  ·obtain rfl:i=us.length:=oO;clear hR hmL;generalize zx o c sl us rs=b at*;cases b
   ·exact z1 @hre
   ·exact z1 @hre
structure SZ (s:cG):Prop where
 g: ∃m o,s.groups=[(m,o)]/\m.length<=1000/\o.length<=1000
 v0:s.vars≠[]
 nv:s.vars.length<=64
 v: ∀b∈s.vars,b.length<=1000
 ne:s.eqs.length<=64
 q: ∀q∈s.eqs,0<=q.mT/\q.mT<100/\q.tgt.length<=1000/\q.terms.length<=64/\ ∀t∈q.terms,0<=t.var/\t.var<100/\t.base.length<=1000/\t.abs.length<=1000
theorem rW {l:List eF} (hs:st.length=32):(l.foldl rD st).length=32:=by
 induction l generalizing st with
 |nil=>exact hs
 |cons t l ih=>exact ih (HM _ _ _)
theorem rV {l:List da} (hs:st.length=32):(l.foldl rC st).length=32:=by
 induction l generalizing st with
 |nil=>exact hs
 |cons q l ih=>exact ih (rW (fq _ _ _))
theorem WR (hst:st.length<=1000) {s:cG} (hs:SZ s):aD 157 [.s st,s.pv] (.s (mQ st s)):=by
 obtain⟨⟨m,o,hg,lm,lo⟩,v0,nv,hv,ne,hq⟩:=hs;obtain⟨gs,vs,es⟩:=s;simp only at hg v0 nv hv ne hq;subst hg;obtain⟨w0,wr,hw⟩: ∃a b,vs=a::b:=by cases vs with
  |nil=>exact aW rfl v0
  |cons a b=>exact⟨a,b,rfl⟩
 have hvl:vs.length=wr.length+1:=by rw[hw];rfl
 have hpos: ∀ _:True,(0:Int)<(vs.length:Int):=fun _=>oO
 have g0:(vs.map cl).getD 0 .fn0= .agg [.s w0]:=by rw[hw];rfl
 simp only[mQ,eD,uI,kf,cG.pv,br,bK,eu];have n1:=qA st ud [m,o] oO oC (by simp) (by simp) (by intro s hs;simp at hs;rcases hs with rfl|rfl<;>omega)
 simp only[br,bK]at n1;have n2:=qA (gJ st ud [m,o]) Ax vs (by rw[fq];decide) oC v0 oO (fun x hx=>by have:=hv x hx;omega)
 have l2:=fq (gJ st ud [m,o]) Ax vs;refine eW call157 func157 ?_;repeat' first|simp only[go_sem,seval]|(refine ai ?_)|refine oE ?_|apply xX<;>intro hc
 refine dH (aN @g0 (hpos oT)) ?_;have hro:[AV.v (PV.s w0)]=bj PV.s (vs.take 1):=by rw[hw];rfl
 rw[hro];refine af (α:=Nat) (fun j=>vs.length-j) (fun j=>⟨[(0, .v (.s st)),(3, .p 1000 0 0),(5, .rs 1019 0 0 2 1),(6, .rs 1037 j 0 (1+j) 1),(31, .v (.sl (vs.map cl))),(32,E' vs.length),(33,E' (j+1))],[(1000,⟨0,[.v (.sl [.agg [.s m, .s o]]), .v (.sl (vs.map cl)), .v (.sl (es.map da.pv))],false,none⟩),(1019,⟨0,[.v (.s m), .v (.s o)],true,some 22⟩),(1037,⟨j,bj PV.s (vs.take (j+1)),true,some 22⟩)],1041⟩) (fun j=>j+1<=vs.length) 0 (fun _=>bZ rfl) oO ?_ ?_
 ·refine lG ?_;all_goals exact fun c hc=>cR hc
 ·intro j hj R hR;have hlr:(vs.take (j+1)).length=1+j:=by rw[bV];omega
  have q0:(bj PV.s (vs.take (j+1))).length=1+j:=by rw[cz dY.s,hlr,dN]
  have q1:List.take (1+j) (bj PV.s (vs.take (j+1)))=bj PV.s (vs.take (j+1)):=cb oO
  by_cases hjt:j+1<vs.length
  ·have e2:=getD_map cl vs ([]:Bytes) hjt;have hgo:=hR (j+1) oO oO;rw[aQ ([]:Bytes) hjt,cf]at hgo;generalize vs.getD (j+1) []=y at e2 hgo;have e2:(vs.map cl).getD (j+1) .fn0= .agg [.s y]:=e2;have e3: ∀ _:True,((j:Int)+1).toNat=j+1:=fun _=>oO
   clear hR hlr n1 n2;refine dH (aN @q0 (aN @q1 (aN @e2 (e3 oT)))) ?_;refine hgo _ ?_
   (refine AS.Le.of (by first|decide|omega) ?_ ?_<;>simp[dy,dx,aO,az,AV.bd,AV.bd.bdL,u8,ar,ax,aA])
   all_goals first|omega|exact⟨rfl,fun c hc=>by rcases hc with hc|⟨a,ha,rfl⟩;exact cR hc;rfl⟩|skip
  ·have hj2:j+1=vs.length:=oO;rw[hj2,ct]at hlr q0 q1⊢;clear hR hpos g0 hro;repeat' first|simp only[go_sem,seval,q0,q1]|refine cV n1 ?_|(refine Em (l:=vs) (g:=PV.s) (ver:=j) (gr:=true) (el:=some 22) n2 dY.s rfl (by simp[az]) hlr.symm ?_)|refine oE ?_|apply xX<;>intro hc
   generalize gJ (gJ st ud [m,o]) Ax vs=s0 at l2⊢;clear n1 n2;refine af (α:=Nat) (fun i=>es.length-i) (fun i=>⟨[(0, .v (.s ((es.take i).foldl rC s0))),(50, .v (.sl (es.map da.pv))),(51,E' es.length),(52,E' i)],[],_⟩) (fun i=>i<=es.length) 0 (fun _=>ay _) (aJ _) ?_ ?_
   ·(refine AS.Le.of (by first|decide|omega) ?_ ?_<;>simp[dy,dx,aO,az,AV.bd,AV.bd.bdL,u8,ar,ax,aA])
    all_goals rfl
   ·intro i hi R hR
    by_cases hit:i<es.length
    ·have e2:=getD_map da.pv es gF hit;have hgo:=hR (i+1) oO oO;rw[oZ rC s0 gF hit]at hgo;obtain⟨g1,g2,g3,nt,ht⟩:=hq _ (aq gF hit);have hX:=rV (l:=es.take i) l2;generalize (es.take i).foldl rC s0=X at hgo hX⊢;generalize es.getD i gF=q at*;obtain⟨mT,tgt,ts⟩:=q;simp only at g1 g2 g3 nt ht;obtain⟨n,rfl⟩: ∃n:Nat,mT=(n:Int):=⟨mT.toNat,oO⟩;have e2:(es.map da.pv).getD i .fn0= .agg [.i .i64 (n:Int), .s tgt, .sl (ts.map eF.pv)]:=e2;simp only[rC,Int.toNat_natCast]at hgo;have ln:=ow n;have l4:(ts.map eF.pv).length=ts.length:=aB ..;have c1:=Cw n oO;have c2:=xS X Dr (iq n) oO oC oO;have c3:=qA (fI X Dr (iq n)) HB [tgt] (by rw[jM];decide) oC (by simp) (by simp) (by simp;omega)
     have lS:=fq (fI X Dr (iq n)) HB [tgt];generalize gJ (fI X Dr (iq n)) HB [tgt]=S0 at*;simp only[br,bK]at c3;clear hR hq;refine uV (aN @e2 @l4) @c1 @c2 @c3 oT ?_;refine af (α:=Nat) (fun k=>ts.length-k) (fun k=>⟨[(0, .v (.s ((ts.take k).foldl rD S0))),(50, .v (.sl (es.map da.pv))),(51,E' es.length),(52,E' i),(67, .v (.sl (ts.map eF.pv))),(68,E' ts.length),(69,E' k)],[],_⟩) (fun k=>k<=ts.length) 0 (fun _=>ay _) (aJ _) ?_ ?_
     ·(refine AS.Le.of (by first|decide|omega) ?_ ?_<;>simp[dy,dx,aO,az,AV.bd,AV.bd.bdL,u8,ar,ax,aA])
      all_goals rfl
     ·clear c1 c2 c3 e2;intro k hk R' hR'
      by_cases hkt:k<ts.length
      ·have e3:=getD_map eF.pv ts eR hkt;have hgo':=hR' (k+1) oO oO;rw[oZ rD S0 eR hkt]at hgo';obtain⟨v1,v2,lb,la⟩:=ht _ (aq eR hkt);have hY:=rW (l:=ts.take k) lS;generalize (ts.take k).foldl rD S0=Y at hgo' hY⊢;generalize ts.getD k eR=t at*;obtain⟨base,vr,ng,ab⟩:=t;simp only at v1 v2 lb la;obtain⟨v,rfl⟩: ∃v:Nat,vr=(v:Int):=⟨vr.toNat,oO⟩;have e3:(ts.map eF.pv).getD k .fn0= .agg [.s base, .i .i64 (v:Int), .b ng, .s ab]:=e3;simp only[rD,Int.toNat_natCast]at hgo';have lv:=ow v;have c4:=Cw v oO;have c5:=xS Y HC (iq v) oO oC oO;have c6:=qA (fI Y HC (iq v)) FM [base] (by rw[jM];decide) oC (by simp) (by simp) (by simp;omega)
       have c7:=O6 (gJ (fI Y HC (iq v)) FM [base]) OK ng ab (by rw[fq];decide) oC oO
       simp only[br,bK]at c6;clear hR' hgo;refine wI (aN @e3 @l4) @c4 @c5 @c6 @c7 ?_;refine hgo' _ ?_
       (refine AS.Le.of (by first|decide|omega) ?_ ?_<;>simp[dy,dx,aO,az,AV.bd,AV.bd.bdL,u8,ar,ax,aA])
       all_goals first|omega|skip
      ·have h:k=ts.length:=oO;rw[h,ct];refine dH @l4 ?_;refine hgo _ ?_
       (refine AS.Le.of (by first|decide|omega) ?_ ?_<;>simp[dy,dx,aO,az,AV.bd,AV.bd.bdL,u8,ar,ax,aA])
       all_goals first|omega|skip
    ·have h:i=es.length:=oO;rw[h,ct];exact z0
theorem wS {s:cG} (hp:BD c sl s):aD 69 [.agg [.s c, .s sl],s.pv,C0] (.tup [X0 c sl s,E 0]):=by
 have hb:=FN hp;obtain⟨gs,vs,es⟩:=s;simp only[cG.pv,X0]at hb⊢;refine eW call69 func69 ?_;exact z2 @hb @H8
theorem yT {s:cG}:(mQ st s).length=32:=by
 unfold mQ;exact rV (fq _ _ _)
theorem yZ (hr:sR c sl) {s:cG} (hb:SZ s) {ctx:Bytes} (hx:ctx.length<=100000) {fs:List Bytes} (f0:fs≠[]) (fn:fs.length<=900) (fl: ∀x∈fs,x.length<=100000):
  aD 73 [X0 c sl s, .s ctx, .sl (fs.map .s), .sl []] (.tup [N (iQ (Bj ctx s fs) c),E 0]):=by
 have c0:c≠[]:=by
  intro h;have:=hr.c2;rw[h]at this;exact aW this oC
 have n1:=SF sA oC;have n2:=xS (mq sA) wu ctx (by rw[Ct];decide) oC hx
 have n3:=WR (st:=fI (mq sA) wu ctx) (by rw[jM];decide) hb
 have n4:=xS (mQ (fI (mq sA) wu ctx) s) HA [] (by rw[yT];decide) oC oC
 have n5:=qA (fI (mQ (fI (mq sA) wu ctx) s) HA []) OL fs (by rw[jM];decide) oC f0 fn fl
 have n6:=Bx (Bj ctx s fs) c (by rw[Bj,fq];decide) hr.vc c0 hr.lc
 have n5:aD 159 [.s (fI (mQ (fI (mq sA) wu ctx) s) HA []), .s OL, .sl (fs.map .s)] (.s (Bj ctx s fs)):=n5;generalize Bj ctx s fs=st5 at*;generalize mQ (fI (mq sA) wu ctx) s=st3 at*;obtain⟨gq,vs,es⟩:=s;simp only[X0,cG.pv]at n3⊢;refine eW call73 func73 ?_;repeat' first|simp only[go_sem,seval]|refine cP n1 ?_|refine cP n2 ?_|refine cP n3 ?_|refine cP n4 ?_|refine cP n5 ?_|refine cP n6 ?_|refine cP UY ?_|(refine ai ?_)|refine oE ?_|apply xX<;>intro hc
theorem YV (b:Bytes):aD 142 [cl b] (.s (if b=[]then([]:Bytes)else b)):=by
 have h:=SP b;split
 ·rename_i g;subst g;exact h
 ·exact h
theorem YW (m:Bytes) (h:o≠[]):aD 143 [.sl [G m o], .fn (.func 144)] (E 0):=by
 have hb:(o !=([]:Bytes))=true:=by simpa using h
 have hb2:(o==([]:Bytes))=false:=by simpa using h
 have h:aD 144 [G m o] (.b true):=by
  refine eW call144 func144 ?_;exact gn (aN @hb @hb2)
 refine eW call143 func143 ?_;refine pU ?_;refine ai ?_;exact z1 @h
theorem YX (b o:Bytes):aD 145 [cl b, .pt (.agg [.s o]) 0] (.s (if b=[]then o else b)):=by
 unfold cl
 by_cases h:b=[]
 ·subst h;refine eW call145 func145 ?_;exact gn @nn
 ·have hb:(b==([]:Bytes))=false:=by simpa using h
  rw[ae h];refine eW call145 func145 ?_;exact gn @hb
noncomputable def AL (s:cG) (w:List Int) (vs:List Bytes) (a:Int):Int:=if !e9 vs a then 3 else if w.length≠s.vars.length then 6 else if !tw (bA s.groups) s.vars w then 2 else if !CZ s w then 18 else 0
theorem Pg {s:cG} (hs:xf s) {m o:Bytes} (hg1:s.groups=[(m,o)]) {w:List Int} (hw6:w.length<1000000) (hw: ∀x∈w,x.natAbs<cW) (hW:tw (bA s.groups) s.vars w=true->WS s w) {vs:List Bytes} (sd:Bytes) {a:Int} (hl:vs.length<1000000):aD 70 [X0 c sl s, .sl (w.map Zp), .sl [],T vs sd a] (E (AL s w vs a)):=by
 have v1:=gD (w.map gW) _ _ (by rw[aB];omega) SN
 rw[nu,mz hw,P7]at v1;have v2:=om [] 141 [.pt (.agg [.fn (.func 137)]) 0] (fun _=>true) oC (fun x hx=>by cases hx)
 rw[show(([]:List (List (Bool×Bytes))).any fun _=>true)=false from rfl]at v2
 have v3:=H5 sd (a:=a) hl;have nv:=hs.nv;have hb:=hs.v;have hh:=fun h=>Kj hs (w:=w) h hw hW
 have hoV:=dc hs.g;have hnb: ∀b∈s.vars,bA s.groups=[]->b≠[]:=fun b h1 h2 h3=>tx hs (h3▸h1) h2
 obtain⟨gs,us,es⟩:=s;simp only at hg1 nv hb hh hoV hnb;subst hg1;have l2:(us.map cl).length=us.length:=aB ..;have l5:(w.map Zp).length=w.length:=aB ..;have ho:bA [(m,o)]=o:=by
  by_cases h:o=[]
  ·subst h;rfl
  ·simp[bA,h]
 rw[ho]at hh hoV hnb;unfold AL;simp only[ho,X0,cG.pv,br,bK,eu]at hh v2⊢;clear hs hW
 cases hg:e9 vs a with
 |false=>
  rw[hg]at v3;simp only[ca,bQ,au];refine eW call70 func70 ?_;repeat' first|simp only[go_sem,seval,aV]|refine cP v1 ?_|refine cV v2 ?_|refine cP v3 ?_|refine cP sQ ?_|refine oE ?_|apply xX<;>intro hc
  all_goals rfl
 |true=>
  rw[hg]at v3;simp only[bQ,bm,an]
  by_cases hwl:w.length=us.length
  ·rw[ae (by simpa using hwl)]
   have hh:=hh hwl;have hI: ∀ _:True,((w.length:Int) !=us.length)=false:=fun _=>by rw[hwl];simp
   by_cases ho0:o=[]
   ·have v4:=SQ m;subst ho0;refine eW call70 func70 ?_;repeat' first|simp only[go_sem,seval,aV,l2,l5,hI oT]|refine cP v1 ?_|refine cV v2 ?_|refine cP v3 ?_|refine cP sQ ?_|refine cP v4 ?_|refine oE ?_|apply xX<;>intro hc
    refine af (α:=Nat) (fun i=>us.length-i) (fun i=>⟨[(1, .v (.sl (w.map Zp))),(2, .v (.sl [])),(4, .p 1000 0 0),(13, .v (.fn (.func 142))),(76, .v (.sl (us.map cl))),(77,E' us.length),(78,E' i)],[(1000,⟨0,[.v (.s c), .v (.s sl), .v (.sl [G m []]), .v (.sl (us.map cl)), .v (.sl (es.map da.pv)), .v (.sl []), .v (.sl []), .v (.s [])],false,none⟩)],_⟩) (fun i=>i<=us.length/\ ∀j,j<i->fU (us.getD j []) (w.getD j 0) (dS [] (us.getD j []))=true) 0 (fun _=>ay _) ⟨aJ _,fun j hj=>oO⟩ ?_ ?_
    ·exact lE
    ·rintro i ⟨hi,hlts⟩ R hR;clear v1 v2 v3
     by_cases hlt:i<us.length
     ·have e1:=getD_map cl us [] hlt;have e2:=getD_map Zp w 0 (i:=i) oO;have kb:=hb _ (aq [] hlt);have kw:=hw _ (aq 0 (show i<w.length by omega))
      have hv0:=hnb _ (aq [] hlt);have hgo:=fun h=>hR (i+1) ⟨oO,h⟩ oO
      have hbad:=fun h: ¬fU (us.getD i []) (w.getD i 0) (dS [] (us.getD i []))=true=>kY (p:=fun i=>fU (us.getD i []) (w.getD i 0) (dS [] (us.getD i []))) hlt (fy.2 h)
      have hnx:fU (us.getD i []) (w.getD i 0) (dS [] (us.getD i []))=true-> ∀j,j<i+1->fU (us.getD j []) (w.getD j 0) (dS [] (us.getD j []))=true:=fun h j hj=>by
       by_cases hji:j<i
       ·exact hlts j hji
       ·obtain rfl:j=i:=oO;exact h
      rw[<-tw]at hbad;clear hR hlts hh;generalize us.getD i []=b at*;generalize w.getD i 0=x at*;have hz:=o8 kw;simp only[gW,cJ,aZ]at hz;have hc:=rG hz.1 (show aa (if b=[]then[]else b)=true by split;exact hoV.1;exact kb.1)
      have hbl:num (if b=[]then[]else b)=dS [] b:=by unfold dS;split<;>rfl
      rw[vQ,hbl]at hc;have h3:=YV b;have hd:decide (ba x.natAbs (dS [] b)>=0)= !decide (x.natAbs<dS [] b):=Kc _ _;have hzs:zs x=decide (x<0):=rfl;simp only[cl]at e1 h3;simp only[Zp,dI,gW]at e2;unfold fU at hbad hnx;clear hbl kb kw hz;generalize ba x.natAbs (dS [] b)=cm at*;generalize decide (x.natAbs<dS [] b)=p at*;generalize decide (x<0)=q at*;generalize (if b=[]then[]else b)=y at*
      have hbb:(b==[])=decide (b=[]):=by rw[dK,eT,cq]
      generalize decide (b=[])=b0 at*;cases p
      ·rw[hbad (by simp)]
       simp only[ca,au];repeat' first|simp only[go_sem,seval,aV,l2,l5,e1,e2,hbb,hd,hzs]|refine cP h3 ?_|refine cV h3 ?_|refine cP hc ?_|refine oE ?_|apply xX<;>intro hc
       all_goals rfl
      ·cases b0
       ·have hgo:=hgo (hnx (by simp))
        repeat' first|simp only[go_sem,seval,aV,l2,l5,e1,e2,hbb,hd,hzs]|refine cP h3 ?_|refine cV h3 ?_|refine cP hc ?_|refine oE ?_|apply xX<;>intro hc
        refine hgo _ ?_;exact lE
       ·cases q
        ·have hgo:=hgo (hnx (by simp))
         repeat' first|simp only[go_sem,seval,aV,l2,l5,e1,e2,hbb,hd,hzs]|refine cP h3 ?_|refine cV h3 ?_|refine cP hc ?_|refine oE ?_|apply xX<;>intro hc
         refine hgo _ ?_;exact lE
        ·rw[hbad (by simp)]
         simp only[ca,au];repeat' first|simp only[go_sem,seval,aV,l2,l5,e1,e2,hbb,hd,hzs]|refine cP h3 ?_|refine cV h3 ?_|refine cP hc ?_|refine oE ?_|apply xX<;>intro hc
         all_goals rfl
     ·obtain rfl:i=us.length:=oO;have hg:tw [] us w=true:=lO fun j hj=>hlts j hj
      rw[hg,cj]at hh;rw[hg];simp only[bQ,bm,an];clear hR hlts hb;generalize CZ ⟨[(m,[])],us,es⟩ w=b at*;cases b
      ·exact Pz @hh @yO
      ·exact Pz @hh @yO
   ·have v4:=YW m ho0;refine eW call70 func70 ?_;repeat' first|simp only[go_sem,seval,aV,l2,l5,hI oT]|refine cP v1 ?_|refine cV v2 ?_|refine cP v3 ?_|refine cP sQ ?_|refine cP v4 ?_|refine oE ?_|apply xX<;>intro hc
    refine af (α:=Nat) (fun i=>us.length-i) (fun i=>⟨[(1, .v (.sl (w.map Zp))),(2, .v (.sl [])),(4, .p 1000 0 0),(13, .fn (.func 145) [] [.p 1057 0 0]),(76, .v (.sl (us.map cl))),(77,E' us.length),(78,E' i)],[(1000,⟨0,[.v (.s c), .v (.s sl), .v (.sl [G m o]), .v (.sl (us.map cl)), .v (.sl (es.map da.pv)), .v (.sl []), .v (.sl []), .v (.s [])],false,none⟩),(1057,⟨0,[.v (.s o)],false,some 22⟩)],_⟩) (fun i=>i<=us.length/\ ∀j,j<i->fU (us.getD j []) (w.getD j 0) (dS o (us.getD j []))=true) 0 (fun _=>ay _) ⟨aJ _,fun j hj=>oO⟩ ?_ ?_
    ·exact lE
    ·rintro i ⟨hi,hlts⟩ R hR;clear v1 v2 v3
     by_cases hlt:i<us.length
     ·have e1:=getD_map cl us [] hlt;have e2:=getD_map Zp w 0 (i:=i) oO;have kb:=hb _ (aq [] hlt);have kw:=hw _ (aq 0 (show i<w.length by omega))
      have hv0:=hnb _ (aq [] hlt);have hgo:=fun h=>hR (i+1) ⟨oO,h⟩ oO
      have hbad:=fun h: ¬fU (us.getD i []) (w.getD i 0) (dS o (us.getD i []))=true=>kY (p:=fun i=>fU (us.getD i []) (w.getD i 0) (dS o (us.getD i []))) hlt (fy.2 h)
      have hnx:fU (us.getD i []) (w.getD i 0) (dS o (us.getD i []))=true-> ∀j,j<i+1->fU (us.getD j []) (w.getD j 0) (dS o (us.getD j []))=true:=fun h j hj=>by
       by_cases hji:j<i
       ·exact hlts j hji
       ·obtain rfl:j=i:=oO;exact h
      rw[<-tw]at hbad;clear hR hlts hh;generalize us.getD i []=b at*;generalize w.getD i 0=x at*;have hz:=o8 kw;simp only[gW,cJ,aZ]at hz;have hc:=rG hz.1 (show aa (if b=[]then o else b)=true by split;exact hoV.1;exact kb.1)
      have hbl:num (if b=[]then o else b)=dS o b:=by unfold dS;split<;>rfl
      rw[vQ,hbl]at hc;have h3:=YX b o;have hd:decide (ba x.natAbs (dS o b)>=0)= !decide (x.natAbs<dS o b):=Kc _ _;have hzs:zs x=decide (x<0):=rfl;simp only[cl]at e1 h3;simp only[Zp,dI,gW]at e2;unfold fU at hbad hnx;clear hbl kb kw hz;generalize ba x.natAbs (dS o b)=cm at*;generalize decide (x.natAbs<dS o b)=p at*;generalize decide (x<0)=q at*;generalize (if b=[]then o else b)=y at*
      have hbb:(b==[])=decide (b=[]):=by rw[dK,eT,cq]
      generalize decide (b=[])=b0 at*;cases p
      ·rw[hbad (by simp)]
       simp only[ca,au];repeat' first|simp only[go_sem,seval,aV,l2,l5,e1,e2,hbb,hd,hzs]|refine cP h3 ?_|refine cV h3 ?_|refine cP hc ?_|refine oE ?_|apply xX<;>intro hc
       all_goals rfl
      ·cases b0
       ·have hgo:=hgo (hnx (by simp))
        repeat' first|simp only[go_sem,seval,aV,l2,l5,e1,e2,hbb,hd,hzs]|refine cP h3 ?_|refine cV h3 ?_|refine cP hc ?_|refine oE ?_|apply xX<;>intro hc
        refine hgo _ ?_;exact lE
       ·cases q
        ·have hgo:=hgo (hnx (by simp))
         repeat' first|simp only[go_sem,seval,aV,l2,l5,e1,e2,hbb,hd,hzs]|refine cP h3 ?_|refine cV h3 ?_|refine cP hc ?_|refine oE ?_|apply xX<;>intro hc
         refine hgo _ ?_;exact lE
        ·rw[hbad (by simp)]
         simp only[ca,au];repeat' first|simp only[go_sem,seval,aV,l2,l5,e1,e2,hbb,hd,hzs]|refine cP h3 ?_|refine cV h3 ?_|refine cP hc ?_|refine oE ?_|apply xX<;>intro hc
         all_goals rfl
     ·obtain rfl:i=us.length:=oO;have hg:tw o us w=true:=lO fun j hj=>hlts j hj
      rw[hg,cj]at hh;rw[hg];simp only[bQ,bm,an];clear hR hlts hb;generalize CZ ⟨[(m,o)],us,es⟩ w=b at*;cases b
      ·exact Pz @hh @yO
      ·exact Pz @hh @yO
  ·rw[ah hwl];have e6:((w.length:Int) !=us.length)=true:=by rw[uT];omega
   refine eW call70 func70 ?_;repeat' first|simp only[go_sem,seval,aV,l2,l5,e6]|refine cP v1 ?_|refine cV v2 ?_|refine cP v3 ?_|refine cP sQ ?_|refine oE ?_|apply xX<;>intro hc
   all_goals rfl
