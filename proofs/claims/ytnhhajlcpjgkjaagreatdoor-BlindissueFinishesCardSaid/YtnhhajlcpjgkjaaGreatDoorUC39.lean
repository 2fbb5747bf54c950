/- Part of the proof. -/
import Derived.Test.YtnhhajlcpjgkjaaGreatDoorUC38
set_option linter.all false
set_option maxHeartbeats 16000000
set_option maxRecDepth 100000
namespace Go.Proofs.Tryz
open Go Go.Dom Go.Num
variable {b c o sl st:Bytes} {ch i:Nat}
def iz (o b:Bytes) (m w:Int) (c:Nat):Int:=if b=[]then(m+c*w)%num o else m+c*w
def fA (o:Bytes) (us:List Bytes) (ms w:List Int) (c:Nat):List Int:=(List.range us.length).map fun i=>iz o (us.getD i []) (ms.getD i 0) (w.getD i 0) c
theorem sS (o:Bytes) (us:List Bytes) (ms w:List Int) (c:Nat):(fA o us ms w c).length=us.length:=by simp[fA]
theorem yV {us:List Bytes} {ms w:List Int} {c:Nat} (h:i<us.length):(fA o us ms w c).getD i 0=iz o (us.getD i []) (ms.getD i 0) (w.getD i 0) c:=by
 simp[fA,ca,h]
def BP (o c sl:Bytes) (us:List Bytes) (rs:List Int):Bool:=(List.range us.length).all fun i=>jc (us.getD i []) (rs.getD i 0) (lR o c sl (us.getD i []))
def GJ (o c sl:Bytes) (us:List Bytes) (rs:List Int):PV:=if BP o c sl us rs then .tup [.sl (rs.map Zp),E 0]else .tup [.sl [],E 15]
theorem Ee (hr:si c sl) (lo:o.length<=8) (lb:b.length<=16):lR o c sl b<dC:=by
 unfold lR;split
 ·exact HZ lo
 ·exact P3 hr lb
theorem Is {m w:Int} (hol:num o<dC) (h64:num o<(2^64)) (h0:0<num o) (h:b=[]) (hx:m.natAbs+((ch:Int)*w).natAbs+(2^64)<dC):
  jc b (iz o b m w ch) (lR o c sl b)=true/\ ∃k:Nat,aE 343 [Z ((ch:Int)*w),N (lM o c sl b)] (.tup [N k,E 0])/\aE 38 [N k] (Z k)/\aE 304 [Z m,Z k] (.tup [Z (m+k),E 0])/\ ∃k2:Nat,aE 343 [Z (m+k),N (lM o c sl b)] (.tup [N k2,E 0])/\aE 38 [N k2] (Z (iz o b m w ch)):=by
 subst h;have g1:=lC ((ch:Int)*w) (b:=num o) oO;have g2:=oW ((ch:Int)*w) (b:=num o) oO;have g3:=lC (m+ch*w) (b:=num o) oO;have g4:=oW (m+ch*w) (b:=num o) oO;simp only[lM,lR,iz,az];refine⟨?_,((ch:Int)*w%num o).toNat,RL oO hol h0,Ac oO,Eb oO,((m+ch*w)%num o).toNat,?_,?_⟩
 ·simp only[jc,ba,bM,decide_true,cj,dW,lD];omega
 ·have:=RL (x:=m+(((ch:Int)*w%num o).toNat:Int)) (m:=num o) oO hol h0;rw[oN g1,Int.add_emod_emod]at this;rw[oN g1];exact this
 ·have:=Ac (n:=((m+ch*w)%num o).toNat) oO
  rwa[oN g3]at this
theorem Nr {s:cK} (hp:uV c sl s) {w ms:List Int} (hwl:w.length=s.vars.length) (hml:ms.length=s.vars.length) (hch:ch<dM) (hI: ∀i,i<s.vars.length->(w.getD i 0).natAbs<dM/\(ms.getD i 0).natAbs+((ch:Int)*w.getD i 0).natAbs+(2^64)<dC):
  aE 213 [s.pv, .sl (s.vars.map (lP (bK s.groups) c sl)), .sl (w.map Zp), .sl (ms.map Zp),N ch] (GJ (bK s.groups) c sl s.vars (fA (bK s.groups) s.vars ms w ch)):=by
 have hb:=hp.g.v;have nv:=hp.g.nv;have hr:=hp.r;have hov:=eF hp.g.g;have lo:=hov.2;have ho:[]∈s.vars->0<num (bK s.groups):=fun h=>Nat.pos_of_ne_zero (Ga hov.1 (BW hp.g h))
 obtain⟨gs,us,es⟩:=s;simp only at hb nv hwl hml hI lo ho⊢;clear hp hov;generalize bK gs=o at*;have h64:=dO lo;have hol:=HZ lo;have l2:(us.map cO).length=us.length:=aL ..;have l3:(us.map (lP o c sl)).length=us.length:=aL ..;have l4:(w.map Zp).length=us.length:=by rw[aL];exact hwl
 have l5:(ms.map Zp).length=us.length:=by rw[aL];exact hml
 have hF:=Ac (n:=ch) (b9 hch zY);have hrl:=sS o us ms w ch;have rS: ∀{j:Nat},j<us.length->aX Zp ((fA o us ms w ch).take (j+1))=aX Zp ((fA o us ms w ch).take j)++[.v (.b (zs ((fA o us ms w ch).getD j 0))), .v (.s (zb ((fA o us ms w ch).getD j 0)))]:=fun h=>by
  rw[aQ 0 oO,IK]
 unfold cK.pv;simp only
 by_cases hpos:0<us.length
 rotate_left
 ·obtain rfl:us=[]:=fg.1 oO;refine eW call213 func213 ?_;exact On
 refine eW call213 func213 ?_;refine dY @l2 ?_;refine aj ?_;have e1:=getD_map cO us [] hpos;have e2:=getD_map (lP o c sl) us [] hpos;have e3:=getD_map Zp w 0 (i:=0) oO;have e4:=getD_map Zp ms 0 (i:=0) oO;have kb:=hb _ (aC [] hpos);have hk:=oK (us.getD 0 []);have hx:=hI 0 hpos;have hp:=Mf (x:=(ch:Int)) (y:=w.getD 0 0) (by simpa using hch) hx.1
 have hgr:=yV (o:=o) (ms:=ms) (w:=w) (c:=ch) hpos;have hgk: ∀k,k<0+1->(∀q,q<0->jc (us.getD q []) ((fA o us ms w ch).getD q 0) (lR o c sl (us.getD q []))=true)->jc (us.getD 0 []) ((fA o us ms w ch).getD 0 0) (lR o c sl (us.getD 0 []))=true->jc (us.getD k []) ((fA o us ms w ch).getD k 0) (lR o c sl (us.getD k []))=true:=fun k hk h1 h2=>by
  by_cases hkj:k<0
  ·exact h1 k hkj
  ·obtain rfl:k=0:=oO;exact h2
 rw[hgr]at hgk;have hbad:=fun h: ¬jc (us.getD 0 []) ((fA o us ms w ch).getD 0 0) (lR o c sl (us.getD 0 []))=true=>qa (p:=fun i=>jc (us.getD i []) ((fA o us ms w ch).getD i 0) (lR o c sl (us.getD i []))) hpos (dy.2 h)
 rw[<-BP,hgr]at hbad;have r1:=rS hpos;rw[hgr]at r1;have hcs:(us.getD 0 []≠[]/\jc (us.getD 0 []) (iz o (us.getD 0 []) (ms.getD 0 0) (w.getD 0 0) ch) (lR o c sl (us.getD 0 []))=false/\aE 304 [Z (ms.getD 0 0),Z ((ch:Int)*w.getD 0 0)] (.tup [Z (iz o (us.getD 0 []) (ms.getD 0 0) (w.getD 0 0) ch),E 0])/\aE 212 [cO (us.getD 0 []),Zp (iz o (us.getD 0 []) (ms.getD 0 0) (w.getD 0 0) ch),N (lR o c sl (us.getD 0 []))] (.b false))\/
   (us.getD 0 []=[]/\jc (us.getD 0 []) (iz o (us.getD 0 []) (ms.getD 0 0) (w.getD 0 0) ch) (lR o c sl (us.getD 0 []))=true/\ ∃k:Nat,aE 343 [Z ((ch:Int)*w.getD 0 0),N (lM o c sl (us.getD 0 []))] (.tup [N k,E 0])/\aE 38 [N k] (Z k)/\aE 304 [Z (ms.getD 0 0),Z k] (.tup [Z (ms.getD 0 0+k),E 0])/\ ∃k2:Nat,aE 343 [Z (ms.getD 0 0+k),N (lM o c sl (us.getD 0 []))] (.tup [N k2,E 0])/\aE 38 [N k2] (Z (iz o (us.getD 0 []) (ms.getD 0 0) (w.getD 0 0) ch)))\/
   (us.getD 0 []≠[]/\jc (us.getD 0 []) (iz o (us.getD 0 []) (ms.getD 0 0) (w.getD 0 0) ch) (lR o c sl (us.getD 0 []))=true/\aE 304 [Z (ms.getD 0 0),Z ((ch:Int)*w.getD 0 0)] (.tup [Z (iz o (us.getD 0 []) (ms.getD 0 0) (w.getD 0 0) ch),E 0])/\aE 212 [cO (us.getD 0 []),Zp (iz o (us.getD 0 []) (ms.getD 0 0) (w.getD 0 0) ch),N (lR o c sl (us.getD 0 []))] (.b true)):=by
  by_cases h:us.getD 0 []=[]
  ·exact .inr (.inl ⟨h,Is hol h64 (ho (by rw[<-h];exact aC [] hpos)) h hx.2⟩)
  ·have h1:aE 304 [Z (ms.getD 0 0),Z ((ch:Int)*w.getD 0 0)] (.tup [Z (iz o (us.getD 0 []) (ms.getD 0 0) (w.getD 0 0) ch),E 0]):=by
    rw[iz,af h];exact Eb oO
   have h2:=wu (us.getD 0 []) (x:=iz o (us.getD 0 []) (ms.getD 0 0) (w.getD 0 0) ch) (L:=lR o c sl (us.getD 0 [])) (by rw[iz,af h];have:=Int.natAbs_add_le (ms.getD 0 0) (ch*w.getD 0 0);omega) (Ee hr lo kb.2)
   cases hin:jc (us.getD 0 []) (iz o (us.getD 0 []) (ms.getD 0 0) (w.getD 0 0) ch) (lR o c sl (us.getD 0 []))
   ·rw[hin]at h2;exact .inl ⟨h,rfl,h1,h2⟩
   ·rw[hin]at h2;exact .inr (.inr ⟨h,rfl,h1,h2⟩)
 clear hx kb;generalize iz o (us.getD 0 []) (ms.getD 0 0) (w.getD 0 0) ch=z at*;generalize hu0:us.getD 0 []=u at*;simp only[cO]at e1 hk hcs;simp only[lP]at e2;generalize lM o c sl u=M at*;generalize lR o c sl u=Rr at*;simp only[Zp,cU,je]at e3 e4 hcs;rcases hcs with⟨hu,hgd,m1,m2⟩|⟨hu,hgd,k,m1,m2,m3,k2,m4,m5⟩|⟨hu,hgd,m1,m2⟩
 ·rw[af hu]at hk;rw[GJ,hbad (by simp[hgd])]
  exact VX (aN @l2 (aN @l3 (aN @l4 (aN @l5 (aN @e1 (aN @e2 (aN @e3 @e4))))))) @hk @hF @hp @m1 @m2 oT oT
 all_goals
  first|rw[ah hu]at hk|rw[af hu]at hk
  repeat' first|simp only[go_sem,seval,l2,l3,l4,l5,e1,e2,e3,e4]|refine cP hk ?_|refine cP hF ?_|refine cP hp ?_|refine cP m1 ?_|refine cP m2 ?_|refine cP m3 ?_|refine cP m4 ?_|refine cP m5 ?_|refine oE ?_|apply xX<;>intro hc
  obtain⟨nm,hnm⟩: ∃nm,nm=(if u=[]then 1074 else 1059):=⟨_,rfl⟩
  first|rw[ah hu]at hnm|rw[af hu]at hnm
  refine ak (α:=Nat) (fun j=>us.length-(j+1)) (fun j=>⟨[(1, .v (.sl (us.map (lP o c sl)))),(2, .v (.sl (w.map Zp))),(3, .v (.sl (ms.map Zp))),(4, .v (N ch)),(5, .p 1000 0 0),(12, .rs nm j 0 (j+1) 2),(28, .v (.sl (us.map cO))),(29,E' us.length),(30,E' (j+1))],[(1000,⟨0,[.v (.sl (gs.map dS)), .v (.sl (us.map cO)), .v (.sl (es.map dr.pv))],false,none⟩),(nm,⟨j,aX Zp ((fA o us ms w ch).take (j+1)),true,some 94⟩)],nm+4⟩) (fun j=>j+1<=us.length/\ ∀k,k<j+1->jc (us.getD k []) ((fA o us ms w ch).getD k 0) (lR o c sl (us.getD k []))=true) 0 (fun _=>by show _<=nm+4;rw[hnm];exact dF rfl) ⟨hpos,fun k hk=>hgk k hk (fun j hj=>oO) hgd⟩ ?_ ?_<;>subst hnm
  ·rw[r1,List.take_zero,show aX Zp ([]:List Int)=[]from rfl,List.nil_append]
   exact lE
  ·clear e1 e2 e3 e4 hk hgr hbad r1 hgk hgd m1 m2 hu0 hp
   first|clear m3 m4 m5|skip
   rintro j ⟨hj,hall⟩ R hR;have hlm:((fA o us ms w ch).take (j+1)).length=j+1:=by rw[cf];omega
   have q1:=cF Fk ((fA o us ms w ch).take (j+1));have q2:=cR Fk ((fA o us ms w ch).take (j+1));rw[hlm]at q1 q2
   by_cases hlt:j+1<us.length
   ·have e1:=getD_map cO us [] hlt;have e2:=getD_map (lP o c sl) us [] hlt;have e3:=getD_map Zp w 0 (i:=(j+1)) oO;have e4:=getD_map Zp ms 0 (i:=(j+1)) oO;have kb:=hb _ (aC [] hlt);have hk:=oK (us.getD (j+1) []);have hx:=hI (j+1) hlt;have hp:=Mf (x:=(ch:Int)) (y:=w.getD (j+1) 0) (by simpa using hch) hx.1
    have hgr:=yV (o:=o) (ms:=ms) (w:=w) (c:=ch) hlt;have hgk: ∀k,k<(j+1)+1->(∀q,q<(j+1)->jc (us.getD q []) ((fA o us ms w ch).getD q 0) (lR o c sl (us.getD q []))=true)->jc (us.getD (j+1) []) ((fA o us ms w ch).getD (j+1) 0) (lR o c sl (us.getD (j+1) []))=true->jc (us.getD k []) ((fA o us ms w ch).getD k 0) (lR o c sl (us.getD k []))=true:=fun k hk h1 h2=>by
     by_cases hkj:k<(j+1)
     ·exact h1 k hkj
     ·obtain rfl:k=(j+1):=oO;exact h2
    rw[hgr]at hgk;have hbad:=fun h: ¬jc (us.getD (j+1) []) ((fA o us ms w ch).getD (j+1) 0) (lR o c sl (us.getD (j+1) []))=true=>qa (p:=fun i=>jc (us.getD i []) ((fA o us ms w ch).getD i 0) (lR o c sl (us.getD i []))) hlt (dy.2 h)
    rw[<-BP,hgr]at hbad;have r1:=rS hlt;rw[hgr]at r1;have hcs:(us.getD (j+1) []≠[]/\jc (us.getD (j+1) []) (iz o (us.getD (j+1) []) (ms.getD (j+1) 0) (w.getD (j+1) 0) ch) (lR o c sl (us.getD (j+1) []))=false/\aE 304 [Z (ms.getD (j+1) 0),Z ((ch:Int)*w.getD (j+1) 0)] (.tup [Z (iz o (us.getD (j+1) []) (ms.getD (j+1) 0) (w.getD (j+1) 0) ch),E 0])/\aE 212 [cO (us.getD (j+1) []),Zp (iz o (us.getD (j+1) []) (ms.getD (j+1) 0) (w.getD (j+1) 0) ch),N (lR o c sl (us.getD (j+1) []))] (.b false))\/
      (us.getD (j+1) []=[]/\jc (us.getD (j+1) []) (iz o (us.getD (j+1) []) (ms.getD (j+1) 0) (w.getD (j+1) 0) ch) (lR o c sl (us.getD (j+1) []))=true/\ ∃k:Nat,aE 343 [Z ((ch:Int)*w.getD (j+1) 0),N (lM o c sl (us.getD (j+1) []))] (.tup [N k,E 0])/\aE 38 [N k] (Z k)/\aE 304 [Z (ms.getD (j+1) 0),Z k] (.tup [Z (ms.getD (j+1) 0+k),E 0])/\ ∃k2:Nat,aE 343 [Z (ms.getD (j+1) 0+k),N (lM o c sl (us.getD (j+1) []))] (.tup [N k2,E 0])/\aE 38 [N k2] (Z (iz o (us.getD (j+1) []) (ms.getD (j+1) 0) (w.getD (j+1) 0) ch)))\/
      (us.getD (j+1) []≠[]/\jc (us.getD (j+1) []) (iz o (us.getD (j+1) []) (ms.getD (j+1) 0) (w.getD (j+1) 0) ch) (lR o c sl (us.getD (j+1) []))=true/\aE 304 [Z (ms.getD (j+1) 0),Z ((ch:Int)*w.getD (j+1) 0)] (.tup [Z (iz o (us.getD (j+1) []) (ms.getD (j+1) 0) (w.getD (j+1) 0) ch),E 0])/\aE 212 [cO (us.getD (j+1) []),Zp (iz o (us.getD (j+1) []) (ms.getD (j+1) 0) (w.getD (j+1) 0) ch),N (lR o c sl (us.getD (j+1) []))] (.b true)):=by
     by_cases h:us.getD (j+1) []=[]
     ·exact .inr (.inl ⟨h,Is hol h64 (ho (by rw[<-h];exact aC [] hlt)) h hx.2⟩)
     ·have h1:aE 304 [Z (ms.getD (j+1) 0),Z ((ch:Int)*w.getD (j+1) 0)] (.tup [Z (iz o (us.getD (j+1) []) (ms.getD (j+1) 0) (w.getD (j+1) 0) ch),E 0]):=by
       rw[iz,af h];exact Eb oO
      have h2:=wu (us.getD (j+1) []) (x:=iz o (us.getD (j+1) []) (ms.getD (j+1) 0) (w.getD (j+1) 0) ch) (L:=lR o c sl (us.getD (j+1) [])) (by rw[iz,af h];have:=Int.natAbs_add_le (ms.getD (j+1) 0) (ch*w.getD (j+1) 0);omega) (Ee hr lo kb.2)
      cases hin:jc (us.getD (j+1) []) (iz o (us.getD (j+1) []) (ms.getD (j+1) 0) (w.getD (j+1) 0) ch) (lR o c sl (us.getD (j+1) []))
      ·rw[hin]at h2;exact .inl ⟨h,rfl,h1,h2⟩
      ·rw[hin]at h2;exact .inr (.inr ⟨h,rfl,h1,h2⟩)
    clear hx kb;generalize iz o (us.getD (j+1) []) (ms.getD (j+1) 0) (w.getD (j+1) 0) ch=z at*;generalize hu0:us.getD (j+1) []=u at*;simp only[cO]at e1 hk hcs;simp only[lP]at e2;generalize lM o c sl u=M at*;generalize lR o c sl u=Rr at*;simp only[Zp,cU,je]at e3 e4 hcs;rcases hcs with⟨hu,hgd,m1,m2⟩|⟨hu,hgd,k,m1,m2,m3,k2,m4,m5⟩|⟨hu,hgd,m1,m2⟩
    ·rw[af hu]at hk;rw[GJ,hbad (by simp[hgd])]
     clear hR hall hgk;exact VX (aN @l2 (aN @l3 (aN @l4 (aN @l5 (aN @e1 (aN @e2 (aN @e3 (aN @e4 (aN @q1 @q2))))))))) @hk @hF @hp @m1 @m2 oT oT
    all_goals
     have hgo:=hR (j+1) ⟨oO,fun k hk=>hgk k hk hall hgd⟩ oO
     rw[r1]at hgo;clear hR hall hgk
     first|rw[ah hu]at hk|rw[af hu]at hk
     repeat' first|simp only[go_sem,seval,l2,l3,l4,l5,e1,e2,e3,e4,q1,q2]|refine cP hk ?_|refine cP hF ?_|refine cP hp ?_|refine cP m1 ?_|refine cP m2 ?_|refine cP m3 ?_|refine cP m4 ?_|refine cP m5 ?_|refine oE ?_|apply xX<;>intro hc
     refine hgo _ ?_;refine lG ?_;all_goals exact fun c hc=>by rcases hc with hc|rfl|rfl<;>first|exact cI hc|rfl
   ·have hjl:us.length=j+1:=oO;have hgood2:BP o c sl us (fA o us ms w ch)=true:=pD fun k hk=>hall k oO
    rw[GJ,hgood2];have hT:(fA o us ms w ch).take (j+1)=fA o us ms w ch:=c9 oO;rw[hT]at q1 q2⊢;have q3:=dU Fk (fA o us ms w ch);have q4:=dj Fk (fA o us ms w ch);rw[hrl,hjl]at q4;rw[hjl];clear hR;exact gU (aN @l2 (aN @hjl (aN @q1 (aN @q2 (aN @q3 (aN @q4 @eJ))))))
theorem Mu {w:List Int} {n:Nat} {P:Int->Prop} (hwl:w.length=n) (h: ∀i,i<n->P (w.getD i 0)): ∀x∈w,P x:=fun x hx=>by
 obtain⟨j,hj,rfl⟩:=gR hx;have:=h j oO
 rwa[ca,bZ hj]at this
theorem TT {us:List Bytes} {w:List Int} (h:BQ o us w=true) (hi:i<us.length):jc (us.getD i []) (w.getD i 0) (fG o (us.getD i []))=true:=bH.1 h i (fS.2 hi)
theorem Lm (lo:o.length<=8) (lb:b.length<=16):fG o b<=dM:=by
 unfold fG;split
 ·exact j3 (b9 (dO lo) s9)
 ·exact j3 (Ei lb)
theorem Fu {s:cK} (hp:uV c sl s) {w ms:List Int} (hwl:w.length=s.vars.length) (hml:ms.length=s.vars.length) (hch:ch<num c) (hW:BQ (bK s.groups) s.vars w=true) (hM: ∀i,i<s.vars.length->jc (s.vars.getD i []) (ms.getD i 0) (lM (bK s.groups) c sl (s.vars.getD i []))=true):
  aE 104 [.agg [.s c, .s sl],s.pv, .sl (w.map Zp), .sl (ms.map Zp),N ch] (GJ (bK s.groups) c sl s.vars (fA (bK s.groups) s.vars ms w ch)):=by
 have hr:=hp.r;have hb:=hp.g.v;have nv:=hp.g.nv;have lo:=(eF hp.g.g).2;have hbo:=yZ hp;have c8:=dO hr.lc;have h64:=m9;have h128:=s9;have hwb: ∀i,i<s.vars.length->(w.getD i 0).natAbs<dM:=fun i hi=>b9 (BO (TT hW hi)).1 (Lm lo (hb _ (aC [] hi)).2)
 have hmb: ∀i,i<s.vars.length->(ms.getD i 0).natAbs<256^33:=fun i hi=>iM (BO (hM i hi)).1 (Ml hr lo (hb _ (aC [] hi)).2)
 have h33:256^33+(2^64)*dM+(2^64)<dC:=by unfold dC dM;decide+kernel
 have hwA: ∀x∈w,x.natAbs<dC:=Mu hwl fun i hi=>b9 (hwb i hi) zY
 have hmA: ∀x∈ms,x.natAbs<dC:=Mu hml fun i hi=>by have:=hmb i hi;omega
 have hv1:=Be (w.map je) (by rw[aL];omega)
 have hv2:=Be (ms.map je) (by rw[aL];omega)
 have hrg:=Q4 hp.g hwl hwA;rw[Wy,wc hwA]at hv1;rw[Wy,wc hmA]at hv2;rw[hW]at hrg;have hn:=aG (bR ch);rw[vB oO]at hn;have hcm:=DI (a:=ch) (b:=num c) oO oO;rw[dZ hr.vc]at hcm;have hd: ∀ _:True,decide (aZ ch (num c)>=0)=false:=fun _=>by rw[Jy,aV hch];rfl
 have hre:=Nr hp hwl hml (ch:=ch) oO (fun i hi=>by
  refine⟨hwb i hi,?_⟩;have h1:=hmb i hi;have h2:((ch:Int)*w.getD i 0).natAbs<=(2^64)*dM:=by
   rw[lj,Int.natAbs_natCast];exact j9 oO (j3 (hwb i hi))
  omega)
 have hmL: ∀i,i<s.vars.length->aE 212 [cO (s.vars.getD i []),Zp (ms.getD i 0),N (lM (bK s.groups) c sl (s.vars.getD i []))] (.b true):=fun i hi=>by
  have:=wu (s.vars.getD i []) (x:=ms.getD i 0) (L:=lM (bK s.groups) c sl (s.vars.getD i [])) (by have:=hmb i hi;omega) (RQ hr lo (hb _ (aC [] hi)).2)
  rwa[hM i hi]at this
 generalize aZ ch (num c)=cm at*;generalize fA (bK s.groups) s.vars ms w ch=rs at*;unfold GJ at*;obtain⟨gs,us,es⟩:=s;simp only at nv hwl hml hmL hre hbo⊢;generalize bK gs=o at*;have l2:(us.map cO).length=us.length:=aL ..;have l3:(us.map (lP o c sl)).length=us.length:=aL ..;have l4:(w.map Zp).length=us.length:=by rw[aL];exact hwl
 have l5:(ms.map Zp).length=us.length:=by rw[aL];exact hml
 clear hW hwb hmb hM hwA hmA h33 h64 hb hp hr;unfold cK.pv at*;simp only at*;refine eW call104 func104 ?_;refine Rl (aN @l2 (aN @l4 (aN @l5 (hd oT)))) @hbo @hv1 @hv2 @hn @hcm @hrg oT ?_;refine ak (α:=Nat) (fun i=>us.length-i) (fun i=>⟨[(2, .v (.sl (w.map Zp))),(3, .v (.sl (ms.map Zp))),(4, .v (N ch)),(6, .p 1001 0 0),(12, .v (.sl (us.map (lP o c sl)))),(68, .v (.sl (us.map cO))),(69,E' us.length),(70,E' i)],[(1001,⟨0,[.v (.sl (gs.map dS)), .v (.sl (us.map cO)), .v (.sl (es.map dr.pv))],false,none⟩)],_⟩) (fun i=>i<=us.length) 0 (fun _=>aD _) (aR _) ?_ ?_
 ·exact lE
 ·intro i hi R hR
  by_cases hlt:i<us.length
  ·have hgo:=hR (i+1) oO oO;have e1:=getD_map cO us [] hlt;have e2:=getD_map (lP o c sl) us [] hlt;have e4:=getD_map Zp ms 0 (i:=i) oO;have hc:=hmL i hlt;clear hR hmL hre hv1 hv2;simp only[lP]at e2;generalize lM o c sl (us.getD i [])=M at*;generalize us.getD i []=u at*;generalize ms.getD i 0=x at*;simp only[cO]at e1 hc;simp only[Zp,cU,je]at e4 hc;exact kp (aN @l2 (aN @l3 (aN @l5 (aN @e1 (aN @e2 @e4))))) @hgo @hc
  ·obtain rfl:i=us.length:=oO;clear hR hmL;generalize BP o c sl us rs=b at*;cases b
   ·exact z1 @hre
   ·exact z1 @hre
structure Rs (s:cK):Prop where
 g: ∃m o,s.groups=[(m,o)]/\m.length<=1000/\o.length<=1000
 v0:s.vars≠[]
 nv:s.vars.length<=64
 v: ∀b∈s.vars,b.length<=1000
 ne:s.eqs.length<=64
 q: ∀q∈s.eqs,0<=q.kR/\q.kR<100/\q.tgt.length<=1000/\q.terms.length<=64/\ ∀t∈q.terms,0<=t.var/\t.var<100/\t.base.length<=1000/\t.abs.length<=1000
theorem rk {l:List eD} (hs:st.length=32):(l.foldl qS st).length=32:=by
 induction l generalizing st with
 |nil=>exact hs
 |cons t l ih=>exact ih (GU _ _ _)
theorem rj {l:List dr} (hs:st.length=32):(l.foldl qR st).length=32:=by
 induction l generalizing st with
 |nil=>exact hs
 |cons q l ih=>exact ih (rk (eX _ _ _))
theorem Wk (hst:st.length<=1000) {s:cK} (hs:Rs s):aE 206 [.s st,s.pv] (.s (lZ st s)):=by
 obtain⟨⟨m,o,hg,lm,lo⟩,v0,nv,hv,ne,hq⟩:=hs;obtain⟨gs,vs,es⟩:=s;simp only at hg v0 nv hv ne hq;subst hg;obtain⟨w0,wr,hw⟩: ∃a b,vs=a::b:=by cases vs with
  |nil=>exact aM rfl v0
  |cons a b=>exact⟨a,b,rfl⟩
 have hvl:vs.length=wr.length+1:=by rw[hw];rfl
 have hpos: ∀ _:True,(0:Int)<(vs.length:Int):=fun _=>oO
 have g0:(vs.map cO).getD 0 .fn0= .agg [.s w0]:=by rw[hw];rfl
 simp only[lZ,fb,CF,iu,cK.pv,bV,bj,dS];have n1:=pV st sU [m,o] oO oC (by simp) (by simp) (by intro s hs;simp at hs;rcases hs with rfl|rfl<;>omega)
 simp only[bV,bj]at n1;have n2:=pV (gb st sU [m,o]) yX vs (by rw[eX];decide) oC v0 oO (fun x hx=>by have:=hv x hx;omega)
 have l2:=eX (gb st sU [m,o]) yX vs;refine eW call206 func206 ?_;repeat' first|simp only[go_sem,seval]|(refine aj ?_)|refine oE ?_|apply xX<;>intro hc
 refine eC (aN @g0 (hpos oT)) ?_;have hro:[AV.v (PV.s w0)]=aX PV.s (vs.take 1):=by rw[hw];rfl
 rw[hro];refine ak (α:=Nat) (fun j=>vs.length-j) (fun j=>⟨[(0, .v (.s st)),(3, .p 1000 0 0),(5, .rs 1019 0 0 2 1),(6, .rs 1037 j 0 (1+j) 1),(31, .v (.sl (vs.map cO))),(32,E' vs.length),(33,E' (j+1))],[(1000,⟨0,[.v (.sl [.agg [.s m, .s o]]), .v (.sl (vs.map cO)), .v (.sl (es.map dr.pv))],false,none⟩),(1019,⟨0,[.v (.s m), .v (.s o)],true,some 22⟩),(1037,⟨j,aX PV.s (vs.take (j+1)),true,some 22⟩)],1041⟩) (fun j=>j+1<=vs.length) 0 (fun _=>dF rfl) oO ?_ ?_
 ·refine lG ?_;all_goals exact fun c hc=>cI hc
 ·intro j hj R hR;have hlr:(vs.take (j+1)).length=1+j:=by rw[cf];omega
  have q0:(aX PV.s (vs.take (j+1))).length=1+j:=by rw[cF cT.s,hlr,dK]
  have q1:List.take (1+j) (aX PV.s (vs.take (j+1)))=aX PV.s (vs.take (j+1)):=c9 oO
  by_cases hjt:j+1<vs.length
  ·have e2:=getD_map cO vs ([]:Bytes) hjt;have hgo:=hR (j+1) oO oO;rw[aQ ([]:Bytes) hjt,cu]at hgo;generalize vs.getD (j+1) []=y at e2 hgo;have e2:(vs.map cO).getD (j+1) .fn0= .agg [.s y]:=e2;have e3: ∀ _:True,((j:Int)+1).toNat=j+1:=fun _=>oO
   clear hR hlr n1 n2;refine eC (aN @q0 (aN @q1 (aN @e2 (e3 oT)))) ?_;refine hgo _ ?_
   (refine AS.Le.of (by first|decide|omega) ?_ ?_<;>simp[dA,dz,aS,aB,AV.bd,AV.bd.bdL,u8,aq,au,aA])
   all_goals first|omega|exact⟨rfl,fun c hc=>by rcases hc with hc|⟨a,ha,rfl⟩;exact cI hc;rfl⟩|skip
  ·have hj2:j+1=vs.length:=oO;rw[hj2,cg]at hlr q0 q1⊢;clear hR hpos g0 hro;repeat' first|simp only[go_sem,seval,q0,q1]|refine cV n1 ?_|(refine rY (l:=vs) (g:=PV.s) (ver:=j) (gr:=true) (el:=some 22) n2 cT.s rfl (by simp[aB]) hlr.symm ?_)|refine oE ?_|apply xX<;>intro hc
   generalize gb (gb st sU [m,o]) yX vs=s0 at l2⊢;clear n1 n2;refine ak (α:=Nat) (fun i=>es.length-i) (fun i=>⟨[(0, .v (.s ((es.take i).foldl qR s0))),(50, .v (.sl (es.map dr.pv))),(51,E' es.length),(52,E' i)],[],_⟩) (fun i=>i<=es.length) 0 (fun _=>aD _) (aR _) ?_ ?_
   ·(refine AS.Le.of (by first|decide|omega) ?_ ?_<;>simp[dA,dz,aS,aB,AV.bd,AV.bd.bdL,u8,aq,au,aA])
    all_goals rfl
   ·intro i hi R hR
    by_cases hit:i<es.length
    ·have e2:=getD_map dr.pv es gN hit;have hgo:=hR (i+1) oO oO;rw[oj qR s0 gN hit]at hgo;obtain⟨g1,g2,g3,nt,ht⟩:=hq _ (aC gN hit);have hX:=rj (l:=es.take i) l2;generalize (es.take i).foldl qR s0=X at hgo hX⊢;generalize es.getD i gN=q at*;obtain⟨kR,tgt,ts⟩:=q;simp only at g1 g2 g3 nt ht;obtain⟨n,rfl⟩: ∃n:Nat,kR=(n:Int):=⟨kR.toNat,oO⟩;have e2:(es.map dr.pv).getD i .fn0= .agg [.i .i64 (n:Int), .s tgt, .sl (ts.map eD.pv)]:=e2;simp only[qR,Int.toNat_natCast]at hgo;have ln:=nK n;have l4:(ts.map eD.pv).length=ts.length:=aL ..;have c1:=Bm n oO;have c2:=wz X Cm (iy n) oO oC oO;have c3:=pV (fw X Cm (iy n)) GL [tgt] (by rw[ja];decide) oC (by simp) (by simp) (by simp;omega)
     have lS:=eX (fw X Cm (iy n)) GL [tgt];generalize gb (fw X Cm (iy n)) GL [tgt]=S0 at*;simp only[bV,bj]at c3;clear hR hq;refine tN (aN @e2 @l4) @c1 @c2 @c3 oT ?_;refine ak (α:=Nat) (fun k=>ts.length-k) (fun k=>⟨[(0, .v (.s ((ts.take k).foldl qS S0))),(50, .v (.sl (es.map dr.pv))),(51,E' es.length),(52,E' i),(67, .v (.sl (ts.map eD.pv))),(68,E' ts.length),(69,E' k)],[],_⟩) (fun k=>k<=ts.length) 0 (fun _=>aD _) (aR _) ?_ ?_
     ·(refine AS.Le.of (by first|decide|omega) ?_ ?_<;>simp[dA,dz,aS,aB,AV.bd,AV.bd.bdL,u8,aq,au,aA])
      all_goals rfl
     ·clear c1 c2 c3 e2;intro k hk R' hR'
      by_cases hkt:k<ts.length
      ·have e3:=getD_map eD.pv ts fj hkt;have hgo':=hR' (k+1) oO oO;rw[oj qS S0 fj hkt]at hgo';obtain⟨v1,v2,lb,la⟩:=ht _ (aC fj hkt);have hY:=rk (l:=ts.take k) lS;generalize (ts.take k).foldl qS S0=Y at hgo' hY⊢;generalize ts.getD k fj=t at*;obtain⟨base,vr,ng,ab⟩:=t;simp only at v1 v2 lb la;obtain⟨v,rfl⟩: ∃v:Nat,vr=(v:Int):=⟨vr.toNat,oO⟩;have e3:(ts.map eD.pv).getD k .fn0= .agg [.s base, .i .i64 (v:Int), .b ng, .s ab]:=e3;simp only[qS,Int.toNat_natCast]at hgo';have lv:=nK v;have c4:=Bm v oO;have c5:=wz Y GM (iy v) oO oC oO;have c6:=pV (fw Y GM (iy v)) ER [base] (by rw[ja];decide) oC (by simp) (by simp) (by simp;omega)
       have c7:=NS (gb (fw Y GM (iy v)) ER [base]) NF ng ab (by rw[eX];decide) oC oO
       simp only[bV,bj]at c6;clear hR' hgo;refine Di (aN @e3 @l4) @c4 @c5 @c6 @c7 ?_;refine hgo' _ ?_
       (refine AS.Le.of (by first|decide|omega) ?_ ?_<;>simp[dA,dz,aS,aB,AV.bd,AV.bd.bdL,u8,aq,au,aA])
       all_goals first|omega|skip
      ·have h:k=ts.length:=oO;rw[h,cg];refine eC @l4 ?_;refine hgo _ ?_
       (refine AS.Le.of (by first|decide|omega) ?_ ?_<;>simp[dA,dz,aS,aB,AV.bd,AV.bd.bdL,u8,aq,au,aA])
       all_goals first|omega|skip
    ·have h:i=es.length:=oO;rw[h,cg];exact z0
theorem vj {s:cK} (hp:uV c sl s):aE 99 [.agg [.s c, .s sl],s.pv,C0] (.tup [X0 c sl s,E 0]):=by
 have hb:=ES hp;obtain⟨gs,vs,es⟩:=s;simp only[cK.pv,X0]at hb⊢;refine eW call99 func99 ?_;exact z2 @hb @Hj
theorem xz {s:cK}:(lZ st s).length=32:=by
 unfold lZ;exact rj (eX _ _ _)
theorem xG (hr:si c sl) {s:cK} (hb:Rs s) {ctx:Bytes} (hx:ctx.length<=100000) {fs:List Bytes} (f0:fs≠[]) (fn:fs.length<=900) (fl: ∀x∈fs,x.length<=100000):
  aE 103 [X0 c sl s, .s ctx, .sl (fs.map .s), .sl []] (.tup [N (gK (xQ ctx s fs) c),E 0]):=by
 have c0:c≠[]:=by
  intro h;have:=hr.c2;rw[h]at this;exact aM this oC
 have n1:=Q9 rK oC;have n2:=wz (kX rK) uJ ctx (by rw[Bh];decide) oC hx
 have n3:=Wk (st:=fw (kX rK) uJ ctx) (by rw[ja];decide) hb
 have n4:=wz (lZ (fw (kX rK) uJ ctx) s) GK [] (by rw[xz];decide) oC oC
 have n5:=pV (fw (lZ (fw (kX rK) uJ ctx) s) GK []) NG fs (by rw[ja];decide) oC f0 fn fl
 have n6:=zW (xQ ctx s fs) c (by rw[xQ,eX];decide) hr.vc c0 hr.lc
 have n5:aE 208 [.s (fw (lZ (fw (kX rK) uJ ctx) s) GK []), .s NG, .sl (fs.map .s)] (.s (xQ ctx s fs)):=n5;generalize xQ ctx s fs=st5 at*;generalize lZ (fw (kX rK) uJ ctx) s=st3 at*;obtain⟨gq,vs,es⟩:=s;simp only[X0,cK.pv]at n3⊢;refine eW call103 func103 ?_;repeat' first|simp only[go_sem,seval]|refine cP n1 ?_|refine cP n2 ?_|refine cP n3 ?_|refine cP n4 ?_|refine cP n5 ?_|refine cP n6 ?_|refine cP TN ?_|(refine aj ?_)|refine oE ?_|apply xX<;>intro hc
theorem YC (b:Bytes):aE 191 [cO b] (.s (if b=[]then([]:Bytes)else b)):=by
 have h:=Rh b;split
 ·rename_i g;subst g;exact h
 ·exact h
theorem YD (m:Bytes) (h:o≠[]):aE 192 [.sl [G m o], .fn (.func 193)] (E 0):=by
 have hb:(o !=([]:Bytes))=true:=by simpa using h
 have hb2:(o==([]:Bytes))=false:=by simpa using h
 have h:aE 193 [G m o] (.b true):=by
  refine eW call193 func193 ?_;exact gU (aN @hb @hb2)
 refine eW call192 func192 ?_;refine qY ?_;refine aj ?_;exact z1 @h
theorem YE (b o:Bytes):aE 194 [cO b, .pt (.agg [.s o]) 0] (.s (if b=[]then o else b)):=by
 unfold cO
 by_cases h:b=[]
 ·subst h;refine eW call194 func194 ?_;exact gU @nn
 ·have hb:(b==([]:Bytes))=false:=by simpa using h
  rw[af h];refine eW call194 func194 ?_;exact gU @hb
noncomputable def vO (s:cK) (w:List Int) (vs:List Bytes) (a:Int):Int:=if !fK vs a then 3 else if w.length≠s.vars.length then 6 else if !BQ (bK s.groups) s.vars w then 2 else if !BL s w then 18 else 0
theorem N4 {s:cK} (hs:Bo s) {m o:Bytes} (hg1:s.groups=[(m,o)]) {w:List Int} (hw6:w.length<1000000) (hw: ∀x∈w,x.natAbs<dC) (hW:BQ (bK s.groups) s.vars w=true->WS s w) {vs:List Bytes} (sd:Bytes) {a:Int} (hl:vs.length<1000000):aE 100 [X0 c sl s, .sl (w.map Zp), .sl [],T vs sd a] (E (vO s w vs a)):=by
 have v1:=fX (w.map je) _ _ (by rw[aL];omega) Rg
 rw[jh,wc hw,Wy]at v1;have v2:=nE [] 190 [.pt (.agg [.fn (.func 187)]) 0] (fun _=>true) oC (fun x hx=>by cases hx)
 rw[show(([]:List (List (Bool×Bytes))).any fun _=>true)=false from rfl]at v2
 have v3:=Rv sd (a:=a) hl;have nv:=hs.nv;have hb:=hs.v;have hh:=fun h=>JF hs (w:=w) h hw hW
 have hoV:=eF hs.g;have hnb: ∀b∈s.vars,bK s.groups=[]->b≠[]:=fun b h1 h2 h3=>BW hs (h3▸h1) h2
 obtain⟨gs,us,es⟩:=s;simp only at hg1 nv hb hh hoV hnb;subst hg1;have l2:(us.map cO).length=us.length:=aL ..;have l5:(w.map Zp).length=w.length:=aL ..;have ho:bK [(m,o)]=o:=by
  by_cases h:o=[]
  ·subst h;rfl
  ·simp[bK,h]
 rw[ho]at hh hoV hnb;unfold vO;simp only[ho,X0,cK.pv,bV,bj,dS]at hh v2⊢;clear hs hW
 cases hg:fK vs a with
 |false=>
  rw[hg]at v3;simp only[cG,cl,az];refine eW call100 func100 ?_;repeat' first|simp only[go_sem,seval,bC]|refine cP v1 ?_|refine cV v2 ?_|refine cP v3 ?_|refine cP xo ?_|refine oE ?_|apply xX<;>intro hc
  all_goals rfl
 |true=>
  rw[hg]at v3;simp only[cl,bO,ar]
  by_cases hwl:w.length=us.length
  ·rw[af (by simpa using hwl)]
   have hh:=hh hwl;have hI: ∀ _:True,((w.length:Int) !=us.length)=false:=fun _=>by rw[hwl];simp
   by_cases ho0:o=[]
   ·have v4:=Ri m;subst ho0;refine eW call100 func100 ?_;repeat' first|simp only[go_sem,seval,bC,l2,l5,hI oT]|refine cP v1 ?_|refine cV v2 ?_|refine cP v3 ?_|refine cP xo ?_|refine cP v4 ?_|refine oE ?_|apply xX<;>intro hc
    refine ak (α:=Nat) (fun i=>us.length-i) (fun i=>⟨[(1, .v (.sl (w.map Zp))),(2, .v (.sl [])),(4, .p 1000 0 0),(13, .v (.fn (.func 191))),(76, .v (.sl (us.map cO))),(77,E' us.length),(78,E' i)],[(1000,⟨0,[.v (.s c), .v (.s sl), .v (.sl [G m []]), .v (.sl (us.map cO)), .v (.sl (es.map dr.pv)), .v (.sl []), .v (.sl []), .v (.s [])],false,none⟩)],_⟩) (fun i=>i<=us.length/\ ∀j,j<i->jc (us.getD j []) (w.getD j 0) (fG [] (us.getD j []))=true) 0 (fun _=>aD _) ⟨aR _,fun j hj=>oO⟩ ?_ ?_
    ·exact lE
    ·rintro i ⟨hi,hlts⟩ R hR;clear v1 v2 v3
     by_cases hlt:i<us.length
     ·have e1:=getD_map cO us [] hlt;have e2:=getD_map Zp w 0 (i:=i) oO;have kb:=hb _ (aC [] hlt);have kw:=hw _ (aC 0 (show i<w.length by omega))
      have hv0:=hnb _ (aC [] hlt);have hgo:=fun h=>hR (i+1) ⟨oO,h⟩ oO
      have hbad:=fun h: ¬jc (us.getD i []) (w.getD i 0) (fG [] (us.getD i []))=true=>qa (p:=fun i=>jc (us.getD i []) (w.getD i 0) (fG [] (us.getD i []))) hlt (dy.2 h)
      have hnx:jc (us.getD i []) (w.getD i 0) (fG [] (us.getD i []))=true-> ∀j,j<i+1->jc (us.getD j []) (w.getD j 0) (fG [] (us.getD j []))=true:=fun h j hj=>by
       by_cases hji:j<i
       ·exact hlts j hji
       ·obtain rfl:j=i:=oO;exact h
      rw[<-BQ]at hbad;clear hR hlts hh;generalize us.getD i []=b at*;generalize w.getD i 0=x at*;have hz:=rA kw;simp only[je,cr,ba]at hz;have hc:=jH hz.1 (show aa (if b=[]then[]else b)=true by split;exact hoV.1;exact kb.1)
      have hbl:num (if b=[]then[]else b)=fG [] b:=by unfold fG;split<;>rfl
      rw[uy,hbl]at hc;have h3:=YC b;have hd:decide (aZ x.natAbs (fG [] b)>=0)= !decide (x.natAbs<fG [] b):=Jy _ _;have hzs:zs x=decide (x<0):=rfl;simp only[cO]at e1 h3;simp only[Zp,cU,je]at e2;unfold jc at hbad hnx;clear hbl kb kw hz;generalize aZ x.natAbs (fG [] b)=cm at*;generalize decide (x.natAbs<fG [] b)=p at*;generalize decide (x<0)=q at*;generalize (if b=[]then[]else b)=y at*
      have hbb:(b==[])=decide (b=[]):=by rw[dk,fV,bM]
      generalize decide (b=[])=b0 at*;cases p
      ·rw[hbad (by simp)]
       simp only[cG,az];repeat' first|simp only[go_sem,seval,bC,l2,l5,e1,e2,hbb,hd,hzs]|refine cP h3 ?_|refine cV h3 ?_|refine cP hc ?_|refine oE ?_|apply xX<;>intro hc
       all_goals rfl
      ·cases b0
       ·have hgo:=hgo (hnx (by simp))
        repeat' first|simp only[go_sem,seval,bC,l2,l5,e1,e2,hbb,hd,hzs]|refine cP h3 ?_|refine cV h3 ?_|refine cP hc ?_|refine oE ?_|apply xX<;>intro hc
        refine hgo _ ?_;exact lE
       ·cases q
        ·have hgo:=hgo (hnx (by simp))
         repeat' first|simp only[go_sem,seval,bC,l2,l5,e1,e2,hbb,hd,hzs]|refine cP h3 ?_|refine cV h3 ?_|refine cP hc ?_|refine oE ?_|apply xX<;>intro hc
         refine hgo _ ?_;exact lE
        ·rw[hbad (by simp)]
         simp only[cG,az];repeat' first|simp only[go_sem,seval,bC,l2,l5,e1,e2,hbb,hd,hzs]|refine cP h3 ?_|refine cV h3 ?_|refine cP hc ?_|refine oE ?_|apply xX<;>intro hc
         all_goals rfl
     ·obtain rfl:i=us.length:=oO;have hg:BQ [] us w=true:=pD fun j hj=>hlts j hj
      rw[hg,cj]at hh;rw[hg];simp only[cl,bO,ar];clear hR hlts hb;generalize BL ⟨[(m,[])],us,es⟩ w=b at*;cases b
      ·exact Sl @hh @xp
      ·exact Sl @hh @xp
   ·have v4:=YD m ho0;refine eW call100 func100 ?_;repeat' first|simp only[go_sem,seval,bC,l2,l5,hI oT]|refine cP v1 ?_|refine cV v2 ?_|refine cP v3 ?_|refine cP xo ?_|refine cP v4 ?_|refine oE ?_|apply xX<;>intro hc
    refine ak (α:=Nat) (fun i=>us.length-i) (fun i=>⟨[(1, .v (.sl (w.map Zp))),(2, .v (.sl [])),(4, .p 1000 0 0),(13, .fn (.func 194) [] [.p 1057 0 0]),(76, .v (.sl (us.map cO))),(77,E' us.length),(78,E' i)],[(1000,⟨0,[.v (.s c), .v (.s sl), .v (.sl [G m o]), .v (.sl (us.map cO)), .v (.sl (es.map dr.pv)), .v (.sl []), .v (.sl []), .v (.s [])],false,none⟩),(1057,⟨0,[.v (.s o)],false,some 22⟩)],_⟩) (fun i=>i<=us.length/\ ∀j,j<i->jc (us.getD j []) (w.getD j 0) (fG o (us.getD j []))=true) 0 (fun _=>aD _) ⟨aR _,fun j hj=>oO⟩ ?_ ?_
    ·exact lE
    ·rintro i ⟨hi,hlts⟩ R hR;clear v1 v2 v3
     by_cases hlt:i<us.length
     ·have e1:=getD_map cO us [] hlt;have e2:=getD_map Zp w 0 (i:=i) oO;have kb:=hb _ (aC [] hlt);have kw:=hw _ (aC 0 (show i<w.length by omega))
      have hv0:=hnb _ (aC [] hlt);have hgo:=fun h=>hR (i+1) ⟨oO,h⟩ oO
      have hbad:=fun h: ¬jc (us.getD i []) (w.getD i 0) (fG o (us.getD i []))=true=>qa (p:=fun i=>jc (us.getD i []) (w.getD i 0) (fG o (us.getD i []))) hlt (dy.2 h)
      have hnx:jc (us.getD i []) (w.getD i 0) (fG o (us.getD i []))=true-> ∀j,j<i+1->jc (us.getD j []) (w.getD j 0) (fG o (us.getD j []))=true:=fun h j hj=>by
       by_cases hji:j<i
       ·exact hlts j hji
       ·obtain rfl:j=i:=oO;exact h
      rw[<-BQ]at hbad;clear hR hlts hh;generalize us.getD i []=b at*;generalize w.getD i 0=x at*;have hz:=rA kw;simp only[je,cr,ba]at hz;have hc:=jH hz.1 (show aa (if b=[]then o else b)=true by split;exact hoV.1;exact kb.1)
      have hbl:num (if b=[]then o else b)=fG o b:=by unfold fG;split<;>rfl
      rw[uy,hbl]at hc;have h3:=YE b o;have hd:decide (aZ x.natAbs (fG o b)>=0)= !decide (x.natAbs<fG o b):=Jy _ _;have hzs:zs x=decide (x<0):=rfl;simp only[cO]at e1 h3;simp only[Zp,cU,je]at e2;unfold jc at hbad hnx;clear hbl kb kw hz;generalize aZ x.natAbs (fG o b)=cm at*;generalize decide (x.natAbs<fG o b)=p at*;generalize decide (x<0)=q at*;generalize (if b=[]then o else b)=y at*
      have hbb:(b==[])=decide (b=[]):=by rw[dk,fV,bM]
      generalize decide (b=[])=b0 at*;cases p
      ·rw[hbad (by simp)]
       simp only[cG,az];repeat' first|simp only[go_sem,seval,bC,l2,l5,e1,e2,hbb,hd,hzs]|refine cP h3 ?_|refine cV h3 ?_|refine cP hc ?_|refine oE ?_|apply xX<;>intro hc
       all_goals rfl
      ·cases b0
       ·have hgo:=hgo (hnx (by simp))
        repeat' first|simp only[go_sem,seval,bC,l2,l5,e1,e2,hbb,hd,hzs]|refine cP h3 ?_|refine cV h3 ?_|refine cP hc ?_|refine oE ?_|apply xX<;>intro hc
        refine hgo _ ?_;exact lE
       ·cases q
        ·have hgo:=hgo (hnx (by simp))
         repeat' first|simp only[go_sem,seval,bC,l2,l5,e1,e2,hbb,hd,hzs]|refine cP h3 ?_|refine cV h3 ?_|refine cP hc ?_|refine oE ?_|apply xX<;>intro hc
         refine hgo _ ?_;exact lE
        ·rw[hbad (by simp)]
         simp only[cG,az];repeat' first|simp only[go_sem,seval,bC,l2,l5,e1,e2,hbb,hd,hzs]|refine cP h3 ?_|refine cV h3 ?_|refine cP hc ?_|refine oE ?_|apply xX<;>intro hc
         all_goals rfl
     ·obtain rfl:i=us.length:=oO;have hg:BQ o us w=true:=pD fun j hj=>hlts j hj
      rw[hg,cj]at hh;rw[hg];simp only[cl,bO,ar];clear hR hlts hb;generalize BL ⟨[(m,o)],us,es⟩ w=b at*;cases b
      ·exact Sl @hh @xp
      ·exact Sl @hh @xp
  ·rw[ah hwl];have e6:((w.length:Int) !=us.length)=true:=by rw[qJ];omega
   refine eW call100 func100 ?_;repeat' first|simp only[go_sem,seval,bC,l2,l5,e6]|refine cP v1 ?_|refine cV v2 ?_|refine cP v3 ?_|refine cP xo ?_|refine oE ?_|apply xX<;>intro hc
   all_goals rfl
