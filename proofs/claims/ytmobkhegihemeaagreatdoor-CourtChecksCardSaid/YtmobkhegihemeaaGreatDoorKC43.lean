/-
  Part of the proof, part KC43. Own work.
-/
import Derived.Test.YtmobkhegihemeaaGreatDoorKC42
set_option linter.all false
namespace Go.Proofs.YtmobkhegihemeaaGreatDoor
open Go Go.Dom Go.Num
set_option maxRecDepth 100000
set_option maxHeartbeats 16000000
def gK (o b:Bytes) (m w:Int) (c:Nat):Int:=if b=[]then(m+c*w)%num o else m+c*w
def fH (o:Bytes) (us:List Bytes) (ms w:List Int) (c:Nat):List Int:=(List.range us.length).map fun i=>gK o (us.getD i []) (ms.getD i 0) (w.getD i 0) c
theorem Cs (o:Bytes) (us:List Bytes) (ms w:List Int) (c:Nat):(fH o us ms w c).length=us.length:=by simp[fH]
theorem Cr {o:Bytes} {us:List Bytes} {ms w:List Int} {c i:Nat} (h:i<us.length):(fH o us ms w c).getD i 0=gK o (us.getD i []) (ms.getD i 0) (w.getD i 0) c:=by
 simp[fH,aX,h]
def DD (o c sl:Bytes) (us:List Bytes) (rs:List Int):Bool:=(List.range us.length).all fun i=>jf (us.getD i []) (rs.getD i 0) (lR o c sl (us.getD i []))
def Ed (o c sl:Bytes) (us:List Bytes) (rs:List Int):PV:=if DD o c sl us rs then .tup [.sl (rs.map Zp),E 0]else .tup [.sl [],E 15]
theorem JW {o c sl b:Bytes} (hr:pW c sl) (lo:o.length≤8) (lb:b.length≤16):lR o c sl b<du:=by
 unfold lR;split
 ·exact B3 lo
 ·exact Ny hr lb
theorem F2 {o c sl b:Bytes} {m w:Int} {ch:Nat} (hol:num o<du) (h64:num o<18446744073709551616) (h0:0<num o) (h:b=[]) (hx:m.natAbs+((ch:Int)*w).natAbs+18446744073709551616<du):
  jf b (gK o b m w ch) (lR o c sl b)=true∧ ∃k:Nat,aD Tryz.prog 281 [Z ((ch:Int)*w),N (lM o c sl b)] (.tup [N k,E 0])∧aD Tryz.prog 47 [N k] (Z k)∧aD Tryz.prog 282 [Z m,Z k] (.tup [Z (m+k),E 0])∧ ∃k2:Nat,aD Tryz.prog 281 [Z (m+k),N (lM o c sl b)] (.tup [N k2,E 0])∧aD Tryz.prog 47 [N k2] (Z (gK o b m w ch)):=by
 subst h;have g1:=fE ((ch:Int)*w) (b:=num o) (by omega)
 have g2:=fQ ((ch:Int)*w) (b:=num o) (by omega)
 have g3:=fE (m+ch*w) (b:=num o) (by omega)
 have g4:=fQ (m+ch*w) (b:=num o) (by omega)
 simp only[lM,lR,gK,if_true];refine⟨?_,((ch:Int)*w%num o).toNat,Pl (by omega) hol h0,x7 (by omega),BO (by omega),((m+ch*w)%num o).toNat,?_,?_⟩
 ·simp only[jf,aZ,decide_eq_true_eq,decide_true,bZ,fF,decide_eq_false_iff_not];omega
 ·have:=Pl (x:=m+(((ch:Int)*w%num o).toNat:Int)) (m:=num o) (by omega) hol h0
  rw[jP g1,Int.add_emod_emod]at this;rw[jP g1];exact this
 ·have:=x7 (n:=((m+ch*w)%num o).toNat) (by omega)
  rwa[jP g3]at this
theorem KU {c sl:Bytes} {s:dy} (hp:EJ c sl s) {w ms:List Int} {ch:Nat} (hwl:w.length=s.vars.length) (hml:ms.length=s.vars.length) (hch:ch<c9) (hI: ∀i,i<s.vars.length→(w.getD i 0).natAbs<c9∧(ms.getD i 0).natAbs+((ch:Int)*w.getD i 0).natAbs+18446744073709551616<du):
  aD Tryz.prog 197 [s.pv, .sl (s.vars.map (lP (bK s.groups) c sl)), .sl (w.map Zp), .sl (ms.map Zp),N ch] (Ed (bK s.groups) c sl s.vars (fH (bK s.groups) s.vars ms w ch)):=by
 have hb:=hp.g.v;have nv:=hp.g.nv;have hr:=hp.r;have hov:=ff hp.g.g;have lo:=hov.2;have ho:[]∈s.vars→0<num (bK s.groups):=fun h=>Nat.pos_of_ne_zero (zQ hov.1 (zI hp.g h))
 obtain⟨gs,us,es⟩:=s;simp only at hb nv hwl hml hI lo ho⊢;clear hp hov;generalize bK gs=o at*;have h64:=ep lo;have hol:=B3 lo;have l2:(us.map dC).length=us.length:=aH ..;have l3:(us.map (lP o c sl)).length=us.length:=aH ..;have l4:(w.map Zp).length=us.length:=by rw[aH];exact hwl
 have l5:(ms.map Zp).length=us.length:=by rw[aH];exact hml
 have hF:=x7 (n:=ch) (a9 hch Ao);have hrl:=Cs o us ms w ch;have rS: ∀{j:Nat},j<us.length→bJ Zp ((fH o us ms w ch).take (j+1))=bJ Zp ((fH o us ms w ch).take j)++[.v (.b (zs ((fH o us ms w ch).getD j 0))), .v (.s (zb ((fH o us ms w ch).getD j 0)))]:=fun h=>by
  rw[bj 0 (by omega),Gk]
 unfold dy.pv;simp only
 by_cases hpos:0<us.length
 rotate_left
 ·obtain rfl:us=[]:=jz.1 (by omega)
  refine eW Tryz.call197 Tryz.func197 ?_;repeat' first|simp only[go_sem,seval]|(refine ae ?_)|refine sB ?_|(first|apply pX|apply bX)<;>intro hc|refine⟨oD,?_⟩|exact oD|fail
  all_goals rfl
 refine eW Tryz.call197 Tryz.func197 ?_;repeat' first|simp only[go_sem,seval,l2]|refine sB ?_|(first|apply pX|apply bX)<;>intro hc|refine⟨oD,?_⟩|exact oD|fail
 refine ae ?_;have e1:=getD_map dC us [] hpos;have e2:=getD_map (lP o c sl) us [] hpos;have e3:=getD_map Zp w 0 (i:=0) (by omega)
 have e4:=getD_map Zp ms 0 (i:=0) (by omega)
 have kb:=hb _ (ay [] hpos);have hk:=nj (us.getD 0 []);have hx:=hI 0 hpos;have hp:=JO (x:=(ch:Int)) (y:=w.getD 0 0) (by simpa using hch) hx.1
 have hgr:=Cr (o:=o) (ms:=ms) (w:=w) (c:=ch) hpos;have hgk: ∀k,k<0+1→(∀q,q<0→jf (us.getD q []) ((fH o us ms w ch).getD q 0) (lR o c sl (us.getD q []))=true)→jf (us.getD 0 []) ((fH o us ms w ch).getD 0 0) (lR o c sl (us.getD 0 []))=true→jf (us.getD k []) ((fH o us ms w ch).getD k 0) (lR o c sl (us.getD k []))=true:=fun k hk h1 h2=>by
  by_cases hkj:k<0
  ·exact h1 k hkj
  ·obtain rfl:k=0:=by omega
   exact h2
 rw[hgr]at hgk;have hbad:=fun h: ¬jf (us.getD 0 []) ((fH o us ms w ch).getD 0 0) (lR o c sl (us.getD 0 []))=true=>ot (p:=fun i=>jf (us.getD i []) ((fH o us ms w ch).getD i 0) (lR o c sl (us.getD i []))) hpos (fj.2 h)
 rw[←DD,hgr]at hbad;have r1:=rS hpos;rw[hgr]at r1;have hcs:(us.getD 0 []≠[]∧jf (us.getD 0 []) (gK o (us.getD 0 []) (ms.getD 0 0) (w.getD 0 0) ch) (lR o c sl (us.getD 0 []))=false∧aD Tryz.prog 282 [Z (ms.getD 0 0),Z ((ch:Int)*w.getD 0 0)] (.tup [Z (gK o (us.getD 0 []) (ms.getD 0 0) (w.getD 0 0) ch),E 0])∧aD Tryz.prog 196 [dC (us.getD 0 []),Zp (gK o (us.getD 0 []) (ms.getD 0 0) (w.getD 0 0) ch),N (lR o c sl (us.getD 0 []))] (.b false))∨
   (us.getD 0 []=[]∧jf (us.getD 0 []) (gK o (us.getD 0 []) (ms.getD 0 0) (w.getD 0 0) ch) (lR o c sl (us.getD 0 []))=true∧ ∃k:Nat,aD Tryz.prog 281 [Z ((ch:Int)*w.getD 0 0),N (lM o c sl (us.getD 0 []))] (.tup [N k,E 0])∧aD Tryz.prog 47 [N k] (Z k)∧aD Tryz.prog 282 [Z (ms.getD 0 0),Z k] (.tup [Z (ms.getD 0 0+k),E 0])∧ ∃k2:Nat,aD Tryz.prog 281 [Z (ms.getD 0 0+k),N (lM o c sl (us.getD 0 []))] (.tup [N k2,E 0])∧aD Tryz.prog 47 [N k2] (Z (gK o (us.getD 0 []) (ms.getD 0 0) (w.getD 0 0) ch)))∨
   (us.getD 0 []≠[]∧jf (us.getD 0 []) (gK o (us.getD 0 []) (ms.getD 0 0) (w.getD 0 0) ch) (lR o c sl (us.getD 0 []))=true∧aD Tryz.prog 282 [Z (ms.getD 0 0),Z ((ch:Int)*w.getD 0 0)] (.tup [Z (gK o (us.getD 0 []) (ms.getD 0 0) (w.getD 0 0) ch),E 0])∧aD Tryz.prog 196 [dC (us.getD 0 []),Zp (gK o (us.getD 0 []) (ms.getD 0 0) (w.getD 0 0) ch),N (lR o c sl (us.getD 0 []))] (.b true)):=by
  by_cases h:us.getD 0 []=[]
  ·exact .inr (.inl ⟨h,F2 hol h64 (ho (by rw[←h];exact ay [] hpos)) h hx.2⟩)
  ·have h1:aD Tryz.prog 282 [Z (ms.getD 0 0),Z ((ch:Int)*w.getD 0 0)] (.tup [Z (gK o (us.getD 0 []) (ms.getD 0 0) (w.getD 0 0) ch),E 0]):=by
    rw[gK,if_neg h];exact BO (by omega)
   have h2:=tW (us.getD 0 []) (x:=gK o (us.getD 0 []) (ms.getD 0 0) (w.getD 0 0) ch) (L:=lR o c sl (us.getD 0 [])) (by rw[gK,if_neg h];have:=Int.natAbs_add_le (ms.getD 0 0) (ch*w.getD 0 0);omega) (JW hr lo kb.2)
   cases hin:jf (us.getD 0 []) (gK o (us.getD 0 []) (ms.getD 0 0) (w.getD 0 0) ch) (lR o c sl (us.getD 0 []))
   ·rw[hin]at h2;exact .inl ⟨h,rfl,h1,h2⟩
   ·rw[hin]at h2;exact .inr (.inr ⟨h,rfl,h1,h2⟩)
 clear hx kb;generalize gK o (us.getD 0 []) (ms.getD 0 0) (w.getD 0 0) ch=z at*;generalize hu0:us.getD 0 []=u at*;simp only[dC]at e1 hk hcs;simp only[lP]at e2;generalize lM o c sl u=M at*;generalize lR o c sl u=Rr at*;simp only[Zp,eg,lf]at e3 e4 hcs;rcases hcs with⟨hu,hgd,m1,m2⟩|⟨hu,hgd,k,m1,m2,m3,k2,m4,m5⟩|⟨hu,hgd,m1,m2⟩
 ·rw[if_neg hu]at hk;rw[Ed,hbad (by simp[hgd])]
  repeat' first|simp only[go_sem,seval,l2,l3,l4,l5,e1,e2,e3,e4]|refine cP hk ?_|refine cP hF ?_|refine cP hp ?_|refine cP m1 ?_|refine cP m2 ?_|refine sB ?_|(first|apply pX|apply bX)<;>intro hc|refine⟨oD,?_⟩|exact oD|fail
  all_goals rfl
 all_goals
  first|rw[if_pos hu]at hk|rw[if_neg hu]at hk
  repeat' first|simp only[go_sem,seval,l2,l3,l4,l5,e1,e2,e3,e4]|refine cP hk ?_|refine cP hF ?_|refine cP hp ?_|refine cP m1 ?_|refine cP m2 ?_|refine cP m3 ?_|refine cP m4 ?_|refine cP m5 ?_|refine sB ?_|(first|apply pX|apply bX)<;>intro hc|refine⟨oD,?_⟩|exact oD|fail
  obtain⟨nm,hnm⟩: ∃nm,nm=(if u=[]then 1074 else 1059):=⟨_,rfl⟩
  first|rw[if_pos hu]at hnm|rw[if_neg hu]at hnm
  refine aj (α:=Nat) (fun j=>us.length-(j+1)) (fun j=>⟨[(1, .v (.sl (us.map (lP o c sl)))),(2, .v (.sl (w.map Zp))),(3, .v (.sl (ms.map Zp))),(4, .v (N ch)),(5, .p 1000 0 0),(12, .rs nm j 0 (j+1) 2),(28, .v (.sl (us.map dC))),(29,E' us.length),(30,E' (j+1))],[(1000,⟨0,[.v (.sl (gs.map gG)), .v (.sl (us.map dC)), .v (.sl (es.map eE.pv))],false,none⟩),(nm,⟨j,bJ Zp ((fH o us ms w ch).take (j+1)),true,some 49⟩)],nm+4⟩) (fun j=>j+1≤us.length∧ ∀k,k<j+1→jf (us.getD k []) ((fH o us ms w ch).getD k 0) (lR o c sl (us.getD k []))=true) 0 (fun _=>by show _≤nm+4;rw[hnm];exact bQ rfl) ⟨hpos,fun k hk=>hgk k hk (fun j hj=>by omega) hgd⟩ ?_ ?_<;>subst hnm
  ·rw[r1,List.take_zero,show bJ Zp ([]:List Int)=[]from rfl,List.nil_append]
   exact lE
  ·clear e1 e2 e3 e4 hk hgr hbad r1 hgk hgd m1 m2 hu0 hp
   first|clear m3 m4 m5|skip
   rintro j ⟨hj,hall⟩ R hR;have hlm:((fH o us ms w ch).take (j+1)).length=j+1:=by rw[cG];omega
   have q1:=dI C7 ((fH o us ms w ch).take (j+1));have q2:=dT C7 ((fH o us ms w ch).take (j+1));rw[hlm]at q1 q2
   by_cases hlt:j+1<us.length
   ·have e1:=getD_map dC us [] hlt;have e2:=getD_map (lP o c sl) us [] hlt;have e3:=getD_map Zp w 0 (i:=(j+1)) (by omega)
    have e4:=getD_map Zp ms 0 (i:=(j+1)) (by omega)
    have kb:=hb _ (ay [] hlt);have hk:=nj (us.getD (j+1) []);have hx:=hI (j+1) hlt;have hp:=JO (x:=(ch:Int)) (y:=w.getD (j+1) 0) (by simpa using hch) hx.1
    have hgr:=Cr (o:=o) (ms:=ms) (w:=w) (c:=ch) hlt;have hgk: ∀k,k<(j+1)+1→(∀q,q<(j+1)→jf (us.getD q []) ((fH o us ms w ch).getD q 0) (lR o c sl (us.getD q []))=true)→jf (us.getD (j+1) []) ((fH o us ms w ch).getD (j+1) 0) (lR o c sl (us.getD (j+1) []))=true→jf (us.getD k []) ((fH o us ms w ch).getD k 0) (lR o c sl (us.getD k []))=true:=fun k hk h1 h2=>by
     by_cases hkj:k<(j+1)
     ·exact h1 k hkj
     ·obtain rfl:k=(j+1):=by omega
      exact h2
    rw[hgr]at hgk;have hbad:=fun h: ¬jf (us.getD (j+1) []) ((fH o us ms w ch).getD (j+1) 0) (lR o c sl (us.getD (j+1) []))=true=>ot (p:=fun i=>jf (us.getD i []) ((fH o us ms w ch).getD i 0) (lR o c sl (us.getD i []))) hlt (fj.2 h)
    rw[←DD,hgr]at hbad;have r1:=rS hlt;rw[hgr]at r1;have hcs:(us.getD (j+1) []≠[]∧jf (us.getD (j+1) []) (gK o (us.getD (j+1) []) (ms.getD (j+1) 0) (w.getD (j+1) 0) ch) (lR o c sl (us.getD (j+1) []))=false∧aD Tryz.prog 282 [Z (ms.getD (j+1) 0),Z ((ch:Int)*w.getD (j+1) 0)] (.tup [Z (gK o (us.getD (j+1) []) (ms.getD (j+1) 0) (w.getD (j+1) 0) ch),E 0])∧aD Tryz.prog 196 [dC (us.getD (j+1) []),Zp (gK o (us.getD (j+1) []) (ms.getD (j+1) 0) (w.getD (j+1) 0) ch),N (lR o c sl (us.getD (j+1) []))] (.b false))∨
      (us.getD (j+1) []=[]∧jf (us.getD (j+1) []) (gK o (us.getD (j+1) []) (ms.getD (j+1) 0) (w.getD (j+1) 0) ch) (lR o c sl (us.getD (j+1) []))=true∧ ∃k:Nat,aD Tryz.prog 281 [Z ((ch:Int)*w.getD (j+1) 0),N (lM o c sl (us.getD (j+1) []))] (.tup [N k,E 0])∧aD Tryz.prog 47 [N k] (Z k)∧aD Tryz.prog 282 [Z (ms.getD (j+1) 0),Z k] (.tup [Z (ms.getD (j+1) 0+k),E 0])∧ ∃k2:Nat,aD Tryz.prog 281 [Z (ms.getD (j+1) 0+k),N (lM o c sl (us.getD (j+1) []))] (.tup [N k2,E 0])∧aD Tryz.prog 47 [N k2] (Z (gK o (us.getD (j+1) []) (ms.getD (j+1) 0) (w.getD (j+1) 0) ch)))∨
      (us.getD (j+1) []≠[]∧jf (us.getD (j+1) []) (gK o (us.getD (j+1) []) (ms.getD (j+1) 0) (w.getD (j+1) 0) ch) (lR o c sl (us.getD (j+1) []))=true∧aD Tryz.prog 282 [Z (ms.getD (j+1) 0),Z ((ch:Int)*w.getD (j+1) 0)] (.tup [Z (gK o (us.getD (j+1) []) (ms.getD (j+1) 0) (w.getD (j+1) 0) ch),E 0])∧aD Tryz.prog 196 [dC (us.getD (j+1) []),Zp (gK o (us.getD (j+1) []) (ms.getD (j+1) 0) (w.getD (j+1) 0) ch),N (lR o c sl (us.getD (j+1) []))] (.b true)):=by
     by_cases h:us.getD (j+1) []=[]
     ·exact .inr (.inl ⟨h,F2 hol h64 (ho (by rw[←h];exact ay [] hlt)) h hx.2⟩)
     ·have h1:aD Tryz.prog 282 [Z (ms.getD (j+1) 0),Z ((ch:Int)*w.getD (j+1) 0)] (.tup [Z (gK o (us.getD (j+1) []) (ms.getD (j+1) 0) (w.getD (j+1) 0) ch),E 0]):=by
       rw[gK,if_neg h];exact BO (by omega)
      have h2:=tW (us.getD (j+1) []) (x:=gK o (us.getD (j+1) []) (ms.getD (j+1) 0) (w.getD (j+1) 0) ch) (L:=lR o c sl (us.getD (j+1) [])) (by rw[gK,if_neg h];have:=Int.natAbs_add_le (ms.getD (j+1) 0) (ch*w.getD (j+1) 0);omega) (JW hr lo kb.2)
      cases hin:jf (us.getD (j+1) []) (gK o (us.getD (j+1) []) (ms.getD (j+1) 0) (w.getD (j+1) 0) ch) (lR o c sl (us.getD (j+1) []))
      ·rw[hin]at h2;exact .inl ⟨h,rfl,h1,h2⟩
      ·rw[hin]at h2;exact .inr (.inr ⟨h,rfl,h1,h2⟩)
    clear hx kb;generalize gK o (us.getD (j+1) []) (ms.getD (j+1) 0) (w.getD (j+1) 0) ch=z at*;generalize hu0:us.getD (j+1) []=u at*;simp only[dC]at e1 hk hcs;simp only[lP]at e2;generalize lM o c sl u=M at*;generalize lR o c sl u=Rr at*;simp only[Zp,eg,lf]at e3 e4 hcs;rcases hcs with⟨hu,hgd,m1,m2⟩|⟨hu,hgd,k,m1,m2,m3,k2,m4,m5⟩|⟨hu,hgd,m1,m2⟩
    ·rw[if_neg hu]at hk;rw[Ed,hbad (by simp[hgd])]
     clear hR hall hgk;repeat' first|simp only[go_sem,seval,l2,l3,l4,l5,e1,e2,e3,e4,q1,q2]|refine cP hk ?_|refine cP hF ?_|refine cP hp ?_|refine cP m1 ?_|refine cP m2 ?_|refine sB ?_|(first|apply pX|apply bX)<;>intro hc|refine⟨oD,?_⟩|exact oD|fail
     all_goals rfl
    all_goals
     have hgo:=hR (j+1) ⟨by omega,fun k hk=>hgk k hk hall hgd⟩ (by omega)
     rw[r1]at hgo;clear hR hall hgk
     first|rw[if_pos hu]at hk|rw[if_neg hu]at hk
     repeat' first|simp only[go_sem,seval,l2,l3,l4,l5,e1,e2,e3,e4,q1,q2]|refine cP hk ?_|refine cP hF ?_|refine cP hp ?_|refine cP m1 ?_|refine cP m2 ?_|refine cP m3 ?_|refine cP m4 ?_|refine cP m5 ?_|refine sB ?_|(first|apply pX|apply bX)<;>intro hc|refine⟨oD,?_⟩|exact oD|fail
     refine hgo _ ?_
     (refine AS.Le.of (by first|decide|omega) ?_ ?_<;>simp[cl,cj,aF,ar,AV.bd,AV.bd.bdL,u8,ah,ai,aq])
     all_goals exact fun c hc=>by rcases hc with hc|rfl|rfl<;>first|exact ey hc|rfl
   ·have hjl:us.length=j+1:=by omega
    have hgood2:DD o c sl us (fH o us ms w ch)=true:=nT fun k hk=>hall k (by omega)
    rw[Ed,hgood2];have hT:(fH o us ms w ch).take (j+1)=fH o us ms w ch:=bM (by omega)
    rw[hT]at q1 q2⊢;have q3:=fx C7 (fH o us ms w ch);have q4:=dL C7 (fH o us ms w ch);rw[hrl,hjl]at q4;rw[hjl];clear hR;repeat' first|simp only[go_sem,seval,l2,hjl,q1,q2,q3,q4,fy]|refine sB ?_|(first|apply pX|apply bX)<;>intro hc|refine⟨oD,?_⟩|exact oD|fail
    all_goals rfl
theorem J5 {w:List Int} {n:Nat} {P:Int→Prop} (hwl:w.length=n) (h: ∀i,i<n→P (w.getD i 0)): ∀x∈w,P x:=fun x hx=>by
 obtain⟨j,hj,rfl⟩:=gb hx;have:=h j (by omega)
 rwa[aX,aU hj]at this
theorem Q7 {o:Bytes} {us:List Bytes} {w:List Int} (h:zE o us w=true) {i:Nat} (hi:i<us.length):jf (us.getD i []) (w.getD i 0) (eS o (us.getD i []))=true:=bc.1 h i (dk.2 hi)
theorem IW {o b:Bytes} (lo:o.length≤8) (lb:b.length≤16):eS o b≤c9:=by
 unfold eS;split
 ·exact jy (a9 (ep lo) qT)
 ·exact jy (FF lb)
theorem Dd {c sl:Bytes} {s:dy} (hp:EJ c sl s) {w ms:List Int} {ch:Nat} (hwl:w.length=s.vars.length) (hml:ms.length=s.vars.length) (hch:ch<num c) (hW:zE (bK s.groups) s.vars w=true) (hM: ∀i,i<s.vars.length→jf (s.vars.getD i []) (ms.getD i 0) (lM (bK s.groups) c sl (s.vars.getD i []))=true):
  aD Tryz.prog 119 [.agg [.s c, .s sl],s.pv, .sl (w.map Zp), .sl (ms.map Zp),N ch] (Ed (bK s.groups) c sl s.vars (fH (bK s.groups) s.vars ms w ch)):=by
 have hr:=hp.r;have hb:=hp.g.v;have nv:=hp.g.nv;have lo:=(ff hp.g.g).2;have hbo:=xf hp;have c8:=ep hr.lc;have h64:=np;have h128:=qT;have hwb: ∀i,i<s.vars.length→(w.getD i 0).natAbs<c9:=fun i hi=>a9 (zD (Q7 hW hi)).1 (IW lo (hb _ (ay [] hi)).2)
 have hmb: ∀i,i<s.vars.length→(ms.getD i 0).natAbs<256^33:=fun i hi=>ie (zD (hM i hi)).1 (JV hr lo (hb _ (ay [] hi)).2)
 have h33:256^33+18446744073709551616*c9+18446744073709551616<du:=by unfold du c9;decide+kernel
 have hwA: ∀x∈w,x.natAbs<du:=J5 hwl fun i hi=>a9 (hwb i hi) Ao
 have hmA: ∀x∈ms,x.natAbs<du:=J5 hml fun i hi=>by have:=hmb i hi;omega
 have hv1:=yV (w.map lf) (by rw[aH];omega)
 have hv2:=yV (ms.map lf) (by rw[aH];omega)
 have hrg:=Ou hp.g hwl hwA;rw[UW,tS hwA]at hv1;rw[UW,tS hmA]at hv2;rw[hW]at hrg;have hn:=aM (aP ch);rw[vB (by omega)]at hn
 have hcm:=qi (a:=ch) (b:=num c) (by omega) (by omega)
 rw[fq hr.vc]at hcm;have hd: ∀ _:True,decide (a6 ch (num c)≥0)=false:=fun _=>by rw[Pk,decide_eq_true hch];rfl
 have hre:=KU hp hwl hml (ch:=ch) (by omega) (fun i hi=>by
  refine⟨hwb i hi,?_⟩;have h1:=hmb i hi;have h2:((ch:Int)*w.getD i 0).natAbs≤18446744073709551616*c9:=by
   rw[kC,Int.natAbs_natCast];exact jH (by omega) (jy (hwb i hi))
  omega)
 have hmL: ∀i,i<s.vars.length→aD Tryz.prog 196 [dC (s.vars.getD i []),Zp (ms.getD i 0),N (lM (bK s.groups) c sl (s.vars.getD i []))] (.b true):=fun i hi=>by
  have:=tW (s.vars.getD i []) (x:=ms.getD i 0) (L:=lM (bK s.groups) c sl (s.vars.getD i [])) (by have:=hmb i hi;omega) (Pp hr lo (hb _ (ay [] hi)).2)
  rwa[hM i hi]at this
 generalize a6 ch (num c)=cm at*;generalize fH (bK s.groups) s.vars ms w ch=rs at*;unfold Ed at*;obtain⟨gs,us,es⟩:=s;simp only at nv hwl hml hmL hre hbo⊢;generalize bK gs=o at*;have l2:(us.map dC).length=us.length:=aH ..;have l3:(us.map (lP o c sl)).length=us.length:=aH ..;have l4:(w.map Zp).length=us.length:=by rw[aH];exact hwl
 have l5:(ms.map Zp).length=us.length:=by rw[aH];exact hml
 clear hW hwb hmb hM hwA hmA h33 h64 hb hp hr;unfold dy.pv at*;simp only at*;refine eW Tryz.call119 Tryz.func119 ?_;repeat' first|simp only[go_sem,seval,l2,l4,l5,hd trivial]|refine cP hbo ?_|refine cP hv1 ?_|refine cP hv2 ?_|refine cP hn ?_|refine cP hcm ?_|refine cP hrg ?_|refine sB ?_|(first|apply pX|apply bX)<;>intro hc|refine⟨oD,?_⟩|exact oD|fail
 refine aj (α:=Nat) (fun i=>us.length-i) (fun i=>⟨[(2, .v (.sl (w.map Zp))),(3, .v (.sl (ms.map Zp))),(4, .v (N ch)),(6, .p 1001 0 0),(12, .v (.sl (us.map (lP o c sl)))),(68, .v (.sl (us.map dC))),(69,E' us.length),(70,E' i)],[(1001,⟨0,[.v (.sl (gs.map gG)), .v (.sl (us.map dC)), .v (.sl (es.map eE.pv))],false,none⟩)],_⟩) (fun i=>i≤us.length) 0 (fun _=>au _) (aL _) ?_ ?_
 ·exact lE
 ·intro i hi R hR
  by_cases hlt:i<us.length
  ·have hgo:=hR (i+1) (by omega) (by omega)
   have e1:=getD_map dC us [] hlt;have e2:=getD_map (lP o c sl) us [] hlt;have e4:=getD_map Zp ms 0 (i:=i) (by omega)
   have hc:=hmL i hlt;clear hR hmL hre hv1 hv2;simp only[lP]at e2;generalize lM o c sl (us.getD i [])=M at*;generalize us.getD i []=u at*;generalize ms.getD i 0=x at*;simp only[dC]at e1 hc;simp only[Zp,eg,lf]at e4 hc;repeat' first|simp only[go_sem,seval,l2,l3,l5,e1,e2,e4]|refine cP hc ?_|refine sB ?_|(first|apply pX|apply bX)<;>intro hc|refine⟨oD,?_⟩|exact oD|fail
   refine hgo _ ?_;exact lE
  ·obtain rfl:i=us.length:=by omega
   clear hR hmL;generalize DD o c sl us rs=b at*;cases b
   ·repeat' first|simp only[go_sem,seval]|refine cP hre ?_|refine sB ?_|(first|apply pX|apply bX)<;>intro hc|refine⟨oD,?_⟩|exact oD|fail
    all_goals rfl
   ·repeat' first|simp only[go_sem,seval]|refine cP hre ?_|refine sB ?_|(first|apply pX|apply bX)<;>intro hc|refine⟨oD,?_⟩|exact oD|fail
    all_goals rfl
theorem UN (b:Bytes):aD Tryz.prog 175 [dC b] (.s (if b=[]then([]:Bytes)else b)):=by
 have h:=OQ b;split
 ·rename_i g;subst g;exact h
 ·exact h
theorem UO (m:Bytes) {o:Bytes} (h:o≠[]):aD Tryz.prog 176 [.sl [G m o], .fn (.func 177)] (E 0):=by
 have hb:(o !=([]:Bytes))=true:=by simpa using h
 have hb2:(o==([]:Bytes))=false:=by simpa using h
 have h:aD Tryz.prog 177 [G m o] (.b true):=by
  refine eW Tryz.call177 Tryz.func177 ?_;repeat' first|simp only[go_sem,seval,hb,hb2]|refine sB ?_|(first|apply pX|apply bX)<;>intro hc|refine⟨oD,?_⟩|exact oD|fail
  all_goals rfl
 refine eW Tryz.call176 Tryz.func176 ?_;repeat' first|simp only[go_sem,seval]|refine sB ?_|(first|apply pX|apply bX)<;>intro hc|refine⟨oD,?_⟩|exact oD|fail
 refine ae ?_;repeat' first|simp only[go_sem,seval]|refine cP h ?_|refine sB ?_|(first|apply pX|apply bX)<;>intro hc|refine⟨oD,?_⟩|exact oD|fail
theorem UP (b o:Bytes):aD Tryz.prog 178 [dC b, .pt (.agg [.s o]) 0] (.s (if b=[]then o else b)):=by
 unfold dC
 by_cases h:b=[]
 ·subst h;refine eW Tryz.call178 Tryz.func178 ?_;repeat' first|simp only[go_sem,seval,nn]|refine sB ?_|(first|apply pX|apply bX)<;>intro hc|refine⟨oD,?_⟩|exact oD|fail
  all_goals rfl
 ·have hb:(b==([]:Bytes))=false:=by simpa using h
  rw[if_neg h];refine eW Tryz.call178 Tryz.func178 ?_;repeat' first|simp only[go_sem,seval,hb]|refine sB ?_|(first|apply pX|apply bX)<;>intro hc|refine⟨oD,?_⟩|exact oD|fail
noncomputable def xZ (s:dy) (w:List Int) (vs:List Bytes) (a:Int):Int:=if !eU vs a then 3 else if w.length≠s.vars.length then 6 else if !zE (bK s.groups) s.vars w then 2 else if !G7 s w then 18 else 0
theorem Lw {c sl:Bytes} {s:dy} (hs:Be s) {m o:Bytes} (hg1:s.groups=[(m,o)]) {w:List Int} (hw6:w.length<1000000) (hw: ∀x∈w,x.natAbs<du) (hW:zE (bK s.groups) s.vars w=true→WS s w) {vs:List Bytes} (sd:Bytes) {a:Int} (hl:vs.length<1000000):aD Tryz.prog 115 [X0 c sl s, .sl (w.map Zp), .sl [],T vs sd a] (E (xZ s w vs a)):=by
 have v1:=fp (w.map lf) _ _ (by rw[aH];omega) OP
 rw[lr,tS hw,UW]at v1;have v2:=mC [] 174 [.pt (.agg [.fn (.func 170)]) 0] (fun _=>true) (by decide) (fun x hx=>by cases hx)
 rw[show(([]:List (List (Bool×Bytes))).any fun _=>true)=false from rfl]at v2
 have v3:=EI sd (a:=a) hl;have nv:=hs.nv;have hb:=hs.v;have hh:=fun h=>He hs (w:=w) h hw hW
 have hoV:=ff hs.g;have hnb: ∀b∈s.vars,bK s.groups=[]→b≠[]:=fun b h1 h2 h3=>zI hs (h3▸h1) h2
 obtain⟨gs,us,es⟩:=s;simp only at hg1 nv hb hh hoV hnb;subst hg1;have l2:(us.map dC).length=us.length:=aH ..;have l5:(w.map Zp).length=w.length:=aH ..;have ho:bK [(m,o)]=o:=by
  by_cases h:o=[]
  ·subst h;rfl
  ·simp[bK,h]
 rw[ho]at hh hoV hnb;unfold xZ;simp only[ho,X0,dy.pv,ba,bG,gG]at hh v2⊢;clear hs hW
 cases hg:eU vs a with
 |false=>
  rw[hg]at v3;simp only[bR,bu,if_true];refine eW Tryz.call115 Tryz.func115 ?_;repeat' first|simp only[go_sem,seval,aN]|refine cP v1 ?_|refine cV v2 ?_|refine cP v3 ?_|refine cP pV ?_|refine sB ?_|(first|apply pX|apply bX)<;>intro hc|refine⟨oD,?_⟩|exact oD|fail
  all_goals rfl
 |true=>
  rw[hg]at v3;simp only[bu,aW,if_false]
  by_cases hwl:w.length=us.length
  ·rw[if_neg (by simpa using hwl)]
   have hh:=hh hwl;have hI: ∀ _:True,((w.length:Int) !=us.length)=false:=fun _=>by rw[hwl];simp
   by_cases ho0:o=[]
   ·have v4:=OS m;subst ho0;refine eW Tryz.call115 Tryz.func115 ?_;repeat' first|simp only[go_sem,seval,aN,l2,l5,hI trivial]|refine cP v1 ?_|refine cV v2 ?_|refine cP v3 ?_|refine cP pV ?_|refine cP v4 ?_|refine sB ?_|(first|apply pX|apply bX)<;>intro hc|refine⟨oD,?_⟩|exact oD|fail
    refine aj (α:=Nat) (fun i=>us.length-i) (fun i=>⟨[(1, .v (.sl (w.map Zp))),(2, .v (.sl [])),(4, .p 1000 0 0),(13, .v (.fn (.func 175))),(76, .v (.sl (us.map dC))),(77,E' us.length),(78,E' i)],[(1000,⟨0,[.v (.s c), .v (.s sl), .v (.sl [G m []]), .v (.sl (us.map dC)), .v (.sl (es.map eE.pv)), .v (.sl []), .v (.sl []), .v (.s [])],false,none⟩)],_⟩) (fun i=>i≤us.length∧ ∀j,j<i→jf (us.getD j []) (w.getD j 0) (eS [] (us.getD j []))=true) 0 (fun _=>au _) ⟨aL _,fun j hj=>by omega⟩ ?_ ?_
    ·exact lE
    ·rintro i ⟨hi,hlts⟩ R hR;clear v1 v2 v3
     by_cases hlt:i<us.length
     ·have e1:=getD_map dC us [] hlt;have e2:=getD_map Zp w 0 (i:=i) (by omega)
      have kb:=hb _ (ay [] hlt);have kw:=hw _ (ay 0 (show i<w.length by omega))
      have hv0:=hnb _ (ay [] hlt);have hgo:=fun h=>hR (i+1) ⟨by omega,h⟩ (by omega)
      have hbad:=fun h: ¬jf (us.getD i []) (w.getD i 0) (eS [] (us.getD i []))=true=>ot (p:=fun i=>jf (us.getD i []) (w.getD i 0) (eS [] (us.getD i []))) hlt (fj.2 h)
      have hnx:jf (us.getD i []) (w.getD i 0) (eS [] (us.getD i []))=true→ ∀j,j<i+1→jf (us.getD j []) (w.getD j 0) (eS [] (us.getD j []))=true:=fun h j hj=>by
       by_cases hji:j<i
       ·exact hlts j hji
       ·obtain rfl:j=i:=by omega
        exact h
      rw[←zE]at hbad;clear hR hlts hh;generalize us.getD i []=b at*;generalize w.getD i 0=x at*;have hz:=r5 kw;simp only[lf,db,aZ]at hz;have hc:=qj hz.1 (show aa (if b=[]then[]else b)=true by split;exact hoV.1;exact kb.1)
      have hbl:num (if b=[]then[]else b)=eS [] b:=by unfold eS;split<;>rfl
      rw[zS,hbl]at hc;have h3:=UN b;have hd:decide (a6 x.natAbs (eS [] b)≥0)= !decide (x.natAbs<eS [] b):=Pk _ _;have hzs:zs x=decide (x<0):=rfl;simp only[dC]at e1 h3;simp only[Zp,eg,lf]at e2;unfold jf at hbad hnx;clear hbl kb kw hz;generalize a6 x.natAbs (eS [] b)=cm at*;generalize decide (x.natAbs<eS [] b)=p at*;generalize decide (x<0)=q at*;generalize (if b=[]then[]else b)=y at*
      have hbb:(b==[])=decide (b=[]):=by rw[dx,beq_iff_eq,decide_eq_true_eq]
      generalize decide (b=[])=b0 at*;cases p
      ·rw[hbad (by simp)]
       simp only[bR,if_true];repeat' first|simp only[go_sem,seval,aN,l2,l5,e1,e2,hbb,hd,hzs]|refine cP h3 ?_|refine cV h3 ?_|refine cP hc ?_|refine sB ?_|(first|apply pX|apply bX)<;>intro hc|refine⟨oD,?_⟩|exact oD|fail
       all_goals rfl
      ·cases b0
       ·have hgo:=hgo (hnx (by simp))
        repeat' first|simp only[go_sem,seval,aN,l2,l5,e1,e2,hbb,hd,hzs]|refine cP h3 ?_|refine cV h3 ?_|refine cP hc ?_|refine sB ?_|(first|apply pX|apply bX)<;>intro hc|refine⟨oD,?_⟩|exact oD|fail
        refine hgo _ ?_;exact lE
       ·cases q
        ·have hgo:=hgo (hnx (by simp))
         repeat' first|simp only[go_sem,seval,aN,l2,l5,e1,e2,hbb,hd,hzs]|refine cP h3 ?_|refine cV h3 ?_|refine cP hc ?_|refine sB ?_|(first|apply pX|apply bX)<;>intro hc|refine⟨oD,?_⟩|exact oD|fail
         refine hgo _ ?_;exact lE
        ·rw[hbad (by simp)]
         simp only[bR,if_true];repeat' first|simp only[go_sem,seval,aN,l2,l5,e1,e2,hbb,hd,hzs]|refine cP h3 ?_|refine cV h3 ?_|refine cP hc ?_|refine sB ?_|(first|apply pX|apply bX)<;>intro hc|refine⟨oD,?_⟩|exact oD|fail
         all_goals rfl
     ·obtain rfl:i=us.length:=by omega
      have hg:zE [] us w=true:=nT fun j hj=>hlts j hj
      rw[hg,bZ]at hh;rw[hg];simp only[bu,aW,if_false];clear hR hlts hb;generalize G7 ⟨[(m,[])],us,es⟩ w=b at*;cases b
      ·repeat' first|simp only[go_sem,seval]|refine cP hh ?_|refine cP uU ?_|(refine ae ?_)|refine sB ?_|(first|apply pX|apply bX)<;>intro hc|refine⟨oD,?_⟩|exact oD|fail
       all_goals rfl
      ·repeat' first|simp only[go_sem,seval]|refine cP hh ?_|refine cP uU ?_|(refine ae ?_)|refine sB ?_|(first|apply pX|apply bX)<;>intro hc|refine⟨oD,?_⟩|exact oD|fail
       all_goals rfl
   ·have v4:=UO m ho0;refine eW Tryz.call115 Tryz.func115 ?_;repeat' first|simp only[go_sem,seval,aN,l2,l5,hI trivial]|refine cP v1 ?_|refine cV v2 ?_|refine cP v3 ?_|refine cP pV ?_|refine cP v4 ?_|refine sB ?_|(first|apply pX|apply bX)<;>intro hc|refine⟨oD,?_⟩|exact oD|fail
    refine aj (α:=Nat) (fun i=>us.length-i) (fun i=>⟨[(1, .v (.sl (w.map Zp))),(2, .v (.sl [])),(4, .p 1000 0 0),(13, .fn (.func 178) [] [.p 1057 0 0]),(76, .v (.sl (us.map dC))),(77,E' us.length),(78,E' i)],[(1000,⟨0,[.v (.s c), .v (.s sl), .v (.sl [G m o]), .v (.sl (us.map dC)), .v (.sl (es.map eE.pv)), .v (.sl []), .v (.sl []), .v (.s [])],false,none⟩),(1057,⟨0,[.v (.s o)],false,some 22⟩)],_⟩) (fun i=>i≤us.length∧ ∀j,j<i→jf (us.getD j []) (w.getD j 0) (eS o (us.getD j []))=true) 0 (fun _=>au _) ⟨aL _,fun j hj=>by omega⟩ ?_ ?_
    ·exact lE
    ·rintro i ⟨hi,hlts⟩ R hR;clear v1 v2 v3
     by_cases hlt:i<us.length
     ·have e1:=getD_map dC us [] hlt;have e2:=getD_map Zp w 0 (i:=i) (by omega)
      have kb:=hb _ (ay [] hlt);have kw:=hw _ (ay 0 (show i<w.length by omega))
      have hv0:=hnb _ (ay [] hlt);have hgo:=fun h=>hR (i+1) ⟨by omega,h⟩ (by omega)
      have hbad:=fun h: ¬jf (us.getD i []) (w.getD i 0) (eS o (us.getD i []))=true=>ot (p:=fun i=>jf (us.getD i []) (w.getD i 0) (eS o (us.getD i []))) hlt (fj.2 h)
      have hnx:jf (us.getD i []) (w.getD i 0) (eS o (us.getD i []))=true→ ∀j,j<i+1→jf (us.getD j []) (w.getD j 0) (eS o (us.getD j []))=true:=fun h j hj=>by
       by_cases hji:j<i
       ·exact hlts j hji
       ·obtain rfl:j=i:=by omega
        exact h
      rw[←zE]at hbad;clear hR hlts hh;generalize us.getD i []=b at*;generalize w.getD i 0=x at*;have hz:=r5 kw;simp only[lf,db,aZ]at hz;have hc:=qj hz.1 (show aa (if b=[]then o else b)=true by split;exact hoV.1;exact kb.1)
      have hbl:num (if b=[]then o else b)=eS o b:=by unfold eS;split<;>rfl
      rw[zS,hbl]at hc;have h3:=UP b o;have hd:decide (a6 x.natAbs (eS o b)≥0)= !decide (x.natAbs<eS o b):=Pk _ _;have hzs:zs x=decide (x<0):=rfl;simp only[dC]at e1 h3;simp only[Zp,eg,lf]at e2;unfold jf at hbad hnx;clear hbl kb kw hz;generalize a6 x.natAbs (eS o b)=cm at*;generalize decide (x.natAbs<eS o b)=p at*;generalize decide (x<0)=q at*;generalize (if b=[]then o else b)=y at*
      have hbb:(b==[])=decide (b=[]):=by rw[dx,beq_iff_eq,decide_eq_true_eq]
      generalize decide (b=[])=b0 at*;cases p
      ·rw[hbad (by simp)]
       simp only[bR,if_true];repeat' first|simp only[go_sem,seval,aN,l2,l5,e1,e2,hbb,hd,hzs]|refine cP h3 ?_|refine cV h3 ?_|refine cP hc ?_|refine sB ?_|(first|apply pX|apply bX)<;>intro hc|refine⟨oD,?_⟩|exact oD|fail
       all_goals rfl
      ·cases b0
       ·have hgo:=hgo (hnx (by simp))
        repeat' first|simp only[go_sem,seval,aN,l2,l5,e1,e2,hbb,hd,hzs]|refine cP h3 ?_|refine cV h3 ?_|refine cP hc ?_|refine sB ?_|(first|apply pX|apply bX)<;>intro hc|refine⟨oD,?_⟩|exact oD|fail
        refine hgo _ ?_;exact lE
       ·cases q
        ·have hgo:=hgo (hnx (by simp))
         repeat' first|simp only[go_sem,seval,aN,l2,l5,e1,e2,hbb,hd,hzs]|refine cP h3 ?_|refine cV h3 ?_|refine cP hc ?_|refine sB ?_|(first|apply pX|apply bX)<;>intro hc|refine⟨oD,?_⟩|exact oD|fail
         refine hgo _ ?_;exact lE
        ·rw[hbad (by simp)]
         simp only[bR,if_true];repeat' first|simp only[go_sem,seval,aN,l2,l5,e1,e2,hbb,hd,hzs]|refine cP h3 ?_|refine cV h3 ?_|refine cP hc ?_|refine sB ?_|(first|apply pX|apply bX)<;>intro hc|refine⟨oD,?_⟩|exact oD|fail
         all_goals rfl
     ·obtain rfl:i=us.length:=by omega
      have hg:zE o us w=true:=nT fun j hj=>hlts j hj
      rw[hg,bZ]at hh;rw[hg];simp only[bu,aW,if_false];clear hR hlts hb;generalize G7 ⟨[(m,o)],us,es⟩ w=b at*;cases b
      ·repeat' first|simp only[go_sem,seval]|refine cP hh ?_|refine cP uU ?_|(refine ae ?_)|refine sB ?_|(first|apply pX|apply bX)<;>intro hc|refine⟨oD,?_⟩|exact oD|fail
       all_goals rfl
      ·repeat' first|simp only[go_sem,seval]|refine cP hh ?_|refine cP uU ?_|(refine ae ?_)|refine sB ?_|(first|apply pX|apply bX)<;>intro hc|refine⟨oD,?_⟩|exact oD|fail
       all_goals rfl
  ·rw[if_pos hwl];have e6:((w.length:Int) !=us.length)=true:=by rw[bne_iff_ne];omega
   refine eW Tryz.call115 Tryz.func115 ?_;repeat' first|simp only[go_sem,seval,aN,l2,l5,e6]|refine cP v1 ?_|refine cV v2 ?_|refine cP v3 ?_|refine cP pV ?_|refine sB ?_|(first|apply pX|apply bX)<;>intro hc|refine⟨oD,?_⟩|exact oD|fail
   all_goals rfl
noncomputable def Aj (c sl ctx:Bytes) (s:dy) (w:List Int) (vs:List Bytes) (sd:Bytes):Nat→Nat→Except Int (Bytes×List Int×Nat)
 |0,_=> .error 15
 |k+1,i=>match my (bK s.groups) c sl vs sd s.vars i []with
  | .error e=> .error e
  | .ok ms=>
   if DD (bK s.groups) c sl s.vars (fH (bK s.groups) s.vars ms w (kj (Fj ctx s (vT s ms)) c))then .ok (aP (kj (Fj ctx s (vT s ms)) c),fH (bK s.groups) s.vars ms w (kj (Fj ctx s (vT s ms)) c),i+s.vars.length)else Aj c sl ctx s w vs sd k (i+s.vars.length)
noncomputable def zW (c sl ctx:Bytes) (s:dy) (w:List Int) (vs:List Bytes) (sd:Bytes) (a:Int):Except Int (Bytes×List Int×Nat):=
 if xZ s w vs a≠0 then .error (xZ s w vs a)else Aj c sl ctx s w vs sd 64 a.toNat
theorem OT {s:dy} {w:List Int} {vs:List Bytes} {a:Int} (h:xZ s w vs a=0):eU vs a=true∧w.length=s.vars.length∧zE (bK s.groups) s.vars w=true∧G7 s w=true:=by
 unfold xZ at h
 split at h
 ·cases h
 ·rename_i h1
  split at h
  ·cases h
  ·rename_i h2
   split at h
   ·cases h
   ·rename_i h3
    split at h
    ·cases h
    ·rename_i h4;exact⟨by simpa using h1,by simpa using h2,by simpa using h3,by simpa using h4⟩
theorem Q5 {s:dy} (hs:Be s) (w:List Int): ∀x∈vT s w,x.length≤8∧aa x=true:=by
 intro x hx;obtain⟨q,hq,rfl⟩:=a5.1 hx;obtain⟨q1,q2,-⟩:=hs.q q hq;have hg:=hs.g _ (ay gO (show q.lF.toNat<s.groups.length by omega))
 have hm:=(jY hg.1).2.2.1;have hlt:Q6 s.groups w q<256^8:=by
  unfold Q6 C9;exact ie (aG _ (by omega)) (ep hg.2.1)
 exact⟨mT.2 hlt,vN hlt⟩
theorem Im {c sl:Bytes} {s:dy} (hp:EJ c sl s) (hbd:S2 s) (h00:s.eqs≠[]) {m o:Bytes} (hg1:s.groups=[(m,o)]) {ctx:Bytes} (hx:ctx.length≤100000) {w:List Int} (hw6:w.length<1000000) (hw: ∀x∈w,x.natAbs<du) (hW:zE (bK s.groups) s.vars w=true→WS s w) {vs:List Bytes} {sd:Bytes} {a:Int} (hl:vs.length<1000000) (hsd:sd.length<1000000):
  aD Tryz.prog 64 [.agg [.s c, .s sl], .s ctx,s.pv, .sl (w.map Zp),C0, .sl [],T vs sd a] (TW vs sd (zW c sl ctx s w vs sd a)):=by
 have hr:=hp.r;have hs:=hp.g;have hn:=sZ hp;have hwt:=Lw (c:=c) (sl:=sl) hs hg1 hw6 hw hW sd (a:=a) hl;unfold zW
 by_cases he:xZ s w vs a=0
 ·rw[if_neg (by simpa using he)]
  rw[he]at hwt;obtain⟨f2,f3,f4,-⟩:=OT he;obtain⟨g1,g2,g3⟩:=vP f2;obtain⟨i0,rfl⟩: ∃i:Nat,a=i:=⟨a.toNat,by omega⟩
  rw[Int.toNat_natCast];have hCo:=fun(i:Nat) (hi:i≤2147483647)=>Gn hp (vs:=vs) (sd:=sd) (i:=i) g1 hi hl hsd
  have hRe:=fun(ms:List Int) (ch:Nat) (hml:ms.length=s.vars.length) (hch:ch<num c)=>Dd hp f3 hml hch f4
  have hMf:=fun(i:Nat) (hi:i≤2147483647) (ms:List Int)=>wE hp (sd:=sd) (i:=i) g1 hi hl (ms:=ms)
  have hCh:=fun(fs:List Bytes)=>vf hr hbd hx (fs:=fs)
  have hB:=fun(i:Nat) (hi:i≤2147483647)=>LV (vs:=vs) (a:=i) sd (vO g1 hi) hl
  have hmI:=Q5 hs;have hii: ∀ms:List Int,vT s ms≠[]∧(vT s ms).length≤900:=fun ms=>by
   have:=zC s ms;have ne:=hs.ne;exact⟨fun h=>h00 (jz.1 (by rw[←this,h];rfl)),by omega⟩
  obtain⟨R0,hR0⟩: ∃R0,R0=Aj c sl ctx s w vs sd 64 i0:=⟨_,rfl⟩;rw[←hR0];obtain⟨gs,us,es⟩:=s;simp only[X0,dy.pv]at hn hwt hCo hRe hCh hMf hg1⊢;subst hg1;obtain⟨oq,hoq⟩: ∃oq,oq=bK [(m,o)]:=⟨_,rfl⟩;simp only[ba,bG,gG,←hoq]at hn hwt hCo hRe hCh hMf f4⊢;refine eW Tryz.call64 Tryz.func64 ?_;repeat' first|simp only[go_sem,seval]|refine cP hn ?_|refine cP hwt ?_|refine sB ?_|(first|apply pX|apply bX)<;>intro hc|refine⟨oD,?_⟩|exact oD|fail
  refine aj (α:=Nat×Nat) (fun p=>64-p.1) (fun p=>⟨[(1, .v (.s ctx)),(3, .v (.sl (w.map Zp))),(5, .v (.sl [])),(7, .p 1000 0 0),(9, .p 1001 0 0),(11, .p 1002 0 0),(13, .p 1003 0 0),(14, .p 1004 0 0),(15, .p 1005 0 0),(17, .p 1014 0 0),(50,E' p.1)],[(1000,⟨0,[.v (.s c), .v (.s sl)],false,none⟩),(1001,⟨0,[.v (.sl [G m o]), .v (.sl (us.map dC)), .v (.sl (es.map eE.pv))],false,none⟩),(1002,⟨0,[.v (.sl []), .v (.sl [])],false,none⟩),(1003,⟨0,[.v (.sl (vs.map .s)), .v (.s sd), .v (.i .i64 ((p.2:Nat):Int))],false,none⟩),(1004,⟨0,[.v (.s []), .sn, .sn, .sn],false,some 66⟩),(1005,⟨0,[.sn, .v (.s []), .v (.i .i64 0)],false,some 40⟩),(1014,⟨0,[.v (.s c), .v (.s sl), .v (.sl [G m o]), .v (.sl (us.map dC)), .v (.sl (es.map eE.pv)), .v (.sl []), .v (.sl []), .v (.s [])],false,some 164⟩)],1028⟩) (fun p=>p.1≤64∧p.2≤2147483647∧R0=Aj c sl ctx ⟨[(m,o)],us,es⟩ w vs sd (64-p.1) p.2) (0,i0) (fun _=>bQ rfl) ⟨aL _,by omega,hR0⟩ ?_ ?_
  ·exact lE
  ·clear hn hwt hR0 he f2;rintro⟨k,i⟩ ⟨hk,hi,hR0⟩ R hR;simp only at hk hi hR0
   by_cases hlt:k<64
   ·obtain⟨q,hq⟩: ∃q,64-k=q+1:=⟨63-k,by omega⟩
    rw[hq,Aj]at hR0;simp only[←hoq]at hR0;have hCo:=hCo i hi
    cases hM:my oq c sl vs sd us i []with
    |error e=>
     simp only[hM]at hR0 hCo;subst hR0;have he:(e !=0)=true:=by rcases BV hM with rfl|rfl<;>rfl
     simp only[I9]at hCo;clear hR;repeat' first|simp only[go_sem,seval,he]|refine cP hCo ?_|refine sB ?_|(first|apply pX|apply bX)<;>intro hc|refine⟨oD,?_⟩|exact oD|fail
     all_goals rfl
    |ok ms=>
     simp only[hM]at hR0 hCo;simp only[I9]at hCo;obtain⟨m1,m2,m3,m4⟩:=hMf i hi ms hM;have hii:=hii ms;have hCh:=hCh (vT ⟨[(m,o)],us,es⟩ ms) hii.1 hii.2 (fun x hx=>by have:=(hmI _ x hx).1;omega)
     have hlc:=yX (Fj ctx ⟨[(m,o)],us,es⟩ (vT ⟨[(m,o)],us,es⟩ ms)) hr.c2;have hRe:=hRe ms _ m1 hlc m2;generalize kj (Fj ctx ⟨[(m,o)],us,es⟩ (vT ⟨[(m,o)],us,es⟩ ms)) c=z at*;have hB:=hB (i+us.length) m3;generalize vT ⟨[(m,o)],us,es⟩ ms=L at*;unfold Ed at hRe
     by_cases hin:DD oq c sl us (fH oq us ms w z)=true
     ·rw[if_pos hin]at hR0 hRe;subst hR0;generalize fH oq us ms w z=rs at*;clear hR hMf m2 m4 hmI hM f4;repeat' first|simp only[go_sem,seval]|refine cP hCo ?_|refine cP hB ?_|refine cP hCh ?_|refine cP hRe ?_|refine sB ?_|(first|apply pX|apply bX)<;>intro hc|refine⟨oD,?_⟩|exact oD|fail
      all_goals rfl
     ·rw[if_neg hin]at hR0 hRe;have hgo:=hR (k+1,i+us.length) ⟨by omega,m3,by rw[show 64-(k+1)=q by omega];exact hR0⟩ (by simp only;omega)
      clear hR hMf m2 m4 hmI hM f4;repeat' first|simp only[go_sem,seval]|refine cP hCo ?_|refine cP hB ?_|refine cP hCh ?_|refine cP hRe ?_|refine sB ?_|(first|apply pX|apply bX)<;>intro hc|refine⟨oD,?_⟩|exact oD|fail
      refine hgo _ ?_;exact lE
   ·obtain rfl:k=64:=by omega
    simp only[fh,Aj]at hR0;subst hR0;clear hR hRe hCh hCo hMf hB;repeat' first|simp only[go_sem,seval]|refine sB ?_|(first|apply pX|apply bX)<;>intro hc|refine⟨oD,?_⟩|exact oD|fail
    all_goals rfl
 ·rw[if_pos he];have hb:(xZ s w vs a==0)=false:=by simpa using he
  have hb2:(xZ s w vs a !=0)=true:=by simpa using he
  generalize xZ s w vs a=e at*;obtain⟨gs,us,es⟩:=s;simp only[X0,dy.pv]at hn hwt⊢;refine eW Tryz.call64 Tryz.func64 ?_;repeat' first|simp only[go_sem,seval,hb,hb2]|refine cP hn ?_|refine cP hwt ?_|refine sB ?_|(first|apply pX|apply bX)<;>intro hc|refine⟨oD,?_⟩|exact oD|fail
  all_goals rfl
end Go.Proofs.YtmobkhegihemeaaGreatDoor
