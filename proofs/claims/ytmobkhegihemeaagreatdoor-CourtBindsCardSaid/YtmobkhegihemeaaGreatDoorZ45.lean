/-
  Part of the proof, part Z45. Own work.
-/
import Derived.Test.YtmobkhegihemeaaGreatDoorZ44
set_option linter.all false
namespace Go.Proofs.YtmobkhegihemeaaGreatDoor
open Go Go.Dom Go.Num
set_option maxRecDepth 100000
set_option maxHeartbeats 16000000
def eg (o b:Bytes) (m w:Int) (c:Nat):Int:=if b=[]then(m+c*w)%num o else m+c*w
def dG (o:Bytes) (us:List Bytes) (ms w:List Int) (c:Nat):List Int:=(List.range us.length).map fun i=>eg o (us.getD i []) (ms.getD i 0) (w.getD i 0) c
theorem xj (o:Bytes) (us:List Bytes) (ms w:List Int) (c:Nat):(dG o us ms w c).length=us.length:=by simp[dG]
theorem xA {o:Bytes} {us:List Bytes} {ms w:List Int} {c i:Nat} (h:i<us.length):(dG o us ms w c).getD i 0=eg o (us.getD i []) (ms.getD i 0) (w.getD i 0) c:=by
 simp[dG,List.getD_eq_getElem?_getD,h]
def zA (o c sl:Bytes) (us:List Bytes) (rs:List Int):Bool:=(List.range us.length).all fun i=>fx (us.getD i []) (rs.getD i 0) (lR o c sl (us.getD i []))
def zI (o c sl:Bytes) (us:List Bytes) (rs:List Int):PV:=if zA o c sl us rs then .tup [.sl (rs.map Zp),E 0]else .tup [.sl [],E 15]
theorem F1 {o c sl b:Bytes} (hr:mD c sl) (lo:o.length≤8) (lb:b.length≤16):lR o c sl b<bR:=by
 unfold lR;split
 ·exact yw lo
 ·exact Ia hr lb
theorem BJ {o c sl b:Bytes} {m w:Int} {ch:Nat} (hol:num o<bR) (h64:num o<18446744073709551616) (h0:0<num o) (h:b=[]) (hx:m.natAbs+((ch:Int)*w).natAbs+18446744073709551616<bR):
  fx b (eg o b m w ch) (lR o c sl b)=true∧ ∃k:Nat,aA Tryz.prog 281 [Z ((ch:Int)*w),N (lM o c sl b)] (.tup [N k,E 0])∧aA Tryz.prog 47 [N k] (Z k)∧aA Tryz.prog 282 [Z m,Z k] (.tup [Z (m+k),E 0])∧ ∃k2:Nat,aA Tryz.prog 281 [Z (m+k),N (lM o c sl b)] (.tup [N k2,E 0])∧aA Tryz.prog 47 [N k2] (Z (eg o b m w ch)):=by
 subst h;have g1:=Int.emod_nonneg ((ch:Int)*w) (b:=num o) (by omega)
 have g2:=Int.emod_lt_of_pos ((ch:Int)*w) (b:=num o) (by omega)
 have g3:=Int.emod_nonneg (m+ch*w) (b:=num o) (by omega)
 have g4:=Int.emod_lt_of_pos (m+ch*w) (b:=num o) (by omega)
 simp only[lM,lR,eg,if_true];refine⟨?_,((ch:Int)*w%num o).toNat,Ll (by omega) hol h0,tC (by omega),x6 (by omega),((m+ch*w)%num o).toNat,?_,?_⟩
 ·simp only[fx,Bool.and_eq_true,decide_eq_true_eq,decide_true,Bool.true_and,Bool.not_eq_true',decide_eq_false_iff_not];omega
 ·have:=Ll (x:=m+(((ch:Int)*w%num o).toNat:Int)) (m:=num o) (by omega) hol h0
  rw[Int.toNat_of_nonneg g1,Int.add_emod_emod]at this;rw[Int.toNat_of_nonneg g1];exact this
 ·have:=tC (n:=((m+ch*w)%num o).toNat) (by omega)
  rwa[Int.toNat_of_nonneg g3]at this
theorem Hb {c sl:Bytes} {s:bT} (hp:Bj c sl s) {w ms:List Int} {ch:Nat} (hwl:w.length=s.vars.length) (hml:ms.length=s.vars.length) (hch:ch<bL) (hI: ∀i,i<s.vars.length→(w.getD i 0).natAbs<bL∧(ms.getD i 0).natAbs+((ch:Int)*w.getD i 0).natAbs+18446744073709551616<bR):
  aA Tryz.prog 197 [s.pv, .sl (s.vars.map (lP (aW s.groups) c sl)), .sl (w.map Zp), .sl (ms.map Zp),N ch] (zI (aW s.groups) c sl s.vars (dG (aW s.groups) s.vars ms w ch)):=by
 have hb:=hp.g.v;have nv:=hp.g.nv;have hr:=hp.r;have hov:=dh hp.g.g;have lo:=hov.2;have ho:[]∈s.vars→0<num (aW s.groups):=fun h=>Nat.pos_of_ne_zero (uU hov.1 (uk hp.g h))
 obtain⟨gs,us,es⟩:=s;simp only at hb nv hwl hml hI lo ho⊢;clear hp hov;generalize aW gs=o at*;have h64:=cv lo;have hol:=yw lo;have l2:(us.map bV).length=us.length:=List.length_map ..;have l3:(us.map (lP o c sl)).length=us.length:=List.length_map ..;have l4:(w.map Zp).length=us.length:=by rw[List.length_map];exact hwl
 have l5:(ms.map Zp).length=us.length:=by rw[List.length_map];exact hml
 have hF:=tC (n:=ch) (Nat.lt_of_lt_of_le hch vL);have hrl:=xj o us ms w ch;have rS: ∀{j:Nat},j<us.length→aV Zp ((dG o us ms w ch).take (j+1))=aV Zp ((dG o us ms w ch).take j)++[.v (.b (zs ((dG o us ms w ch).getD j 0))), .v (.s (zb ((dG o us ms w ch).getD j 0)))]:=fun h=>by
  rw[aP 0 (by omega),A1]
 unfold bT.pv;simp only
 by_cases hpos:0<us.length
 rotate_left
 ·obtain rfl:us=[]:=List.length_eq_zero_iff.1 (by omega)
  refine eW Tryz.call197 Tryz.func197 ?_;repeat' first|simp only[go_sem,seval]|(refine ae ?_)|refine sB ?_|(first|apply pX|apply bX)<;>intro hc|refine⟨oD,?_⟩|exact oD|fail
  all_goals rfl
 refine eW Tryz.call197 Tryz.func197 ?_;repeat' first|simp only[go_sem,seval,l2]|refine sB ?_|(first|apply pX|apply bX)<;>intro hc|refine⟨oD,?_⟩|exact oD|fail
 refine ae ?_;have e1:=getD_map bV us [] hpos;have e2:=getD_map (lP o c sl) us [] hpos;have e3:=getD_map Zp w 0 (i:=0) (by omega)
 have e4:=getD_map Zp ms 0 (i:=0) (by omega)
 have kb:=hb _ (ax [] hpos);have hk:=jw (us.getD 0 []);have hx:=hI 0 hpos;have hp:=FQ (x:=(ch:Int)) (y:=w.getD 0 0) (by simpa using hch) hx.1
 have hgr:=xA (o:=o) (ms:=ms) (w:=w) (c:=ch) hpos;have hgk: ∀k,k<0+1→(∀q,q<0→fx (us.getD q []) ((dG o us ms w ch).getD q 0) (lR o c sl (us.getD q []))=true)→fx (us.getD 0 []) ((dG o us ms w ch).getD 0 0) (lR o c sl (us.getD 0 []))=true→fx (us.getD k []) ((dG o us ms w ch).getD k 0) (lR o c sl (us.getD k []))=true:=fun k hk h1 h2=>by
  by_cases hkj:k<0
  ·exact h1 k hkj
  ·obtain rfl:k=0:=by omega
   exact h2
 rw[hgr]at hgk;have hbad:=fun h: ¬fx (us.getD 0 []) ((dG o us ms w ch).getD 0 0) (lR o c sl (us.getD 0 []))=true=>kn (p:=fun i=>fx (us.getD i []) ((dG o us ms w ch).getD i 0) (lR o c sl (us.getD i []))) hpos (Bool.eq_false_iff.2 h)
 rw[←zA,hgr]at hbad;have r1:=rS hpos;rw[hgr]at r1;have hcs:(us.getD 0 []≠[]∧fx (us.getD 0 []) (eg o (us.getD 0 []) (ms.getD 0 0) (w.getD 0 0) ch) (lR o c sl (us.getD 0 []))=false∧aA Tryz.prog 282 [Z (ms.getD 0 0),Z ((ch:Int)*w.getD 0 0)] (.tup [Z (eg o (us.getD 0 []) (ms.getD 0 0) (w.getD 0 0) ch),E 0])∧aA Tryz.prog 196 [bV (us.getD 0 []),Zp (eg o (us.getD 0 []) (ms.getD 0 0) (w.getD 0 0) ch),N (lR o c sl (us.getD 0 []))] (.b false))∨
   (us.getD 0 []=[]∧fx (us.getD 0 []) (eg o (us.getD 0 []) (ms.getD 0 0) (w.getD 0 0) ch) (lR o c sl (us.getD 0 []))=true∧ ∃k:Nat,aA Tryz.prog 281 [Z ((ch:Int)*w.getD 0 0),N (lM o c sl (us.getD 0 []))] (.tup [N k,E 0])∧aA Tryz.prog 47 [N k] (Z k)∧aA Tryz.prog 282 [Z (ms.getD 0 0),Z k] (.tup [Z (ms.getD 0 0+k),E 0])∧ ∃k2:Nat,aA Tryz.prog 281 [Z (ms.getD 0 0+k),N (lM o c sl (us.getD 0 []))] (.tup [N k2,E 0])∧aA Tryz.prog 47 [N k2] (Z (eg o (us.getD 0 []) (ms.getD 0 0) (w.getD 0 0) ch)))∨
   (us.getD 0 []≠[]∧fx (us.getD 0 []) (eg o (us.getD 0 []) (ms.getD 0 0) (w.getD 0 0) ch) (lR o c sl (us.getD 0 []))=true∧aA Tryz.prog 282 [Z (ms.getD 0 0),Z ((ch:Int)*w.getD 0 0)] (.tup [Z (eg o (us.getD 0 []) (ms.getD 0 0) (w.getD 0 0) ch),E 0])∧aA Tryz.prog 196 [bV (us.getD 0 []),Zp (eg o (us.getD 0 []) (ms.getD 0 0) (w.getD 0 0) ch),N (lR o c sl (us.getD 0 []))] (.b true)):=by
  by_cases h:us.getD 0 []=[]
  ·exact .inr (.inl ⟨h,BJ hol h64 (ho (by rw[←h];exact ax [] hpos)) h hx.2⟩)
  ·have h1:aA Tryz.prog 282 [Z (ms.getD 0 0),Z ((ch:Int)*w.getD 0 0)] (.tup [Z (eg o (us.getD 0 []) (ms.getD 0 0) (w.getD 0 0) ch),E 0]):=by
    rw[eg,if_neg h];exact x6 (by omega)
   have h2:=pk (us.getD 0 []) (x:=eg o (us.getD 0 []) (ms.getD 0 0) (w.getD 0 0) ch) (L:=lR o c sl (us.getD 0 [])) (by rw[eg,if_neg h];have:=Int.natAbs_add_le (ms.getD 0 0) (ch*w.getD 0 0);omega) (F1 hr lo kb.2)
   cases hin:fx (us.getD 0 []) (eg o (us.getD 0 []) (ms.getD 0 0) (w.getD 0 0) ch) (lR o c sl (us.getD 0 []))
   ·rw[hin]at h2;exact .inl ⟨h,rfl,h1,h2⟩
   ·rw[hin]at h2;exact .inr (.inr ⟨h,rfl,h1,h2⟩)
 clear hx kb;generalize eg o (us.getD 0 []) (ms.getD 0 0) (w.getD 0 0) ch=z at*;generalize hu0:us.getD 0 []=u at*;simp only[bV]at e1 hk hcs;simp only[lP]at e2;generalize lM o c sl u=M at*;generalize lR o c sl u=Rr at*;simp only[Zp,cH,ik]at e3 e4 hcs;rcases hcs with⟨hu,hgd,m1,m2⟩|⟨hu,hgd,k,m1,m2,m3,k2,m4,m5⟩|⟨hu,hgd,m1,m2⟩
 ·rw[if_neg hu]at hk;rw[zI,hbad (by simp[hgd])]
  repeat' first|simp only[go_sem,seval,l2,l3,l4,l5,e1,e2,e3,e4]|refine cP hk ?_|refine cP hF ?_|refine cP hp ?_|refine cP m1 ?_|refine cP m2 ?_|refine sB ?_|(first|apply pX|apply bX)<;>intro hc|refine⟨oD,?_⟩|exact oD|fail
  all_goals rfl
 all_goals
  first|rw[if_pos hu]at hk|rw[if_neg hu]at hk
  repeat' first|simp only[go_sem,seval,l2,l3,l4,l5,e1,e2,e3,e4]|refine cP hk ?_|refine cP hF ?_|refine cP hp ?_|refine cP m1 ?_|refine cP m2 ?_|refine cP m3 ?_|refine cP m4 ?_|refine cP m5 ?_|refine sB ?_|(first|apply pX|apply bX)<;>intro hc|refine⟨oD,?_⟩|exact oD|fail
  obtain⟨nm,hnm⟩: ∃nm,nm=(if u=[]then 1074 else 1059):=⟨_,rfl⟩
  first|rw[if_pos hu]at hnm|rw[if_neg hu]at hnm
  refine ai (α:=Nat) (fun j=>us.length-(j+1)) (fun j=>⟨[(1, .v (.sl (us.map (lP o c sl)))),(2, .v (.sl (w.map Zp))),(3, .v (.sl (ms.map Zp))),(4, .v (N ch)),(5, .p 1000 0 0),(12, .rs nm j 0 (j+1) 2),(28, .v (.sl (us.map bV))),(29,E' us.length),(30,E' (j+1))],[(1000,⟨0,[.v (.sl (gs.map dY)), .v (.sl (us.map bV)), .v (.sl (es.map cM.pv))],false,none⟩),(nm,⟨j,aV Zp ((dG o us ms w ch).take (j+1)),true,some 49⟩)],nm+4⟩) (fun j=>j+1≤us.length∧ ∀k,k<j+1→fx (us.getD k []) ((dG o us ms w ch).getD k 0) (lR o c sl (us.getD k []))=true) 0 (fun _=>by show _≤nm+4;rw[hnm];exact Nat.le_of_ble_eq_true rfl) ⟨hpos,fun k hk=>hgk k hk (fun j hj=>by omega) hgd⟩ ?_ ?_<;>subst hnm
  ·rw[r1,List.take_zero,show aV Zp ([]:List Int)=[]from rfl,List.nil_append]
   exact lE
  ·clear e1 e2 e3 e4 hk hgr hbad r1 hgk hgd m1 m2 hu0 hp
   first|clear m3 m4 m5|skip
   rintro j ⟨hj,hall⟩ R hR;have hlm:((dG o us ms w ch).take (j+1)).length=j+1:=by rw[List.length_take];omega
   have q1:=cf wT ((dG o us ms w ch).take (j+1));have q2:=cz wT ((dG o us ms w ch).take (j+1));rw[hlm]at q1 q2
   by_cases hlt:j+1<us.length
   ·have e1:=getD_map bV us [] hlt;have e2:=getD_map (lP o c sl) us [] hlt;have e3:=getD_map Zp w 0 (i:=(j+1)) (by omega)
    have e4:=getD_map Zp ms 0 (i:=(j+1)) (by omega)
    have kb:=hb _ (ax [] hlt);have hk:=jw (us.getD (j+1) []);have hx:=hI (j+1) hlt;have hp:=FQ (x:=(ch:Int)) (y:=w.getD (j+1) 0) (by simpa using hch) hx.1
    have hgr:=xA (o:=o) (ms:=ms) (w:=w) (c:=ch) hlt;have hgk: ∀k,k<(j+1)+1→(∀q,q<(j+1)→fx (us.getD q []) ((dG o us ms w ch).getD q 0) (lR o c sl (us.getD q []))=true)→fx (us.getD (j+1) []) ((dG o us ms w ch).getD (j+1) 0) (lR o c sl (us.getD (j+1) []))=true→fx (us.getD k []) ((dG o us ms w ch).getD k 0) (lR o c sl (us.getD k []))=true:=fun k hk h1 h2=>by
     by_cases hkj:k<(j+1)
     ·exact h1 k hkj
     ·obtain rfl:k=(j+1):=by omega
      exact h2
    rw[hgr]at hgk;have hbad:=fun h: ¬fx (us.getD (j+1) []) ((dG o us ms w ch).getD (j+1) 0) (lR o c sl (us.getD (j+1) []))=true=>kn (p:=fun i=>fx (us.getD i []) ((dG o us ms w ch).getD i 0) (lR o c sl (us.getD i []))) hlt (Bool.eq_false_iff.2 h)
    rw[←zA,hgr]at hbad;have r1:=rS hlt;rw[hgr]at r1;have hcs:(us.getD (j+1) []≠[]∧fx (us.getD (j+1) []) (eg o (us.getD (j+1) []) (ms.getD (j+1) 0) (w.getD (j+1) 0) ch) (lR o c sl (us.getD (j+1) []))=false∧aA Tryz.prog 282 [Z (ms.getD (j+1) 0),Z ((ch:Int)*w.getD (j+1) 0)] (.tup [Z (eg o (us.getD (j+1) []) (ms.getD (j+1) 0) (w.getD (j+1) 0) ch),E 0])∧aA Tryz.prog 196 [bV (us.getD (j+1) []),Zp (eg o (us.getD (j+1) []) (ms.getD (j+1) 0) (w.getD (j+1) 0) ch),N (lR o c sl (us.getD (j+1) []))] (.b false))∨
      (us.getD (j+1) []=[]∧fx (us.getD (j+1) []) (eg o (us.getD (j+1) []) (ms.getD (j+1) 0) (w.getD (j+1) 0) ch) (lR o c sl (us.getD (j+1) []))=true∧ ∃k:Nat,aA Tryz.prog 281 [Z ((ch:Int)*w.getD (j+1) 0),N (lM o c sl (us.getD (j+1) []))] (.tup [N k,E 0])∧aA Tryz.prog 47 [N k] (Z k)∧aA Tryz.prog 282 [Z (ms.getD (j+1) 0),Z k] (.tup [Z (ms.getD (j+1) 0+k),E 0])∧ ∃k2:Nat,aA Tryz.prog 281 [Z (ms.getD (j+1) 0+k),N (lM o c sl (us.getD (j+1) []))] (.tup [N k2,E 0])∧aA Tryz.prog 47 [N k2] (Z (eg o (us.getD (j+1) []) (ms.getD (j+1) 0) (w.getD (j+1) 0) ch)))∨
      (us.getD (j+1) []≠[]∧fx (us.getD (j+1) []) (eg o (us.getD (j+1) []) (ms.getD (j+1) 0) (w.getD (j+1) 0) ch) (lR o c sl (us.getD (j+1) []))=true∧aA Tryz.prog 282 [Z (ms.getD (j+1) 0),Z ((ch:Int)*w.getD (j+1) 0)] (.tup [Z (eg o (us.getD (j+1) []) (ms.getD (j+1) 0) (w.getD (j+1) 0) ch),E 0])∧aA Tryz.prog 196 [bV (us.getD (j+1) []),Zp (eg o (us.getD (j+1) []) (ms.getD (j+1) 0) (w.getD (j+1) 0) ch),N (lR o c sl (us.getD (j+1) []))] (.b true)):=by
     by_cases h:us.getD (j+1) []=[]
     ·exact .inr (.inl ⟨h,BJ hol h64 (ho (by rw[←h];exact ax [] hlt)) h hx.2⟩)
     ·have h1:aA Tryz.prog 282 [Z (ms.getD (j+1) 0),Z ((ch:Int)*w.getD (j+1) 0)] (.tup [Z (eg o (us.getD (j+1) []) (ms.getD (j+1) 0) (w.getD (j+1) 0) ch),E 0]):=by
       rw[eg,if_neg h];exact x6 (by omega)
      have h2:=pk (us.getD (j+1) []) (x:=eg o (us.getD (j+1) []) (ms.getD (j+1) 0) (w.getD (j+1) 0) ch) (L:=lR o c sl (us.getD (j+1) [])) (by rw[eg,if_neg h];have:=Int.natAbs_add_le (ms.getD (j+1) 0) (ch*w.getD (j+1) 0);omega) (F1 hr lo kb.2)
      cases hin:fx (us.getD (j+1) []) (eg o (us.getD (j+1) []) (ms.getD (j+1) 0) (w.getD (j+1) 0) ch) (lR o c sl (us.getD (j+1) []))
      ·rw[hin]at h2;exact .inl ⟨h,rfl,h1,h2⟩
      ·rw[hin]at h2;exact .inr (.inr ⟨h,rfl,h1,h2⟩)
    clear hx kb;generalize eg o (us.getD (j+1) []) (ms.getD (j+1) 0) (w.getD (j+1) 0) ch=z at*;generalize hu0:us.getD (j+1) []=u at*;simp only[bV]at e1 hk hcs;simp only[lP]at e2;generalize lM o c sl u=M at*;generalize lR o c sl u=Rr at*;simp only[Zp,cH,ik]at e3 e4 hcs;rcases hcs with⟨hu,hgd,m1,m2⟩|⟨hu,hgd,k,m1,m2,m3,k2,m4,m5⟩|⟨hu,hgd,m1,m2⟩
    ·rw[if_neg hu]at hk;rw[zI,hbad (by simp[hgd])]
     clear hR hall hgk;repeat' first|simp only[go_sem,seval,l2,l3,l4,l5,e1,e2,e3,e4,q1,q2]|refine cP hk ?_|refine cP hF ?_|refine cP hp ?_|refine cP m1 ?_|refine cP m2 ?_|refine sB ?_|(first|apply pX|apply bX)<;>intro hc|refine⟨oD,?_⟩|exact oD|fail
     all_goals rfl
    all_goals
     have hgo:=hR (j+1) ⟨by omega,fun k hk=>hgk k hk hall hgd⟩ (by omega)
     rw[r1]at hgo;clear hR hall hgk
     first|rw[if_pos hu]at hk|rw[if_neg hu]at hk
     repeat' first|simp only[go_sem,seval,l2,l3,l4,l5,e1,e2,e3,e4,q1,q2]|refine cP hk ?_|refine cP hF ?_|refine cP hp ?_|refine cP m1 ?_|refine cP m2 ?_|refine cP m3 ?_|refine cP m4 ?_|refine cP m5 ?_|refine sB ?_|(first|apply pX|apply bX)<;>intro hc|refine⟨oD,?_⟩|exact oD|fail
     refine hgo _ ?_
     (refine AS.Le.of (by first|decide|omega) ?_ ?_<;>simp[bz,bA,aD,ak,AV.bd,AV.bd.bdL,u8,af,ah,aj])
     all_goals exact fun c hc=>by rcases hc with hc|rfl|rfl<;>first|exact cJ hc|rfl
   ·have hjl:us.length=j+1:=by omega
    have hgood2:zA o c sl us (dG o us ms w ch)=true:=jY fun k hk=>hall k (by omega)
    rw[zI,hgood2];have hT:(dG o us ms w ch).take (j+1)=dG o us ms w ch:=List.take_of_length_le (by omega)
    rw[hT]at q1 q2⊢;have q3:=dw wT (dG o us ms w ch);have q4:=cr wT (dG o us ms w ch);rw[hrl,hjl]at q4;rw[hjl];clear hR;repeat' first|simp only[go_sem,seval,l2,hjl,q1,q2,q3,q4,dr]|refine sB ?_|(first|apply pX|apply bX)<;>intro hc|refine⟨oD,?_⟩|exact oD|fail
    all_goals rfl
theorem D5 {w:List Int} {n:Nat} {P:Int→Prop} (hwl:w.length=n) (h: ∀i,i<n→P (w.getD i 0)): ∀x∈w,P x:=fun x hx=>by
 obtain⟨j,hj,rfl⟩:=List.getElem_of_mem hx;have:=h j (by omega)
 rwa[List.getD_eq_getElem?_getD,List.getElem?_eq_getElem hj]at this
theorem Ly {o:Bytes} {us:List Bytes} {w:List Int} (h:vn o us w=true) {i:Nat} (hi:i<us.length):fx (us.getD i []) (w.getD i 0) (da o (us.getD i []))=true:=List.all_eq_true.1 h i (List.mem_range.2 hi)
theorem EZ {o b:Bytes} (lo:o.length≤8) (lb:b.length≤16):da o b≤bL:=by
 unfold da;split
 ·exact Nat.le_of_lt (Nat.lt_of_lt_of_le (cv lo) mO)
 ·exact Nat.le_of_lt (Bp lb)
theorem y4 {c sl:Bytes} {s:bT} (hp:Bj c sl s) {w ms:List Int} {ch:Nat} (hwl:w.length=s.vars.length) (hml:ms.length=s.vars.length) (hch:ch<num c) (hW:vn (aW s.groups) s.vars w=true) (hM: ∀i,i<s.vars.length→fx (s.vars.getD i []) (ms.getD i 0) (lM (aW s.groups) c sl (s.vars.getD i []))=true):
  aA Tryz.prog 119 [.agg [.s c, .s sl],s.pv, .sl (w.map Zp), .sl (ms.map Zp),N ch] (zI (aW s.groups) c sl s.vars (dG (aW s.groups) s.vars ms w ch)):=by
 have hr:=hp.r;have hb:=hp.g.v;have nv:=hp.g.nv;have lo:=(dh hp.g.g).2;have hbo:=pI hp;have c8:=cv hr.lc;have h64:=js;have h128:=mO;have hwb: ∀i,i<s.vars.length→(w.getD i 0).natAbs<bL:=fun i hi=>Nat.lt_of_lt_of_le (uW (Ly hW hi)).1 (EZ lo (hb _ (ax [] hi)).2)
 have hmb: ∀i,i<s.vars.length→(ms.getD i 0).natAbs<256^33:=fun i hi=>Nat.lt_trans (uW (hM i hi)).1 (Ft hr lo (hb _ (ax [] hi)).2)
 have h33:256^33+18446744073709551616*bL+18446744073709551616<bR:=by unfold bR bL;decide+kernel
 have hwA: ∀x∈w,x.natAbs<bR:=D5 hwl fun i hi=>Nat.lt_of_lt_of_le (hwb i hi) vL
 have hmA: ∀x∈ms,x.natAbs<bR:=D5 hml fun i hi=>by have:=hmb i hi;omega
 have hv1:=tJ (w.map ik) (by rw[List.length_map];omega)
 have hv2:=tJ (ms.map ik) (by rw[List.length_map];omega)
 have hrg:=HJ hp.g hwl hwA;rw[QJ,pC hwA]at hv1;rw[QJ,pC hmA]at hv2;rw[hW]at hrg;have hn:=aG (aI ch);rw[vB (by omega)]at hn
 have hcm:=mI (a:=ch) (b:=num c) (by omega) (by omega)
 rw[dt hr.vc]at hcm;have hd: ∀ _:True,decide (aO ch (num c)≥0)=false:=fun _=>by rw[LH,decide_eq_true hch];rfl
 have hre:=Hb hp hwl hml (ch:=ch) (by omega) (fun i hi=>by
  refine⟨hwb i hi,?_⟩;have h1:=hmb i hi;have h2:((ch:Int)*w.getD i 0).natAbs≤18446744073709551616*bL:=by
   rw[Int.natAbs_mul,Int.natAbs_natCast];exact Nat.mul_le_mul (by omega) (Nat.le_of_lt (hwb i hi))
  omega)
 have hmL: ∀i,i<s.vars.length→aA Tryz.prog 196 [bV (s.vars.getD i []),Zp (ms.getD i 0),N (lM (aW s.groups) c sl (s.vars.getD i []))] (.b true):=fun i hi=>by
  have:=pk (s.vars.getD i []) (x:=ms.getD i 0) (L:=lM (aW s.groups) c sl (s.vars.getD i [])) (by have:=hmb i hi;omega) (K1 hr lo (hb _ (ax [] hi)).2)
  rwa[hM i hi]at this
 generalize aO ch (num c)=cm at*;generalize dG (aW s.groups) s.vars ms w ch=rs at*;unfold zI at*;obtain⟨gs,us,es⟩:=s;simp only at nv hwl hml hmL hre hbo⊢;generalize aW gs=o at*;have l2:(us.map bV).length=us.length:=List.length_map ..;have l3:(us.map (lP o c sl)).length=us.length:=List.length_map ..;have l4:(w.map Zp).length=us.length:=by rw[List.length_map];exact hwl
 have l5:(ms.map Zp).length=us.length:=by rw[List.length_map];exact hml
 clear hW hwb hmb hM hwA hmA h33 h64 hb hp hr;unfold bT.pv at*;simp only at*;refine eW Tryz.call119 Tryz.func119 ?_;repeat' first|simp only[go_sem,seval,l2,l4,l5,hd trivial]|refine cP hbo ?_|refine cP hv1 ?_|refine cP hv2 ?_|refine cP hn ?_|refine cP hcm ?_|refine cP hrg ?_|refine sB ?_|(first|apply pX|apply bX)<;>intro hc|refine⟨oD,?_⟩|exact oD|fail
 refine ai (α:=Nat) (fun i=>us.length-i) (fun i=>⟨[(2, .v (.sl (w.map Zp))),(3, .v (.sl (ms.map Zp))),(4, .v (N ch)),(6, .p 1001 0 0),(12, .v (.sl (us.map (lP o c sl)))),(68, .v (.sl (us.map bV))),(69,E' us.length),(70,E' i)],[(1001,⟨0,[.v (.sl (gs.map dY)), .v (.sl (us.map bV)), .v (.sl (es.map cM.pv))],false,none⟩)],_⟩) (fun i=>i≤us.length) 0 (fun _=>Nat.le_refl _) (Nat.zero_le _) ?_ ?_
 ·exact lE
 ·intro i hi R hR
  by_cases hlt:i<us.length
  ·have hgo:=hR (i+1) (by omega) (by omega)
   have e1:=getD_map bV us [] hlt;have e2:=getD_map (lP o c sl) us [] hlt;have e4:=getD_map Zp ms 0 (i:=i) (by omega)
   have hc:=hmL i hlt;clear hR hmL hre hv1 hv2;simp only[lP]at e2;generalize lM o c sl (us.getD i [])=M at*;generalize us.getD i []=u at*;generalize ms.getD i 0=x at*;simp only[bV]at e1 hc;simp only[Zp,cH,ik]at e4 hc;repeat' first|simp only[go_sem,seval,l2,l3,l5,e1,e2,e4]|refine cP hc ?_|refine sB ?_|(first|apply pX|apply bX)<;>intro hc|refine⟨oD,?_⟩|exact oD|fail
   refine hgo _ ?_;exact lE
  ·obtain rfl:i=us.length:=by omega
   clear hR hmL;generalize zA o c sl us rs=b at*;cases b
   ·repeat' first|simp only[go_sem,seval]|refine cP hre ?_|refine sB ?_|(first|apply pX|apply bX)<;>intro hc|refine⟨oD,?_⟩|exact oD|fail
    all_goals rfl
   ·repeat' first|simp only[go_sem,seval]|refine cP hre ?_|refine sB ?_|(first|apply pX|apply bX)<;>intro hc|refine⟨oD,?_⟩|exact oD|fail
    all_goals rfl
def vC (b:Bytes) (x:Bool×Bytes) (L:Nat):Bool:=decide (num x.2<L)&& !(b==[]&&x.1)
theorem GZ (b:Bytes) {n:Bool} {a:Bytes} (va:aa a=true) {L:Nat} (hL:L<bR):aA Tryz.prog 338 [bV b,N L, .agg [.b n, .s a]] (.b (vC b (n,a) L)):=by
 have hc:=mI (nH va) hL;rw[dt va]at hc;have hd: ∀ _:True,decide (aO (num a) L<0)=decide (num a<L):=fun _=>by rw[Bool.eq_iff_iff];simp only[decide_eq_true_eq];exact dL
 generalize aO (num a) L=cm at*;unfold bV vC;simp only;generalize decide (num a<L)=p at*;generalize hb:(b==([]:Bytes))=q at*
 cases p<;>cases q<;>cases n<;>
 ·refine eW Tryz.call338 Tryz.func338 ?_;repeat' first|simp only[go_sem,seval,hb,hd trivial]|refine cP hc ?_|refine sB ?_|(first|apply pX|apply bX)<;>intro hc|refine⟨oD,?_⟩|exact oD|fail
  all_goals rfl
def zc (o c sl:Bytes) (vs:List Bytes) (l:List (Bool×Bytes)):Bool:=(List.range vs.length).all fun i=>vC (vs.getD i []) (l.getD i ij) (lR o c sl (vs.getD i []))
def eu (o c sl:Bytes) (vs:List Bytes) (ch:Bytes) (l:List (Bool×Bytes)):Int:=
 if !(aa ch&&l.all bM)then 3 else if num c≤num ch then 2 else if l.length≠vs.length then 6 else if !zc o c sl vs l then 2 else 0
noncomputable def mP (c sl:Bytes) (s:bT) (ch:Bytes) (l:List (Bool×Bytes)):List PV:=
 if eu (aW s.groups) c sl s.vars ch l=0 then s.eqs.map fun q=>N (iS s.groups ch l q)else[]
theorem Ff {o c sl:Bytes} {vs:List Bytes} {l:List (Bool×Bytes)} {i:Nat} (hi:i<vs.length) (h: ¬vC (vs.getD i []) (l.getD i ij) (lR o c sl (vs.getD i []))=true):zc o c sl vs l=false:=by
 unfold zc;rw[Bool.eq_false_iff];intro g;exact h (List.all_eq_true.1 g i (List.mem_range.2 hi))
theorem sO {o c sl:Bytes} {vs:List Bytes} {l:List (Bool×Bytes)} (h: ∀i,i<vs.length→vC (vs.getD i []) (l.getD i ij) (lR o c sl (vs.getD i []))=true):zc o c sl vs l=true:=by
 unfold zc;rw[List.all_eq_true];intro i hi;exact h i (List.mem_range.1 hi)
theorem Bt {c sl:Bytes} {s:bT} (hp:Bj c sl s) (h1:s.eqs≠[]) {ch:Bytes} {l:List (Bool×Bytes)} (hll:l.length<1000000):aA Tryz.prog 289 [.agg [.s c, .s sl],s.pv, .s ch, .sl (l.map cH)] (.tup [.sl (mP c sl s ch l),E (eu (aW s.groups) c sl s.vars ch l)]):=by
 have hr:=hp.r;have hs:=hp.g;have hb:=xN hp;have lo:=(dh hs.g).2;clear hp;have vh:=aG ch;have hi:=Gk l hll;have l5:(l.map cH).length=l.length:=List.length_map ..;have l2:(s.vars.map bV).length=s.vars.length:=List.length_map ..;have l6:(s.vars.map fun b=>N (lR (aW s.groups) c sl b)).length=s.vars.length:=List.length_map ..
 have nv:=hs.nv
 by_cases g1:aa ch=true∧l.all bM=true
 case neg=>
  have e:(aa ch&&l.all bM)=false:=by rw[Bool.eq_false_iff];intro g;simp at g;exact g1 ⟨g.1,by simpa[List.all_eq_true]using g.2⟩
  have e2:eu (aW s.groups) c sl s.vars ch l=3:=by simp only[eu,e];rfl
  rw[mP,if_neg (by rw[e2];decide),e2]
  clear e2 hs;unfold bT.pv at*;generalize aa ch=b1 at*;generalize l.all bM=b2 at*;refine eW Tryz.call289 Tryz.func289 ?_;repeat' first|simp only[go_sem,seval]|refine cP hb ?_|refine cP vh ?_|refine cP hi ?_|refine sB ?_|(first|apply pX|apply bX)<;>intro hc|refine⟨oD,?_⟩|exact oD|fail
  all_goals (exfalso;simp_all)
 obtain⟨vc,hok⟩:=g1;rw[vc]at vh;rw[hok]at hi;have hcm:=mc vc hr.vc
 by_cases g2:num c≤num ch
 ·have e2:eu (aW s.groups) c sl s.vars ch l=2:=by simp only[eu,vc,hok];rw[if_neg (by simp),if_pos g2]
  have hd: ∀ _:True,decide (aO (num ch) (num c)≥0)=true:=fun _=>decide_eq_true (fQ.2 g2)
  rw[mP,if_neg (by rw[e2];decide),e2]
  generalize aO (num ch) (num c)=cm at*;clear e2 hs;unfold bT.pv at*;refine eW Tryz.call289 Tryz.func289 ?_;repeat' first|simp only[go_sem,seval,hd trivial]|refine cP hb ?_|refine cP vh ?_|refine cP hi ?_|refine cP hcm ?_|refine sB ?_|(first|apply pX|apply bX)<;>intro hc|refine⟨oD,?_⟩|exact oD|fail
 have hd: ∀ _:True,decide (aO (num ch) (num c)≥0)=false:=fun _=>decide_eq_false (fun g=>g2 (fQ.1 g))
 by_cases g3:l.length=s.vars.length
 case neg=>
  have e2:eu (aW s.groups) c sl s.vars ch l=6:=by simp only[eu,vc,hok];rw[if_neg (by simp),if_neg g2,if_pos g3]
  rw[mP,if_neg (by rw[e2];decide),e2]
  generalize aO (num ch) (num c)=cm at*;clear e2 hs;unfold bT.pv at*;refine eW Tryz.call289 Tryz.func289 ?_;repeat' first|simp only[go_sem,seval,hd trivial,l5,l2]|refine cP hb ?_|refine cP vh ?_|refine cP hi ?_|refine cP hcm ?_|refine sB ?_|(first|apply pX|apply bX)<;>intro hc|refine⟨oD,?_⟩|exact oD|fail
  all_goals (exfalso;omega)
 have hms:=vG hs.m h1 vc g3 (List.all_eq_true.1 hok);have hv:=hs.v;have hval: ∀x∈l,aa x.2=true:=fun x hx=>by
  have:=List.all_eq_true.1 hok x hx;simp only[bM,Bool.and_eq_true]at this;exact this.1
 have e0:eu (aW s.groups) c sl s.vars ch l=if !zc (aW s.groups) c sl s.vars l then 2 else 0:=by
  simp only[eu,vc,hok];rw[if_neg (by simp),if_neg g2,if_neg (by omega)]
 unfold mP;rw[e0];clear e0 hs hok;obtain⟨gs,vs,es⟩:=s;simp only at*;generalize aW gs=o at*;unfold bT.pv at*;simp only at*;generalize aO (num ch) (num c)=cm at*;refine eW Tryz.call289 Tryz.func289 ?_;repeat' first|simp only[go_sem,seval,hd trivial,l5,l2]|refine cP hb ?_|refine cP vh ?_|refine cP hi ?_|refine cP hcm ?_|refine sB ?_|(first|apply pX|apply bX)<;>intro hc|refine⟨oD,?_⟩|exact oD|fail
 refine ai (α:=Nat) (fun i=>vs.length-i) (fun i=>⟨[(2, .v (.s ch)),(3, .v (.sl (l.map cH))),(5, .p 1001 0 0),(11, .v (.sl (vs.map fun b=>N (lR o c sl b)))),(45, .v (.sl (vs.map bV))),(46,E' vs.length),(47,E' i)],[(1001,⟨0,[.v (.sl (gs.map dY)), .v (.sl (vs.map bV)), .v (.sl (es.map cM.pv))],false,none⟩)],_⟩) (fun i=>i≤vs.length∧ ∀j,j<i→vC (vs.getD j []) (l.getD j ij) (lR o c sl (vs.getD j []))=true) 0 (fun _=>Nat.le_refl _) ⟨Nat.zero_le _,fun j hj=>by omega⟩ ?_ ?_
 ·exact lE
 ·rintro i ⟨hi',hf⟩ R hR
  by_cases hlt:i<vs.length
  ·have e1:=getD_map bV vs [] hlt;have e2:=getD_map (fun b=>N (lR o c sl b)) vs [] hlt
   have hlt2:i<l.length:=by omega
   have e3:=getD_map cH l ij hlt2;obtain⟨k1,k3⟩:=hv _ (ax [] hlt);have kv:=hval _ (ax ij hlt2);have ad:aA Tryz.prog 338 [bV (vs.getD i []),N (lR o c sl (vs.getD i [])),cH (l.getD i ij)] (.b (vC (vs.getD i []) (l.getD i ij) (lR o c sl (vs.getD i [])))):=GZ (vs.getD i []) (n:=(l.getD i ij).1) kv (F1 hr lo k3);have hgo:=hR (i+1)
   by_cases hc2:vC (vs.getD i []) (l.getD i ij) (lR o c sl (vs.getD i []))=true
   ·have hgo:=hgo ⟨by omega,fun j hj=>by
     by_cases e:j=i
     ·rw[e];exact hc2
     ·exact hf j (by omega)⟩ (by omega)
    rw[hc2]at ad;clear hR hf hc2 kv k1 k3;generalize lR o c sl (vs.getD i [])=L at*;generalize vs.getD i []=b at*;obtain⟨x,hx⟩: ∃x,x=l.getD i ij:=⟨_,rfl⟩;rw[←hx]at ad e3;clear hx;obtain⟨xn,xa⟩:=x;simp only[bV,cH]at*;repeat' first|simp only[go_sem,seval,l2,l5,l6,e1,e2,e3]|refine cP ad ?_|refine sB ?_|(first|apply pX|apply bX)<;>intro hc|refine⟨oD,?_⟩|exact oD|fail
    refine hgo _ ?_;exact lE
   ·rw[Ff hlt hc2];rw[Bool.eq_false_iff.2 hc2]at ad;clear hR hf hgo hc2 kv k1 k3;generalize lR o c sl (vs.getD i [])=L at*;generalize vs.getD i []=b at*;obtain⟨x,hx⟩: ∃x,x=l.getD i ij:=⟨_,rfl⟩;rw[←hx]at ad e3;clear hx;obtain⟨xn,xa⟩:=x;simp only[bV,cH]at*;repeat' first|simp only[go_sem,seval,l2,l5,l6,e1,e2,e3]|refine cP ad ?_|refine sB ?_|(first|apply pX|apply bX)<;>intro hc|refine⟨oD,?_⟩|exact oD|fail
    all_goals rfl
  ·obtain rfl:i=vs.length:=by omega
   rw[sO hf];repeat' first|simp only[go_sem,seval,l2]|refine cP hms ?_|refine sB ?_|(first|apply pX|apply bX)<;>intro hc|refine⟨oD,?_⟩|exact oD|fail
   all_goals rfl
theorem xB {α:Type} {f:Nat→α→Nat} {m:Nat} (h: ∀x a,f x a<m): ∀(l:List α) (x:Nat),x<m→l.foldl f x<m
 |[],_,hx=>hx
 |a::l,x,_=>xB h l _ (h x a)
theorem Ji {s:bT} (hs:yo s) (ch:Bytes) (rs:List (Bool×Bytes)): ∀x∈oQ s ch rs,x.length≤8∧aa x=true:=by
 intro x hx;obtain⟨q,hq,rfl⟩:=List.mem_map.1 hx;obtain⟨q1,q2,-⟩:=hs.q q hq;have hg:=hs.g _ (ax ey (show q.iu.toNat<s.groups.length by omega))
 have hm:=(fY hg.1).2.2.1;have hlt:iS s.groups ch rs q<256^8:=by
  refine Nat.lt_trans ?_ (cv hg.2.1);unfold iS;exact xB (fun x a=>Nat.mod_lt _ (by omega)) _ _ (Nat.mod_lt _ (by omega))
 exact⟨ju.2 hlt,vN hlt⟩
theorem Ae {c sl:Bytes} {s:bT} (hp:Bj c sl s) (h0:s.vars≠[]) (h00:s.eqs≠[]) {ch:Bytes} {rs:List (Bool×Bytes)} (h1:rs.length<1000000) (hf:fz c s.vars.length ch rs [] []=0) (hi:eu (aW s.groups) c sl s.vars ch rs≠0):
  aA Tryz.prog 206 [X0 c sl s,C8 ch rs [] []] (.tup [Sn,B0,E (eu (aW s.groups) c sl s.vars ch rs)]):=by
 have hfo:=vu (c:=c) (sl:=sl) hp.r.vc s ch rs [] [] h1 (by simp) (by simp) (by simp)
 rw[hf]at hfo;have hfi:=Bt hp h00 (ch:=ch) (l:=rs) h1;have hl:mP c sl s ch rs=[]:=by unfold mP;rw[if_neg hi]
 rw[hl]at hfi;have hb:(eu (aW s.groups) c sl s.vars ch rs==0)=false:=by simpa using hi
 generalize eu (aW s.groups) c sl s.vars ch rs=e at*;obtain⟨gq,vs,es⟩:=s;simp only[X0,C8,bT.pv]at hfo hfi⊢;refine eW Tryz.call206 Tryz.func206 ?_;repeat' first|simp only[go_sem,seval,hb]|refine cP hfo ?_|refine cP hfi ?_|refine sB ?_|(first|apply pX|apply bX)<;>intro hc|refine⟨oD,?_⟩|exact oD|fail
 all_goals skip
theorem zp {c sl:Bytes} {s:bT} (hp:Bj c sl s) (h0:s.vars≠[]) (h00:s.eqs≠[]) {ch:Bytes} {rs:List (Bool×Bytes)} (h1:rs.length<1000000) (hf:fz c s.vars.length ch rs [] []=0) (hi:eu (aW s.groups) c sl s.vars ch rs=0):
  aA Tryz.prog 206 [X0 c sl s,C8 ch rs [] []] (.tup [.agg [.sl (s.eqs.map fun q=>N (iS s.groups ch rs q)), .s ch, .sl (rs.map cH)],B0,E 0]):=by
 have hfo:=vu (c:=c) (sl:=sl) hp.r.vc s ch rs [] [] h1 (by simp) (by simp) (by simp)
 rw[hf]at hfo;have hfi:=Bt hp h00 (ch:=ch) (l:=rs) h1;have hl:mP c sl s ch rs=s.eqs.map fun q=>N (iS s.groups ch rs q):=by unfold mP;rw[if_pos hi]
 rw[hl,hi]at hfi;have hrs:rs≠[]:=by
  intro h;subst h;unfold fz at hf;have hv:([]:List (Bool×Bytes)).length≠s.vars.length:=by
   intro h;exact h0 (List.length_eq_zero_iff.1 h.symm)
  split at hf
  ·exact absurd hf (by decide)
  ·rw[if_pos (.inl hv)]at hf;exact absurd hf (by decide)
 have hcl:=Ck hrs h1;have hcn:=AF;generalize (s.eqs.map fun q=>N (iS s.groups ch rs q))=fl at*
 obtain⟨gq,vs,es⟩:=s;simp only[X0,C8,bT.pv,List.map_nil]at hfo hfi⊢;refine eW Tryz.call206 Tryz.func206 ?_;repeat' first|simp only[go_sem,seval]|refine cP hfo ?_|refine cP hfi ?_|refine cP hcl ?_|refine cP hcn ?_|(refine ae ?_)|refine sB ?_|(first|apply pX|apply bX)<;>intro hc|refine⟨oD,?_⟩|exact oD|fail
noncomputable def wF (c sl ctx:Bytes) (s:bT) (ch:Bytes) (rs:List (Bool×Bytes)) (gs:List Bytes) (ls:List (List (Bool×Bytes))):Int:=
 if fz c s.vars.length ch rs gs ls≠0 then fz c s.vars.length ch rs gs ls else if eu (aW s.groups) c sl s.vars ch rs≠0 then eu (aW s.groups) c sl s.vars ch rs else if aI (gJ (Bh ctx s (oQ s ch rs)) c)=ch then 0 else 16
theorem Fe {c sl:Bytes} {s:bT} (hp:Bj c sl s) (hb:OA s) (h00:s.eqs≠[]) {ctx:Bytes} (hx:ctx.length≤100000) {ch:Bytes} {rs:List (Bool×Bytes)} {gs:List Bytes} {ls:List (List (Bool×Bytes))} (h1:rs.length<1000000) (h2:gs.length≤1000) (h3:ls.length≤1000) (h4: ∀l∈ls,l.length<4611686018427387904):
  aA Tryz.prog 123 [.agg [.s c, .s sl], .s ctx,s.pv,C0,C8 ch rs gs ls] (E (wF c sl ctx s ch rs gs ls)):=by
 have hn:=oG hp;unfold wF
 by_cases hf:fz c s.vars.length ch rs gs ls=0
 ·obtain⟨rfl,rfl⟩:=Di hf;rw[if_neg (by simpa using hf)]
  by_cases hi:eu (aW s.groups) c sl s.vars ch rs=0
  ·rw[if_neg (by simpa using hi)]
   have ho:=zp hp hb.v0 h00 h1 hf hi;have hmap:(s.eqs.map fun q=>N (iS s.groups ch rs q))=(oQ s ch rs).map .s:=by unfold oQ;rw[List.map_map];rfl
   rw[hmap]at ho;have f0:oQ s ch rs≠[]:=by unfold oQ;simpa using h00
   have fl: ∀x∈oQ s ch rs,x.length≤100000:=fun x hx=>by have:=(Ji hp.g ch rs x hx).1;omega
   have fn:(oQ s ch rs).length≤900:=by unfold oQ;rw[List.length_map];have:=hp.g.ne;omega
   generalize oQ s ch rs=fs at*;have hc:=qi hp.r hb hx f0 fn fl;have ha:=yZ (c:=c) (sl:=sl) s B0 (aI (gJ (Bh ctx s fs) c));generalize gJ (Bh ctx s fs) c=z at*;obtain⟨gq,vs,es⟩:=s;simp only[X0,C8,bT.pv,List.map_nil]at hn ho hc ha⊢;clear hp hb h2 h3 h4 hf hi hmap
   by_cases hz:aI z=ch
   ·rw[if_pos hz];have hz1:(aI z==ch)=true:=by simpa using hz
    refine eW Tryz.call123 Tryz.func123 ?_;repeat' first|simp only[go_sem,seval,hz1]|refine cP hn ?_|refine cP ho ?_|refine cP hc ?_|refine cP ha ?_|(refine ae ?_)|refine sB ?_|(first|apply pX|apply bX)<;>intro hc|refine⟨oD,?_⟩|exact oD|fail
   ·rw[if_neg hz];have hz1:(aI z==ch)=false:=by simpa using hz
    refine eW Tryz.call123 Tryz.func123 ?_;repeat' first|simp only[go_sem,seval,hz1]|refine cP hn ?_|refine cP ho ?_|refine cP hc ?_|refine cP ha ?_|(refine ae ?_)|refine sB ?_|(first|apply pX|apply bX)<;>intro hc|refine⟨oD,?_⟩|exact oD|fail
  ·rw[if_pos hi];have ho:=Ae hp hb.v0 h00 h1 hf hi;have hb:(eu (aW s.groups) c sl s.vars ch rs==0)=false:=by simpa using hi
   generalize eu (aW s.groups) c sl s.vars ch rs=e at*;obtain⟨gq,vs,es⟩:=s;simp only[X0,C8,bT.pv,List.map_nil]at hn ho⊢;refine eW Tryz.call123 Tryz.func123 ?_;repeat' first|simp only[go_sem,seval,hb]|refine cP hn ?_|refine cP ho ?_|refine sB ?_|(first|apply pX|apply bX)<;>intro hc|refine⟨oD,?_⟩|exact oD|fail
 ·rw[if_pos hf];have ho:=CG hp.r h1 h2 h3 h4 hf (sl:=sl);have hb:(fz c s.vars.length ch rs gs ls==0)=false:=by simpa using hf
  generalize fz c s.vars.length ch rs gs ls=e at*;obtain⟨gq,vs,es⟩:=s;simp only[X0,C8,bT.pv]at hn ho⊢;refine eW Tryz.call123 Tryz.func123 ?_;repeat' first|simp only[go_sem,seval,hb]|refine cP hn ?_|refine cP ho ?_|refine sB ?_|(first|apply pX|apply bX)<;>intro hc|refine⟨oD,?_⟩|exact oD|fail
end Go.Proofs.YtmobkhegihemeaaGreatDoor
