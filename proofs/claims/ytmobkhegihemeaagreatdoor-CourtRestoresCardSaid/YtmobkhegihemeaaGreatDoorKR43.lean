/-
  Part of the proof, part KR43. Own work.
-/
import Derived.Test.YtmobkhegihemeaaGreatDoorKR42
set_option linter.all false
namespace Go.Proofs.YtmobkhegihemeaaGreatDoor
open Go Go.Dom Go.Num
set_option maxRecDepth 100000
set_option maxHeartbeats 16000000
def dS (o b:Bytes) (m w:Int) (c:Nat):Int:=if b=[]then(m+c*w)%num o else m+c*w
def du (o:Bytes) (us:List Bytes) (ms w:List Int) (c:Nat):List Int:=(List.range us.length).map fun i=>dS o (us.getD i []) (ms.getD i 0) (w.getD i 0) c
theorem qO (o:Bytes) (us:List Bytes) (ms w:List Int) (c:Nat):(du o us ms w c).length=us.length:=by simp[du]
theorem xw {o:Bytes} {us:List Bytes} {ms w:List Int} {c i:Nat} (h:i<us.length):(du o us ms w c).getD i 0=dS o (us.getD i []) (ms.getD i 0) (w.getD i 0) c:=by
 simp[du,List.getD_eq_getElem?_getD,h]
def ug (o c sl:Bytes) (us:List Bytes) (rs:List Int):Bool:=(List.range us.length).all fun i=>eS (us.getD i []) (rs.getD i 0) (lR o c sl (us.getD i []))
def zr (o c sl:Bytes) (us:List Bytes) (rs:List Int):PV:=if ug o c sl us rs then .tup [.sl (rs.map Zp),E 0]else .tup [.sl [],E 15]
theorem Ff {o c sl b:Bytes} (hr:lJ c sl) (lo:o.length≤8) (lb:b.length≤16):lR o c sl b<dt:=by
 unfold lR;split
 ·exact wY lo
 ·exact IU hr lb
theorem Bj {o c sl b:Bytes} {m w:Int} {ch:Nat} (hol:num o<dt) (h64:num o<18446744073709551616) (h0:0<num o) (h:b=[]) (hx:m.natAbs+((ch:Int)*w).natAbs+18446744073709551616<dt):
  eS b (dS o b m w ch) (lR o c sl b)=true∧ ∃k:Nat,aB Tryz.prog 281 [Z ((ch:Int)*w),N (lM o c sl b)] (.tup [N k,E 0])∧aB Tryz.prog 47 [N k] (Z k)∧aB Tryz.prog 282 [Z m,Z k] (.tup [Z (m+k),E 0])∧ ∃k2:Nat,aB Tryz.prog 281 [Z (m+k),N (lM o c sl b)] (.tup [N k2,E 0])∧aB Tryz.prog 47 [N k2] (Z (dS o b m w ch)):=by
 subst h;have g1:=Int.emod_nonneg ((ch:Int)*w) (b:=num o) (by omega)
 have g2:=Int.emod_lt_of_pos ((ch:Int)*w) (b:=num o) (by omega)
 have g3:=Int.emod_nonneg (m+ch*w) (b:=num o) (by omega)
 have g4:=Int.emod_lt_of_pos (m+ch*w) (b:=num o) (by omega)
 simp only[lM,lR,dS,if_true];refine⟨?_,((ch:Int)*w%num o).toNat,Ku (by omega) hol h0,r9 (by omega),wN (by omega),((m+ch*w)%num o).toNat,?_,?_⟩
 ·simp only[eS,Bool.and_eq_true,decide_eq_true_eq,decide_true,Bool.true_and,Bool.not_eq_true',decide_eq_false_iff_not];omega
 ·have:=Ku (x:=m+(((ch:Int)*w%num o).toNat:Int)) (m:=num o) (by omega) hol h0
  rw[Int.toNat_of_nonneg g1,Int.add_emod_emod]at this;rw[Int.toNat_of_nonneg g1];exact this
 ·have:=r9 (n:=((m+ch*w)%num o).toNat) (by omega)
  rwa[Int.toNat_of_nonneg g3]at this
theorem Gg {c sl:Bytes} {s:bQ} (hp:z9 c sl s) {w ms:List Int} {ch:Nat} (hwl:w.length=s.vars.length) (hml:ms.length=s.vars.length) (hch:ch<dA) (hI: ∀i,i<s.vars.length→(w.getD i 0).natAbs<dA∧(ms.getD i 0).natAbs+((ch:Int)*w.getD i 0).natAbs+18446744073709551616<dt):
  aB Tryz.prog 197 [s.pv, .sl (s.vars.map (lP (aS s.groups) c sl)), .sl (w.map Zp), .sl (ms.map Zp),N ch] (zr (aS s.groups) c sl s.vars (du (aS s.groups) s.vars ms w ch)):=by
 have hb:=hp.g.v;have nv:=hp.g.nv;have hr:=hp.r;have hov:=dc hp.g.g;have lo:=hov.2;have ho:[]∈s.vars→0<num (aS s.groups):=fun h=>Nat.pos_of_ne_zero (uA hov.1 (um hp.g h))
 obtain⟨gs,us,es⟩:=s;simp only at hb nv hwl hml hI lo ho⊢;clear hp hov;generalize aS gs=o at*;have h64:=cE lo;have hol:=wY lo;have l2:(us.map bV).length=us.length:=List.length_map ..;have l3:(us.map (lP o c sl)).length=us.length:=List.length_map ..;have l4:(w.map Zp).length=us.length:=by rw[List.length_map];exact hwl
 have l5:(ms.map Zp).length=us.length:=by rw[List.length_map];exact hml
 have hF:=r9 (n:=ch) (Nat.lt_of_lt_of_le hch Dj);have hrl:=qO o us ms w ch;have rS: ∀{j:Nat},j<us.length→aQ Zp ((du o us ms w ch).take (j+1))=aQ Zp ((du o us ms w ch).take j)++[.v (.b (zs ((du o us ms w ch).getD j 0))), .v (.s (zb ((du o us ms w ch).getD j 0)))]:=fun h=>by
  rw[aN 0 (by omega),Bv]
 unfold bQ.pv;simp only
 by_cases hpos:0<us.length
 rotate_left
 ·obtain rfl:us=[]:=List.length_eq_zero_iff.1 (by omega)
  refine eW Tryz.call197 Tryz.func197 ?_;repeat' first|simp only[go_sem,seval]|(refine ae ?_)|refine sB ?_|(first|apply pX|apply bX)<;>intro hc|refine⟨oD,?_⟩|exact oD|fail
  all_goals rfl
 refine eW Tryz.call197 Tryz.func197 ?_;repeat' first|simp only[go_sem,seval,l2]|refine sB ?_|(first|apply pX|apply bX)<;>intro hc|refine⟨oD,?_⟩|exact oD|fail
 refine ae ?_;have e1:=getD_map bV us [] hpos;have e2:=getD_map (lP o c sl) us [] hpos;have e3:=getD_map Zp w 0 (i:=0) (by omega)
 have e4:=getD_map Zp ms 0 (i:=0) (by omega)
 have kb:=hb _ (au [] hpos);have hk:=jC (us.getD 0 []);have hx:=hI 0 hpos;have hp:=EY (x:=(ch:Int)) (y:=w.getD 0 0) (by simpa using hch) hx.1
 have hgr:=xw (o:=o) (ms:=ms) (w:=w) (c:=ch) hpos;have hgk: ∀k,k<0+1→(∀q,q<0→eS (us.getD q []) ((du o us ms w ch).getD q 0) (lR o c sl (us.getD q []))=true)→eS (us.getD 0 []) ((du o us ms w ch).getD 0 0) (lR o c sl (us.getD 0 []))=true→eS (us.getD k []) ((du o us ms w ch).getD k 0) (lR o c sl (us.getD k []))=true:=fun k hk h1 h2=>by
  by_cases hkj:k<0
  ·exact h1 k hkj
  ·obtain rfl:k=0:=by omega
   exact h2
 rw[hgr]at hgk;have hbad:=fun h: ¬eS (us.getD 0 []) ((du o us ms w ch).getD 0 0) (lR o c sl (us.getD 0 []))=true=>j9 (p:=fun i=>eS (us.getD i []) ((du o us ms w ch).getD i 0) (lR o c sl (us.getD i []))) hpos (Bool.eq_false_iff.2 h)
 rw[←ug,hgr]at hbad;have r1:=rS hpos;rw[hgr]at r1;have hcs:(us.getD 0 []≠[]∧eS (us.getD 0 []) (dS o (us.getD 0 []) (ms.getD 0 0) (w.getD 0 0) ch) (lR o c sl (us.getD 0 []))=false∧aB Tryz.prog 282 [Z (ms.getD 0 0),Z ((ch:Int)*w.getD 0 0)] (.tup [Z (dS o (us.getD 0 []) (ms.getD 0 0) (w.getD 0 0) ch),E 0])∧aB Tryz.prog 196 [bV (us.getD 0 []),Zp (dS o (us.getD 0 []) (ms.getD 0 0) (w.getD 0 0) ch),N (lR o c sl (us.getD 0 []))] (.b false))∨
   (us.getD 0 []=[]∧eS (us.getD 0 []) (dS o (us.getD 0 []) (ms.getD 0 0) (w.getD 0 0) ch) (lR o c sl (us.getD 0 []))=true∧ ∃k:Nat,aB Tryz.prog 281 [Z ((ch:Int)*w.getD 0 0),N (lM o c sl (us.getD 0 []))] (.tup [N k,E 0])∧aB Tryz.prog 47 [N k] (Z k)∧aB Tryz.prog 282 [Z (ms.getD 0 0),Z k] (.tup [Z (ms.getD 0 0+k),E 0])∧ ∃k2:Nat,aB Tryz.prog 281 [Z (ms.getD 0 0+k),N (lM o c sl (us.getD 0 []))] (.tup [N k2,E 0])∧aB Tryz.prog 47 [N k2] (Z (dS o (us.getD 0 []) (ms.getD 0 0) (w.getD 0 0) ch)))∨
   (us.getD 0 []≠[]∧eS (us.getD 0 []) (dS o (us.getD 0 []) (ms.getD 0 0) (w.getD 0 0) ch) (lR o c sl (us.getD 0 []))=true∧aB Tryz.prog 282 [Z (ms.getD 0 0),Z ((ch:Int)*w.getD 0 0)] (.tup [Z (dS o (us.getD 0 []) (ms.getD 0 0) (w.getD 0 0) ch),E 0])∧aB Tryz.prog 196 [bV (us.getD 0 []),Zp (dS o (us.getD 0 []) (ms.getD 0 0) (w.getD 0 0) ch),N (lR o c sl (us.getD 0 []))] (.b true)):=by
  by_cases h:us.getD 0 []=[]
  ·exact .inr (.inl ⟨h,Bj hol h64 (ho (by rw[←h];exact au [] hpos)) h hx.2⟩)
  ·have h1:aB Tryz.prog 282 [Z (ms.getD 0 0),Z ((ch:Int)*w.getD 0 0)] (.tup [Z (dS o (us.getD 0 []) (ms.getD 0 0) (w.getD 0 0) ch),E 0]):=by
    rw[dS,if_neg h];exact wN (by omega)
   have h2:=pd (us.getD 0 []) (x:=dS o (us.getD 0 []) (ms.getD 0 0) (w.getD 0 0) ch) (L:=lR o c sl (us.getD 0 [])) (by rw[dS,if_neg h];have:=Int.natAbs_add_le (ms.getD 0 0) (ch*w.getD 0 0);omega) (Ff hr lo kb.2)
   cases hin:eS (us.getD 0 []) (dS o (us.getD 0 []) (ms.getD 0 0) (w.getD 0 0) ch) (lR o c sl (us.getD 0 []))
   ·rw[hin]at h2;exact .inl ⟨h,rfl,h1,h2⟩
   ·rw[hin]at h2;exact .inr (.inr ⟨h,rfl,h1,h2⟩)
 clear hx kb;generalize dS o (us.getD 0 []) (ms.getD 0 0) (w.getD 0 0) ch=z at*;generalize hu0:us.getD 0 []=u at*;simp only[bV]at e1 hk hcs;simp only[lP]at e2;generalize lM o c sl u=M at*;generalize lR o c sl u=Rr at*;simp only[Zp,cu,gJ]at e3 e4 hcs;rcases hcs with⟨hu,hgd,m1,m2⟩|⟨hu,hgd,k,m1,m2,m3,k2,m4,m5⟩|⟨hu,hgd,m1,m2⟩
 ·rw[if_neg hu]at hk;rw[zr,hbad (by simp[hgd])]
  repeat' first|simp only[go_sem,seval,l2,l3,l4,l5,e1,e2,e3,e4]|refine cP hk ?_|refine cP hF ?_|refine cP hp ?_|refine cP m1 ?_|refine cP m2 ?_|refine sB ?_|(first|apply pX|apply bX)<;>intro hc|refine⟨oD,?_⟩|exact oD|fail
  all_goals rfl
 all_goals
  first|rw[if_pos hu]at hk|rw[if_neg hu]at hk
  repeat' first|simp only[go_sem,seval,l2,l3,l4,l5,e1,e2,e3,e4]|refine cP hk ?_|refine cP hF ?_|refine cP hp ?_|refine cP m1 ?_|refine cP m2 ?_|refine cP m3 ?_|refine cP m4 ?_|refine cP m5 ?_|refine sB ?_|(first|apply pX|apply bX)<;>intro hc|refine⟨oD,?_⟩|exact oD|fail
  obtain⟨nm,hnm⟩: ∃nm,nm=(if u=[]then 1074 else 1059):=⟨_,rfl⟩
  first|rw[if_pos hu]at hnm|rw[if_neg hu]at hnm
  refine aj (α:=Nat) (fun j=>us.length-(j+1)) (fun j=>⟨[(1, .v (.sl (us.map (lP o c sl)))),(2, .v (.sl (w.map Zp))),(3, .v (.sl (ms.map Zp))),(4, .v (N ch)),(5, .p 1000 0 0),(12, .rs nm j 0 (j+1) 2),(28, .v (.sl (us.map bV))),(29,E' us.length),(30,E' (j+1))],[(1000,⟨0,[.v (.sl (gs.map dU)), .v (.sl (us.map bV)), .v (.sl (es.map cG.pv))],false,none⟩),(nm,⟨j,aQ Zp ((du o us ms w ch).take (j+1)),true,some 49⟩)],nm+4⟩) (fun j=>j+1≤us.length∧ ∀k,k<j+1→eS (us.getD k []) ((du o us ms w ch).getD k 0) (lR o c sl (us.getD k []))=true) 0 (fun _=>by show _≤nm+4;rw[hnm];exact Nat.le_of_ble_eq_true rfl) ⟨hpos,fun k hk=>hgk k hk (fun j hj=>by omega) hgd⟩ ?_ ?_<;>subst hnm
  ·rw[r1,List.take_zero,show aQ Zp ([]:List Int)=[]from rfl,List.nil_append]
   exact lE
  ·clear e1 e2 e3 e4 hk hgr hbad r1 hgk hgd m1 m2 hu0 hp
   first|clear m3 m4 m5|skip
   rintro j ⟨hj,hall⟩ R hR;have hlm:((du o us ms w ch).take (j+1)).length=j+1:=by rw[List.length_take];omega
   have q1:=a9 ya ((du o us ms w ch).take (j+1));have q2:=a5 ya ((du o us ms w ch).take (j+1));rw[hlm]at q1 q2
   by_cases hlt:j+1<us.length
   ·have e1:=getD_map bV us [] hlt;have e2:=getD_map (lP o c sl) us [] hlt;have e3:=getD_map Zp w 0 (i:=(j+1)) (by omega)
    have e4:=getD_map Zp ms 0 (i:=(j+1)) (by omega)
    have kb:=hb _ (au [] hlt);have hk:=jC (us.getD (j+1) []);have hx:=hI (j+1) hlt;have hp:=EY (x:=(ch:Int)) (y:=w.getD (j+1) 0) (by simpa using hch) hx.1
    have hgr:=xw (o:=o) (ms:=ms) (w:=w) (c:=ch) hlt;have hgk: ∀k,k<(j+1)+1→(∀q,q<(j+1)→eS (us.getD q []) ((du o us ms w ch).getD q 0) (lR o c sl (us.getD q []))=true)→eS (us.getD (j+1) []) ((du o us ms w ch).getD (j+1) 0) (lR o c sl (us.getD (j+1) []))=true→eS (us.getD k []) ((du o us ms w ch).getD k 0) (lR o c sl (us.getD k []))=true:=fun k hk h1 h2=>by
     by_cases hkj:k<(j+1)
     ·exact h1 k hkj
     ·obtain rfl:k=(j+1):=by omega
      exact h2
    rw[hgr]at hgk;have hbad:=fun h: ¬eS (us.getD (j+1) []) ((du o us ms w ch).getD (j+1) 0) (lR o c sl (us.getD (j+1) []))=true=>j9 (p:=fun i=>eS (us.getD i []) ((du o us ms w ch).getD i 0) (lR o c sl (us.getD i []))) hlt (Bool.eq_false_iff.2 h)
    rw[←ug,hgr]at hbad;have r1:=rS hlt;rw[hgr]at r1;have hcs:(us.getD (j+1) []≠[]∧eS (us.getD (j+1) []) (dS o (us.getD (j+1) []) (ms.getD (j+1) 0) (w.getD (j+1) 0) ch) (lR o c sl (us.getD (j+1) []))=false∧aB Tryz.prog 282 [Z (ms.getD (j+1) 0),Z ((ch:Int)*w.getD (j+1) 0)] (.tup [Z (dS o (us.getD (j+1) []) (ms.getD (j+1) 0) (w.getD (j+1) 0) ch),E 0])∧aB Tryz.prog 196 [bV (us.getD (j+1) []),Zp (dS o (us.getD (j+1) []) (ms.getD (j+1) 0) (w.getD (j+1) 0) ch),N (lR o c sl (us.getD (j+1) []))] (.b false))∨
      (us.getD (j+1) []=[]∧eS (us.getD (j+1) []) (dS o (us.getD (j+1) []) (ms.getD (j+1) 0) (w.getD (j+1) 0) ch) (lR o c sl (us.getD (j+1) []))=true∧ ∃k:Nat,aB Tryz.prog 281 [Z ((ch:Int)*w.getD (j+1) 0),N (lM o c sl (us.getD (j+1) []))] (.tup [N k,E 0])∧aB Tryz.prog 47 [N k] (Z k)∧aB Tryz.prog 282 [Z (ms.getD (j+1) 0),Z k] (.tup [Z (ms.getD (j+1) 0+k),E 0])∧ ∃k2:Nat,aB Tryz.prog 281 [Z (ms.getD (j+1) 0+k),N (lM o c sl (us.getD (j+1) []))] (.tup [N k2,E 0])∧aB Tryz.prog 47 [N k2] (Z (dS o (us.getD (j+1) []) (ms.getD (j+1) 0) (w.getD (j+1) 0) ch)))∨
      (us.getD (j+1) []≠[]∧eS (us.getD (j+1) []) (dS o (us.getD (j+1) []) (ms.getD (j+1) 0) (w.getD (j+1) 0) ch) (lR o c sl (us.getD (j+1) []))=true∧aB Tryz.prog 282 [Z (ms.getD (j+1) 0),Z ((ch:Int)*w.getD (j+1) 0)] (.tup [Z (dS o (us.getD (j+1) []) (ms.getD (j+1) 0) (w.getD (j+1) 0) ch),E 0])∧aB Tryz.prog 196 [bV (us.getD (j+1) []),Zp (dS o (us.getD (j+1) []) (ms.getD (j+1) 0) (w.getD (j+1) 0) ch),N (lR o c sl (us.getD (j+1) []))] (.b true)):=by
     by_cases h:us.getD (j+1) []=[]
     ·exact .inr (.inl ⟨h,Bj hol h64 (ho (by rw[←h];exact au [] hlt)) h hx.2⟩)
     ·have h1:aB Tryz.prog 282 [Z (ms.getD (j+1) 0),Z ((ch:Int)*w.getD (j+1) 0)] (.tup [Z (dS o (us.getD (j+1) []) (ms.getD (j+1) 0) (w.getD (j+1) 0) ch),E 0]):=by
       rw[dS,if_neg h];exact wN (by omega)
      have h2:=pd (us.getD (j+1) []) (x:=dS o (us.getD (j+1) []) (ms.getD (j+1) 0) (w.getD (j+1) 0) ch) (L:=lR o c sl (us.getD (j+1) [])) (by rw[dS,if_neg h];have:=Int.natAbs_add_le (ms.getD (j+1) 0) (ch*w.getD (j+1) 0);omega) (Ff hr lo kb.2)
      cases hin:eS (us.getD (j+1) []) (dS o (us.getD (j+1) []) (ms.getD (j+1) 0) (w.getD (j+1) 0) ch) (lR o c sl (us.getD (j+1) []))
      ·rw[hin]at h2;exact .inl ⟨h,rfl,h1,h2⟩
      ·rw[hin]at h2;exact .inr (.inr ⟨h,rfl,h1,h2⟩)
    clear hx kb;generalize dS o (us.getD (j+1) []) (ms.getD (j+1) 0) (w.getD (j+1) 0) ch=z at*;generalize hu0:us.getD (j+1) []=u at*;simp only[bV]at e1 hk hcs;simp only[lP]at e2;generalize lM o c sl u=M at*;generalize lR o c sl u=Rr at*;simp only[Zp,cu,gJ]at e3 e4 hcs;rcases hcs with⟨hu,hgd,m1,m2⟩|⟨hu,hgd,k,m1,m2,m3,k2,m4,m5⟩|⟨hu,hgd,m1,m2⟩
    ·rw[if_neg hu]at hk;rw[zr,hbad (by simp[hgd])]
     clear hR hall hgk;repeat' first|simp only[go_sem,seval,l2,l3,l4,l5,e1,e2,e3,e4,q1,q2]|refine cP hk ?_|refine cP hF ?_|refine cP hp ?_|refine cP m1 ?_|refine cP m2 ?_|refine sB ?_|(first|apply pX|apply bX)<;>intro hc|refine⟨oD,?_⟩|exact oD|fail
     all_goals rfl
    all_goals
     have hgo:=hR (j+1) ⟨by omega,fun k hk=>hgk k hk hall hgd⟩ (by omega)
     rw[r1]at hgo;clear hR hall hgk
     first|rw[if_pos hu]at hk|rw[if_neg hu]at hk
     repeat' first|simp only[go_sem,seval,l2,l3,l4,l5,e1,e2,e3,e4,q1,q2]|refine cP hk ?_|refine cP hF ?_|refine cP hp ?_|refine cP m1 ?_|refine cP m2 ?_|refine cP m3 ?_|refine cP m4 ?_|refine cP m5 ?_|refine sB ?_|(first|apply pX|apply bX)<;>intro hc|refine⟨oD,?_⟩|exact oD|fail
     refine hgo _ ?_
     (refine AS.Le.of (by first|decide|omega) ?_ ?_<;>simp[bL,bK,aD,ai,AV.bd,AV.bd.bdL,u8,af,ah,ak])
     all_goals exact fun c hc=>by rcases hc with hc|rfl|rfl<;>first|exact cb hc|rfl
   ·have hjl:us.length=j+1:=by omega
    have hgood2:ug o c sl us (du o us ms w ch)=true:=jN fun k hk=>hall k (by omega)
    rw[zr,hgood2];have hT:(du o us ms w ch).take (j+1)=du o us ms w ch:=List.take_of_length_le (by omega)
    rw[hT]at q1 q2⊢;have q3:=ct ya (du o us ms w ch);have q4:=bj ya (du o us ms w ch);rw[hrl,hjl]at q4;rw[hjl];clear hR;repeat' first|simp only[go_sem,seval,l2,hjl,q1,q2,q3,q4,cj]|refine sB ?_|(first|apply pX|apply bX)<;>intro hc|refine⟨oD,?_⟩|exact oD|fail
    all_goals rfl
theorem Fu {w:List Int} {n:Nat} {P:Int→Prop} (hwl:w.length=n) (h: ∀i,i<n→P (w.getD i 0)): ∀x∈w,P x:=fun x hx=>by
 obtain⟨j,hj,rfl⟩:=List.getElem_of_mem hx;have:=h j (by omega)
 rwa[List.getD_eq_getElem?_getD,List.getElem?_eq_getElem hj]at this
theorem Md {o:Bytes} {us:List Bytes} {w:List Int} (h:rP o us w=true) {i:Nat} (hi:i<us.length):eS (us.getD i []) (w.getD i 0) (cR o (us.getD i []))=true:=List.all_eq_true.1 h i (List.mem_range.2 hi)
theorem D3 {o b:Bytes} (lo:o.length≤8) (lb:b.length≤16):cR o b≤dA:=by
 unfold cR;split
 ·exact Nat.le_of_lt (Nat.lt_of_lt_of_le (cE lo) mO)
 ·exact Nat.le_of_lt (A8 lb)
theorem yk {c sl:Bytes} {s:bQ} (hp:z9 c sl s) {w ms:List Int} {ch:Nat} (hwl:w.length=s.vars.length) (hml:ms.length=s.vars.length) (hch:ch<num c) (hW:rP (aS s.groups) s.vars w=true) (hM: ∀i,i<s.vars.length→eS (s.vars.getD i []) (ms.getD i 0) (lM (aS s.groups) c sl (s.vars.getD i []))=true):
  aB Tryz.prog 119 [.agg [.s c, .s sl],s.pv, .sl (w.map Zp), .sl (ms.map Zp),N ch] (zr (aS s.groups) c sl s.vars (du (aS s.groups) s.vars ms w ch)):=by
 have hr:=hp.r;have hb:=hp.g.v;have nv:=hp.g.nv;have lo:=(dc hp.g.g).2;have hbo:=qQ hp;have c8:=cE hr.lc;have h64:=jE;have h128:=mO;have hwb: ∀i,i<s.vars.length→(w.getD i 0).natAbs<dA:=fun i hi=>Nat.lt_of_lt_of_le (uf (Md hW hi)).1 (D3 lo (hb _ (au [] hi)).2)
 have hmb: ∀i,i<s.vars.length→(ms.getD i 0).natAbs<256^33:=fun i hi=>Nat.lt_trans (uf (hM i hi)).1 (Fe hr lo (hb _ (au [] hi)).2)
 have h33:256^33+18446744073709551616*dA+18446744073709551616<dt:=by unfold dt dA;decide+kernel
 have hwA: ∀x∈w,x.natAbs<dt:=Fu hwl fun i hi=>Nat.lt_of_lt_of_le (hwb i hi) Dj
 have hmA: ∀x∈ms,x.natAbs<dt:=Fu hml fun i hi=>by have:=hmb i hi;omega
 have hv1:=s9 (w.map gJ) (by rw[List.length_map];omega)
 have hv2:=s9 (ms.map gJ) (by rw[List.length_map];omega)
 have hrg:=JL hp.g hwl hwA;rw[P6,o5 hwA]at hv1;rw[P6,o5 hmA]at hv2;rw[hW]at hrg;have hn:=aF (aK ch);rw[vB (by omega)]at hn
 have hcm:=lV (a:=ch) (b:=num c) (by omega) (by omega)
 rw[dy hr.vc]at hcm;have hd: ∀ _:True,decide (aT ch (num c)≥0)=false:=fun _=>by rw[L9,decide_eq_true hch];rfl
 have hre:=Gg hp hwl hml (ch:=ch) (by omega) (fun i hi=>by
  refine⟨hwb i hi,?_⟩;have h1:=hmb i hi;have h2:((ch:Int)*w.getD i 0).natAbs≤18446744073709551616*dA:=by
   rw[Int.natAbs_mul,Int.natAbs_natCast];exact Nat.mul_le_mul (by omega) (Nat.le_of_lt (hwb i hi))
  omega)
 have hmL: ∀i,i<s.vars.length→aB Tryz.prog 196 [bV (s.vars.getD i []),Zp (ms.getD i 0),N (lM (aS s.groups) c sl (s.vars.getD i []))] (.b true):=fun i hi=>by
  have:=pd (s.vars.getD i []) (x:=ms.getD i 0) (L:=lM (aS s.groups) c sl (s.vars.getD i [])) (by have:=hmb i hi;omega) (KA hr lo (hb _ (au [] hi)).2)
  rwa[hM i hi]at this
 generalize aT ch (num c)=cm at*;generalize du (aS s.groups) s.vars ms w ch=rs at*;unfold zr at*;obtain⟨gs,us,es⟩:=s;simp only at nv hwl hml hmL hre hbo⊢;generalize aS gs=o at*;have l2:(us.map bV).length=us.length:=List.length_map ..;have l3:(us.map (lP o c sl)).length=us.length:=List.length_map ..;have l4:(w.map Zp).length=us.length:=by rw[List.length_map];exact hwl
 have l5:(ms.map Zp).length=us.length:=by rw[List.length_map];exact hml
 clear hW hwb hmb hM hwA hmA h33 h64 hb hp hr;unfold bQ.pv at*;simp only at*;refine eW Tryz.call119 Tryz.func119 ?_;repeat' first|simp only[go_sem,seval,l2,l4,l5,hd trivial]|refine cP hbo ?_|refine cP hv1 ?_|refine cP hv2 ?_|refine cP hn ?_|refine cP hcm ?_|refine cP hrg ?_|refine sB ?_|(first|apply pX|apply bX)<;>intro hc|refine⟨oD,?_⟩|exact oD|fail
 refine aj (α:=Nat) (fun i=>us.length-i) (fun i=>⟨[(2, .v (.sl (w.map Zp))),(3, .v (.sl (ms.map Zp))),(4, .v (N ch)),(6, .p 1001 0 0),(12, .v (.sl (us.map (lP o c sl)))),(68, .v (.sl (us.map bV))),(69,E' us.length),(70,E' i)],[(1001,⟨0,[.v (.sl (gs.map dU)), .v (.sl (us.map bV)), .v (.sl (es.map cG.pv))],false,none⟩)],_⟩) (fun i=>i≤us.length) 0 (fun _=>Nat.le_refl _) (Nat.zero_le _) ?_ ?_
 ·exact lE
 ·intro i hi R hR
  by_cases hlt:i<us.length
  ·have hgo:=hR (i+1) (by omega) (by omega)
   have e1:=getD_map bV us [] hlt;have e2:=getD_map (lP o c sl) us [] hlt;have e4:=getD_map Zp ms 0 (i:=i) (by omega)
   have hc:=hmL i hlt;clear hR hmL hre hv1 hv2;simp only[lP]at e2;generalize lM o c sl (us.getD i [])=M at*;generalize us.getD i []=u at*;generalize ms.getD i 0=x at*;simp only[bV]at e1 hc;simp only[Zp,cu,gJ]at e4 hc;repeat' first|simp only[go_sem,seval,l2,l3,l5,e1,e2,e4]|refine cP hc ?_|refine sB ?_|(first|apply pX|apply bX)<;>intro hc|refine⟨oD,?_⟩|exact oD|fail
   refine hgo _ ?_;exact lE
  ·obtain rfl:i=us.length:=by omega
   clear hR hmL;generalize ug o c sl us rs=b at*;cases b
   ·repeat' first|simp only[go_sem,seval]|refine cP hre ?_|refine sB ?_|(first|apply pX|apply bX)<;>intro hc|refine⟨oD,?_⟩|exact oD|fail
    all_goals rfl
   ·repeat' first|simp only[go_sem,seval]|refine cP hre ?_|refine sB ?_|(first|apply pX|apply bX)<;>intro hc|refine⟨oD,?_⟩|exact oD|fail
    all_goals rfl
def tw (b:Bytes) (x:Bool×Bytes) (L:Nat):Bool:=decide (num x.2<L)&& !(b==[]&&x.1)
theorem Gp (b:Bytes) {n:Bool} {a:Bytes} (va:aa a=true) {L:Nat} (hL:L<dt):aB Tryz.prog 338 [bV b,N L, .agg [.b n, .s a]] (.b (tw b (n,a) L)):=by
 have hc:=lV (uB va) hL;rw[dy va]at hc;have hd: ∀ _:True,decide (aT (num a) L<0)=decide (num a<L):=fun _=>by rw[Bool.eq_iff_iff];simp only[decide_eq_true_eq];exact fE
 generalize aT (num a) L=cm at*;unfold bV tw;simp only;generalize decide (num a<L)=p at*;generalize hb:(b==([]:Bytes))=q at*
 cases p<;>cases q<;>cases n<;>
 ·refine eW Tryz.call338 Tryz.func338 ?_;repeat' first|simp only[go_sem,seval,hb,hd trivial]|refine cP hc ?_|refine sB ?_|(first|apply pX|apply bX)<;>intro hc|refine⟨oD,?_⟩|exact oD|fail
  all_goals rfl
def y5 (o c sl:Bytes) (vs:List Bytes) (l:List (Bool×Bytes)):Bool:=(List.range vs.length).all fun i=>tw (vs.getD i []) (l.getD i ie) (lR o c sl (vs.getD i []))
def dW (o c sl:Bytes) (vs:List Bytes) (ch:Bytes) (l:List (Bool×Bytes)):Int:=
 if !(aa ch&&l.all bH)then 3 else if num c≤num ch then 2 else if l.length≠vs.length then 6 else if !y5 o c sl vs l then 2 else 0
noncomputable def mb (c sl:Bytes) (s:bQ) (ch:Bytes) (l:List (Bool×Bytes)):List PV:=
 if dW (aS s.groups) c sl s.vars ch l=0 then s.eqs.map fun q=>N (iQ s.groups ch l q)else[]
theorem FM {o c sl:Bytes} {vs:List Bytes} {l:List (Bool×Bytes)} {i:Nat} (hi:i<vs.length) (h: ¬tw (vs.getD i []) (l.getD i ie) (lR o c sl (vs.getD i []))=true):y5 o c sl vs l=false:=by
 unfold y5;rw[Bool.eq_false_iff];intro g;exact h (List.all_eq_true.1 g i (List.mem_range.2 hi))
theorem sP {o c sl:Bytes} {vs:List Bytes} {l:List (Bool×Bytes)} (h: ∀i,i<vs.length→tw (vs.getD i []) (l.getD i ie) (lR o c sl (vs.getD i []))=true):y5 o c sl vs l=true:=by
 unfold y5;rw[List.all_eq_true];intro i hi;exact h i (List.mem_range.1 hi)
theorem Bn {c sl:Bytes} {s:bQ} (hp:z9 c sl s) (h1:s.eqs≠[]) {ch:Bytes} {l:List (Bool×Bytes)} (hll:l.length<1000000):aB Tryz.prog 289 [.agg [.s c, .s sl],s.pv, .s ch, .sl (l.map cu)] (.tup [.sl (mb c sl s ch l),E (dW (aS s.groups) c sl s.vars ch l)]):=by
 have hr:=hp.r;have hs:=hp.g;have hb:=xz hp;have lo:=(dc hs.g).2;clear hp;have vh:=aF ch;have hi:=GC l hll;have l5:(l.map cu).length=l.length:=List.length_map ..;have l2:(s.vars.map bV).length=s.vars.length:=List.length_map ..;have l6:(s.vars.map fun b=>N (lR (aS s.groups) c sl b)).length=s.vars.length:=List.length_map ..
 have nv:=hs.nv
 by_cases g1:aa ch=true∧l.all bH=true
 case neg=>
  have e:(aa ch&&l.all bH)=false:=by rw[Bool.eq_false_iff];intro g;simp at g;exact g1 ⟨g.1,by simpa[List.all_eq_true]using g.2⟩
  have e2:dW (aS s.groups) c sl s.vars ch l=3:=by simp only[dW,e];rfl
  rw[mb,if_neg (by rw[e2];decide),e2]
  clear e2 hs;unfold bQ.pv at*;generalize aa ch=b1 at*;generalize l.all bH=b2 at*;refine eW Tryz.call289 Tryz.func289 ?_;repeat' first|simp only[go_sem,seval]|refine cP hb ?_|refine cP vh ?_|refine cP hi ?_|refine sB ?_|(first|apply pX|apply bX)<;>intro hc|refine⟨oD,?_⟩|exact oD|fail
  all_goals (exfalso;simp_all)
 obtain⟨vc,hok⟩:=g1;rw[vc]at vh;rw[hok]at hi;have hcm:=lW vc hr.vc
 by_cases g2:num c≤num ch
 ·have e2:dW (aS s.groups) c sl s.vars ch l=2:=by simp only[dW,vc,hok];rw[if_neg (by simp),if_pos g2]
  have hd: ∀ _:True,decide (aT (num ch) (num c)≥0)=true:=fun _=>decide_eq_true (kj.2 g2)
  rw[mb,if_neg (by rw[e2];decide),e2]
  generalize aT (num ch) (num c)=cm at*;clear e2 hs;unfold bQ.pv at*;refine eW Tryz.call289 Tryz.func289 ?_;repeat' first|simp only[go_sem,seval,hd trivial]|refine cP hb ?_|refine cP vh ?_|refine cP hi ?_|refine cP hcm ?_|refine sB ?_|(first|apply pX|apply bX)<;>intro hc|refine⟨oD,?_⟩|exact oD|fail
 have hd: ∀ _:True,decide (aT (num ch) (num c)≥0)=false:=fun _=>decide_eq_false (fun g=>g2 (kj.1 g))
 by_cases g3:l.length=s.vars.length
 case neg=>
  have e2:dW (aS s.groups) c sl s.vars ch l=6:=by simp only[dW,vc,hok];rw[if_neg (by simp),if_neg g2,if_pos g3]
  rw[mb,if_neg (by rw[e2];decide),e2]
  generalize aT (num ch) (num c)=cm at*;clear e2 hs;unfold bQ.pv at*;refine eW Tryz.call289 Tryz.func289 ?_;repeat' first|simp only[go_sem,seval,hd trivial,l5,l2]|refine cP hb ?_|refine cP vh ?_|refine cP hi ?_|refine cP hcm ?_|refine sB ?_|(first|apply pX|apply bX)<;>intro hc|refine⟨oD,?_⟩|exact oD|fail
  all_goals (exfalso;omega)
 have hms:=uW hs.m h1 vc g3 (List.all_eq_true.1 hok);have hv:=hs.v;have hval: ∀x∈l,aa x.2=true:=fun x hx=>by
  have:=List.all_eq_true.1 hok x hx;simp only[bH,Bool.and_eq_true]at this;exact this.1
 have e0:dW (aS s.groups) c sl s.vars ch l=if !y5 (aS s.groups) c sl s.vars l then 2 else 0:=by
  simp only[dW,vc,hok];rw[if_neg (by simp),if_neg g2,if_neg (by omega)]
 unfold mb;rw[e0];clear e0 hs hok;obtain⟨gs,vs,es⟩:=s;simp only at*;generalize aS gs=o at*;unfold bQ.pv at*;simp only at*;generalize aT (num ch) (num c)=cm at*;refine eW Tryz.call289 Tryz.func289 ?_;repeat' first|simp only[go_sem,seval,hd trivial,l5,l2]|refine cP hb ?_|refine cP vh ?_|refine cP hi ?_|refine cP hcm ?_|refine sB ?_|(first|apply pX|apply bX)<;>intro hc|refine⟨oD,?_⟩|exact oD|fail
 refine aj (α:=Nat) (fun i=>vs.length-i) (fun i=>⟨[(2, .v (.s ch)),(3, .v (.sl (l.map cu))),(5, .p 1001 0 0),(11, .v (.sl (vs.map fun b=>N (lR o c sl b)))),(45, .v (.sl (vs.map bV))),(46,E' vs.length),(47,E' i)],[(1001,⟨0,[.v (.sl (gs.map dU)), .v (.sl (vs.map bV)), .v (.sl (es.map cG.pv))],false,none⟩)],_⟩) (fun i=>i≤vs.length∧ ∀j,j<i→tw (vs.getD j []) (l.getD j ie) (lR o c sl (vs.getD j []))=true) 0 (fun _=>Nat.le_refl _) ⟨Nat.zero_le _,fun j hj=>by omega⟩ ?_ ?_
 ·exact lE
 ·rintro i ⟨hi',hf⟩ R hR
  by_cases hlt:i<vs.length
  ·have e1:=getD_map bV vs [] hlt;have e2:=getD_map (fun b=>N (lR o c sl b)) vs [] hlt
   have hlt2:i<l.length:=by omega
   have e3:=getD_map cu l ie hlt2;obtain⟨k1,k3⟩:=hv _ (au [] hlt);have kv:=hval _ (au ie hlt2);have ad:aB Tryz.prog 338 [bV (vs.getD i []),N (lR o c sl (vs.getD i [])),cu (l.getD i ie)] (.b (tw (vs.getD i []) (l.getD i ie) (lR o c sl (vs.getD i [])))):=Gp (vs.getD i []) (n:=(l.getD i ie).1) kv (Ff hr lo k3);have hgo:=hR (i+1)
   by_cases hc2:tw (vs.getD i []) (l.getD i ie) (lR o c sl (vs.getD i []))=true
   ·have hgo:=hgo ⟨by omega,fun j hj=>by
     by_cases e:j=i
     ·rw[e];exact hc2
     ·exact hf j (by omega)⟩ (by omega)
    rw[hc2]at ad;clear hR hf hc2 kv k1 k3;generalize lR o c sl (vs.getD i [])=L at*;generalize vs.getD i []=b at*;obtain⟨x,hx⟩: ∃x,x=l.getD i ie:=⟨_,rfl⟩;rw[←hx]at ad e3;clear hx;obtain⟨xn,xa⟩:=x;simp only[bV,cu]at*;repeat' first|simp only[go_sem,seval,l2,l5,l6,e1,e2,e3]|refine cP ad ?_|refine sB ?_|(first|apply pX|apply bX)<;>intro hc|refine⟨oD,?_⟩|exact oD|fail
    refine hgo _ ?_;exact lE
   ·rw[FM hlt hc2];rw[Bool.eq_false_iff.2 hc2]at ad;clear hR hf hgo hc2 kv k1 k3;generalize lR o c sl (vs.getD i [])=L at*;generalize vs.getD i []=b at*;obtain⟨x,hx⟩: ∃x,x=l.getD i ie:=⟨_,rfl⟩;rw[←hx]at ad e3;clear hx;obtain⟨xn,xa⟩:=x;simp only[bV,cu]at*;repeat' first|simp only[go_sem,seval,l2,l5,l6,e1,e2,e3]|refine cP ad ?_|refine sB ?_|(first|apply pX|apply bX)<;>intro hc|refine⟨oD,?_⟩|exact oD|fail
    all_goals rfl
  ·obtain rfl:i=vs.length:=by omega
   rw[sP hf];repeat' first|simp only[go_sem,seval,l2]|refine cP hms ?_|refine sB ?_|(first|apply pX|apply bX)<;>intro hc|refine⟨oD,?_⟩|exact oD|fail
   all_goals rfl
theorem wE {α:Type} {f:Nat→α→Nat} {m:Nat} (h: ∀x a,f x a<m): ∀(l:List α) (x:Nat),x<m→l.foldl f x<m
 |[],_,hx=>hx
 |a::l,x,_=>wE h l _ (h x a)
theorem Iu {s:bQ} (hs:vH s) (ch:Bytes) (rs:List (Bool×Bytes)): ∀x∈oC s ch rs,x.length≤8∧aa x=true:=by
 intro x hx;obtain⟨q,hq,rfl⟩:=List.mem_map.1 hx;obtain⟨q1,q2,-⟩:=hs.q q hq;have hg:=hs.g _ (au ed (show q.iE.toNat<s.groups.length by omega))
 have hm:=(fb hg.1).2.2.1;have hlt:iQ s.groups ch rs q<256^8:=by
  refine Nat.lt_trans ?_ (cE hg.2.1);unfold iQ;exact wE (fun x a=>Nat.mod_lt _ (by omega)) _ _ (Nat.mod_lt _ (by omega))
 exact⟨kf.2 hlt,vN hlt⟩
theorem y7 {c sl:Bytes} {s:bQ} (hp:z9 c sl s) (h0:s.vars≠[]) (h00:s.eqs≠[]) {ch:Bytes} {rs:List (Bool×Bytes)} (h1:rs.length<1000000) (hf:ff c s.vars.length ch rs [] []=0) (hi:dW (aS s.groups) c sl s.vars ch rs≠0):
  aB Tryz.prog 206 [X0 c sl s,C5 ch rs [] []] (.tup [Rw,B0,E (dW (aS s.groups) c sl s.vars ch rs)]):=by
 have hfo:=ua (c:=c) (sl:=sl) hp.r.vc s ch rs [] [] h1 (by simp) (by simp) (by simp)
 rw[hf]at hfo;have hfi:=Bn hp h00 (ch:=ch) (l:=rs) h1;have hl:mb c sl s ch rs=[]:=by unfold mb;rw[if_neg hi]
 rw[hl]at hfi;have hb:(dW (aS s.groups) c sl s.vars ch rs==0)=false:=by simpa using hi
 generalize dW (aS s.groups) c sl s.vars ch rs=e at*;obtain⟨gq,vs,es⟩:=s;simp only[X0,C5,bQ.pv]at hfo hfi⊢;refine eW Tryz.call206 Tryz.func206 ?_;repeat' first|simp only[go_sem,seval,hb]|refine cP hfo ?_|refine cP hfi ?_|refine sB ?_|(first|apply pX|apply bX)<;>intro hc|refine⟨oD,?_⟩|exact oD|fail
 all_goals skip
theorem y8 {c sl:Bytes} {s:bQ} (hp:z9 c sl s) (h0:s.vars≠[]) (h00:s.eqs≠[]) {ch:Bytes} {rs:List (Bool×Bytes)} (h1:rs.length<1000000) (hf:ff c s.vars.length ch rs [] []=0) (hi:dW (aS s.groups) c sl s.vars ch rs=0):
  aB Tryz.prog 206 [X0 c sl s,C5 ch rs [] []] (.tup [.agg [.sl (s.eqs.map fun q=>N (iQ s.groups ch rs q)), .s ch, .sl (rs.map cu)],B0,E 0]):=by
 have hfo:=ua (c:=c) (sl:=sl) hp.r.vc s ch rs [] [] h1 (by simp) (by simp) (by simp)
 rw[hf]at hfo;have hfi:=Bn hp h00 (ch:=ch) (l:=rs) h1;have hl:mb c sl s ch rs=s.eqs.map fun q=>N (iQ s.groups ch rs q):=by unfold mb;rw[if_pos hi]
 rw[hl,hi]at hfi;have hrs:rs≠[]:=by
  intro h;subst h;unfold ff at hf;have hv:([]:List (Bool×Bytes)).length≠s.vars.length:=by
   intro h;exact h0 (List.length_eq_zero_iff.1 h.symm)
  split at hf
  ·exact absurd hf (by decide)
  ·rw[if_pos (.inl hv)]at hf;exact absurd hf (by decide)
 have hcl:=Bw hrs h1;have hcn:=zV;generalize (s.eqs.map fun q=>N (iQ s.groups ch rs q))=fl at*
 obtain⟨gq,vs,es⟩:=s;simp only[X0,C5,bQ.pv,List.map_nil]at hfo hfi⊢;refine eW Tryz.call206 Tryz.func206 ?_;repeat' first|simp only[go_sem,seval]|refine cP hfo ?_|refine cP hfi ?_|refine cP hcl ?_|refine cP hcn ?_|(refine ae ?_)|refine sB ?_|(first|apply pX|apply bX)<;>intro hc|refine⟨oD,?_⟩|exact oD|fail
noncomputable def u7 (c sl ctx:Bytes) (s:bQ) (ch:Bytes) (rs:List (Bool×Bytes)) (gs:List Bytes) (ls:List (List (Bool×Bytes))):Int:=
 if ff c s.vars.length ch rs gs ls≠0 then ff c s.vars.length ch rs gs ls else if dW (aS s.groups) c sl s.vars ch rs≠0 then dW (aS s.groups) c sl s.vars ch rs else if aK (fZ (AG ctx s (oC s ch rs)) c)=ch then 0 else 16
theorem EC {c sl:Bytes} {s:bQ} (hp:z9 c sl s) (hb:N2 s) (h00:s.eqs≠[]) {ctx:Bytes} (hx:ctx.length≤100000) {ch:Bytes} {rs:List (Bool×Bytes)} {gs:List Bytes} {ls:List (List (Bool×Bytes))} (h1:rs.length<1000000) (h2:gs.length≤1000) (h3:ls.length≤1000) (h4: ∀l∈ls,l.length<4611686018427387904):
  aB Tryz.prog 123 [.agg [.s c, .s sl], .s ctx,s.pv,C0,C5 ch rs gs ls] (E (u7 c sl ctx s ch rs gs ls)):=by
 have hn:=oj hp;unfold u7
 by_cases hf:ff c s.vars.length ch rs gs ls=0
 ·obtain⟨rfl,rfl⟩:=Ci hf;rw[if_neg (by simpa using hf)]
  by_cases hi:dW (aS s.groups) c sl s.vars ch rs=0
  ·rw[if_neg (by simpa using hi)]
   have ho:=y8 hp hb.v0 h00 h1 hf hi;have hmap:(s.eqs.map fun q=>N (iQ s.groups ch rs q))=(oC s ch rs).map .s:=by unfold oC;rw[List.map_map];rfl
   rw[hmap]at ho;have f0:oC s ch rs≠[]:=by unfold oC;simpa using h00
   have fl: ∀x∈oC s ch rs,x.length≤100000:=fun x hx=>by have:=(Iu hp.g ch rs x hx).1;omega
   have fn:(oC s ch rs).length≤900:=by unfold oC;rw[List.length_map];have:=hp.g.ne;omega
   generalize oC s ch rs=fs at*;have hc:=pH hp.r hb hx f0 fn fl;have ha:=yn (c:=c) (sl:=sl) s B0 (aK (fZ (AG ctx s fs) c));generalize fZ (AG ctx s fs) c=z at*;obtain⟨gq,vs,es⟩:=s;simp only[X0,C5,bQ.pv,List.map_nil]at hn ho hc ha⊢;clear hp hb h2 h3 h4 hf hi hmap
   by_cases hz:aK z=ch
   ·rw[if_pos hz];have hz1:(aK z==ch)=true:=by simpa using hz
    refine eW Tryz.call123 Tryz.func123 ?_;repeat' first|simp only[go_sem,seval,hz1]|refine cP hn ?_|refine cP ho ?_|refine cP hc ?_|refine cP ha ?_|(refine ae ?_)|refine sB ?_|(first|apply pX|apply bX)<;>intro hc|refine⟨oD,?_⟩|exact oD|fail
   ·rw[if_neg hz];have hz1:(aK z==ch)=false:=by simpa using hz
    refine eW Tryz.call123 Tryz.func123 ?_;repeat' first|simp only[go_sem,seval,hz1]|refine cP hn ?_|refine cP ho ?_|refine cP hc ?_|refine cP ha ?_|(refine ae ?_)|refine sB ?_|(first|apply pX|apply bX)<;>intro hc|refine⟨oD,?_⟩|exact oD|fail
  ·rw[if_pos hi];have ho:=y7 hp hb.v0 h00 h1 hf hi;have hb:(dW (aS s.groups) c sl s.vars ch rs==0)=false:=by simpa using hi
   generalize dW (aS s.groups) c sl s.vars ch rs=e at*;obtain⟨gq,vs,es⟩:=s;simp only[X0,C5,bQ.pv,List.map_nil]at hn ho⊢;refine eW Tryz.call123 Tryz.func123 ?_;repeat' first|simp only[go_sem,seval,hb]|refine cP hn ?_|refine cP ho ?_|refine sB ?_|(first|apply pX|apply bX)<;>intro hc|refine⟨oD,?_⟩|exact oD|fail
 ·rw[if_pos hf];have ho:=CG hp.r h1 h2 h3 h4 hf (sl:=sl);have hb:(ff c s.vars.length ch rs gs ls==0)=false:=by simpa using hf
  generalize ff c s.vars.length ch rs gs ls=e at*;obtain⟨gq,vs,es⟩:=s;simp only[X0,C5,bQ.pv]at hn ho⊢;refine eW Tryz.call123 Tryz.func123 ?_;repeat' first|simp only[go_sem,seval,hb]|refine cP hn ?_|refine cP ho ?_|refine sB ?_|(first|apply pX|apply bX)<;>intro hc|refine⟨oD,?_⟩|exact oD|fail
end Go.Proofs.YtmobkhegihemeaaGreatDoor
