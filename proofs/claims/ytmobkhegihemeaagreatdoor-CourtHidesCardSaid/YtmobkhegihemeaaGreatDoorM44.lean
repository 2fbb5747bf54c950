/-
  Part of the proof, part 44. Own work.
-/
import Derived.Test.YtmobkhegihemeaaGreatDoorM43
set_option linter.all false
namespace Go.Proofs.YtmobkhegihemeaaGreatDoor
open Go Go.Dom Go.Num
set_option maxRecDepth 100000
set_option maxHeartbeats 16000000
def rspA (o b:Bytes) (m w:Int) (c:Nat):Int:=if b=[]then(m+c*w)%num o else m+c*w
def rspZ (o:Bytes) (us:List Bytes) (ms w:List Int) (c:Nat):List Int:=(List.range us.length).map fun i=>rspA o (us.getD i []) (ms.getD i 0) (w.getD i 0) c
theorem rspZ_len (o:Bytes) (us:List Bytes) (ms w:List Int) (c:Nat):(rspZ o us ms w c).length=us.length:=by simp[rspZ]
theorem rspZ_get {o:Bytes} {us:List Bytes} {ms w:List Int} {c i:Nat} (h:i<us.length):(rspZ o us ms w c).getD i 0=rspA o (us.getD i []) (ms.getD i 0) (w.getD i 0) c:=by
 simp[rspZ,List.getD_eq_getElem?_getD,h]
def inRG (o c sl:Bytes) (us:List Bytes) (rs:List Int):Bool:=(List.range us.length).all fun i=>inM (us.getD i []) (rs.getD i 0) (lR o c sl (us.getD i []))
def rspP (o c sl:Bytes) (us:List Bytes) (rs:List Int):PV:=if inRG o c sl us rs then .tup [.sl (rs.map Zp),E 0]else .tup [.sl [],E 15]
theorem lR_lt {o c sl b:Bytes} (hr:RuOK c sl) (lo:o.length≤8) (lb:b.length≤16):lR o c sl b<LIM:=by
 unfold lR;split
 ·exact num8L lo
 ·exact limR_lt hr lb
theorem rsp_mod {o c sl b:Bytes} {m w:Int} {ch:Nat} (hol:num o<LIM) (h64:num o<18446744073709551616) (h0:0<num o) (h:b=[]) (hx:m.natAbs+((ch:Int)*w).natAbs+18446744073709551616<LIM):
  inM b (rspA o b m w ch) (lR o c sl b)=true∧ ∃k:Nat,EvP Tryz.prog 281 [Z ((ch:Int)*w),N (lM o c sl b)] (.tup [N k,E 0])∧EvP Tryz.prog 47 [N k] (Z k)∧EvP Tryz.prog 282 [Z m,Z k] (.tup [Z (m+k),E 0])∧ ∃k2:Nat,EvP Tryz.prog 281 [Z (m+k),N (lM o c sl b)] (.tup [N k2,E 0])∧EvP Tryz.prog 47 [N k2] (Z (rspA o b m w ch)):=by
 subst h;have g1:=Int.emod_nonneg ((ch:Int)*w) (b:=num o) (by omega)
 have g2:=Int.emod_lt_of_pos ((ch:Int)*w) (b:=num o) (by omega)
 have g3:=Int.emod_nonneg (m+ch*w) (b:=num o) (by omega)
 have g4:=Int.emod_lt_of_pos (m+ch*w) (b:=num o) (by omega)
 simp only[lM,lR,rspA,if_true];refine⟨?_,((ch:Int)*w%num o).toNat,iModL (by omega) hol h0,FromZ (by omega),iAddL (by omega),((m+ch*w)%num o).toNat,?_,?_⟩
 ·simp only[inM,Bool.and_eq_true,decide_eq_true_eq,decide_true,Bool.true_and,Bool.not_eq_true',decide_eq_false_iff_not];omega
 ·have:=iModL (x:=m+(((ch:Int)*w%num o).toNat:Int)) (m:=num o) (by omega) hol h0
  rw[Int.toNat_of_nonneg g1,Int.add_emod_emod]at this;rw[Int.toNat_of_nonneg g1];exact this
 ·have:=FromZ (n:=((m+ch*w)%num o).toNat) (by omega)
  rwa[Int.toNat_of_nonneg g3]at this
theorem respondG {c sl:Bytes} {s:Stm} (hp:StP c sl s) {w ms:List Int} {ch:Nat} (hwl:w.length=s.vars.length) (hml:ms.length=s.vars.length) (hch:ch<W128) (hI: ∀i,i<s.vars.length→(w.getD i 0).natAbs<W128∧(ms.getD i 0).natAbs+((ch:Int)*w.getD i 0).natAbs+18446744073709551616<LIM):
  EvP Tryz.prog 197 [s.pv, .sl (s.vars.map (lP (ordL s.groups) c sl)), .sl (w.map Zp), .sl (ms.map Zp),N ch] (rspP (ordL s.groups) c sl s.vars (rspZ (ordL s.groups) s.vars ms w ch)):=by
 have hb:=hp.g.v;have nv:=hp.g.nv;have hr:=hp.r;have hov:=ordL_valid hp.g.g;have lo:=hov.2;have ho:[]∈s.vars→0<num (ordL s.groups):=fun h=>Nat.pos_of_ne_zero (num_ne hov.1 (knd_ord hp.g h))
 obtain⟨gs,us,es⟩:=s;simp only at hb nv hwl hml hI lo ho⊢;clear hp hov;generalize ordL gs=o at*;have h64:=num8 lo;have hol:=num8L lo;have l2:(us.map vpv).length=us.length:=List.length_map ..;have l3:(us.map (lP o c sl)).length=us.length:=List.length_map ..;have l4:(w.map Zp).length=us.length:=by rw[List.length_map];exact hwl
 have l5:(ms.map Zp).length=us.length:=by rw[List.length_map];exact hml
 have hF:=FromZ (n:=ch) (Nat.lt_of_lt_of_le hch w128);have hrl:=rspZ_len o us ms w ch;have rS: ∀{j:Nat},j<us.length→rowF Zp ((rspZ o us ms w ch).take (j+1))=rowF Zp ((rspZ o us ms w ch).take j)++[.v (.b (zs ((rspZ o us ms w ch).getD j 0))), .v (.s (zb ((rspZ o us ms w ch).getD j 0)))]:=fun h=>by
  rw[take_succ_getD 0 (by omega),zs_snoc]
 unfold Stm.pv;simp only
 by_cases hpos:0<us.length
 rotate_left
 ·obtain rfl:us=[]:=List.length_eq_zero_iff.1 (by omega)
  refine eW Tryz.call197 Tryz.func197 ?_;repeat' first|simp only[go_sem,seval]|(refine loop_unroll' ?_)|refine sB ?_|(first|apply pX|apply bX)<;>intro hc|refine⟨oD,?_⟩|exact oD|fail
  all_goals rfl
 refine eW Tryz.call197 Tryz.func197 ?_;repeat' first|simp only[go_sem,seval,l2]|refine sB ?_|(first|apply pX|apply bX)<;>intro hc|refine⟨oD,?_⟩|exact oD|fail
 refine loop_unroll' ?_;have e1:=getD_map vpv us [] hpos;have e2:=getD_map (lP o c sl) us [] hpos;have e3:=getD_map Zp w 0 (i:=0) (by omega)
 have e4:=getD_map Zp ms 0 (i:=0) (by omega)
 have kb:=hb _ (mem_getD [] hpos);have hk:=skindG (us.getD 0 []);have hx:=hI 0 hpos;have hp:=iMulZ (x:=(ch:Int)) (y:=w.getD 0 0) (by simpa using hch) hx.1
 have hgr:=rspZ_get (o:=o) (ms:=ms) (w:=w) (c:=ch) hpos;have hgk: ∀k,k<0+1→(∀q,q<0→inM (us.getD q []) ((rspZ o us ms w ch).getD q 0) (lR o c sl (us.getD q []))=true)→inM (us.getD 0 []) ((rspZ o us ms w ch).getD 0 0) (lR o c sl (us.getD 0 []))=true→inM (us.getD k []) ((rspZ o us ms w ch).getD k 0) (lR o c sl (us.getD k []))=true:=fun k hk h1 h2=>by
  by_cases hkj:k<0
  ·exact h1 k hkj
  ·obtain rfl:k=0:=by omega
   exact h2
 rw[hgr]at hgk;have hbad:=fun h: ¬inM (us.getD 0 []) ((rspZ o us ms w ch).getD 0 0) (lR o c sl (us.getD 0 []))=true=>all_bad (p:=fun i=>inM (us.getD i []) ((rspZ o us ms w ch).getD i 0) (lR o c sl (us.getD i []))) hpos (Bool.eq_false_iff.2 h)
 rw[←inRG,hgr]at hbad;have r1:=rS hpos;rw[hgr]at r1;have hcs:(us.getD 0 []≠[]∧inM (us.getD 0 []) (rspA o (us.getD 0 []) (ms.getD 0 0) (w.getD 0 0) ch) (lR o c sl (us.getD 0 []))=false∧EvP Tryz.prog 282 [Z (ms.getD 0 0),Z ((ch:Int)*w.getD 0 0)] (.tup [Z (rspA o (us.getD 0 []) (ms.getD 0 0) (w.getD 0 0) ch),E 0])∧EvP Tryz.prog 196 [vpv (us.getD 0 []),Zp (rspA o (us.getD 0 []) (ms.getD 0 0) (w.getD 0 0) ch),N (lR o c sl (us.getD 0 []))] (.b false))∨
   (us.getD 0 []=[]∧inM (us.getD 0 []) (rspA o (us.getD 0 []) (ms.getD 0 0) (w.getD 0 0) ch) (lR o c sl (us.getD 0 []))=true∧ ∃k:Nat,EvP Tryz.prog 281 [Z ((ch:Int)*w.getD 0 0),N (lM o c sl (us.getD 0 []))] (.tup [N k,E 0])∧EvP Tryz.prog 47 [N k] (Z k)∧EvP Tryz.prog 282 [Z (ms.getD 0 0),Z k] (.tup [Z (ms.getD 0 0+k),E 0])∧ ∃k2:Nat,EvP Tryz.prog 281 [Z (ms.getD 0 0+k),N (lM o c sl (us.getD 0 []))] (.tup [N k2,E 0])∧EvP Tryz.prog 47 [N k2] (Z (rspA o (us.getD 0 []) (ms.getD 0 0) (w.getD 0 0) ch)))∨
   (us.getD 0 []≠[]∧inM (us.getD 0 []) (rspA o (us.getD 0 []) (ms.getD 0 0) (w.getD 0 0) ch) (lR o c sl (us.getD 0 []))=true∧EvP Tryz.prog 282 [Z (ms.getD 0 0),Z ((ch:Int)*w.getD 0 0)] (.tup [Z (rspA o (us.getD 0 []) (ms.getD 0 0) (w.getD 0 0) ch),E 0])∧EvP Tryz.prog 196 [vpv (us.getD 0 []),Zp (rspA o (us.getD 0 []) (ms.getD 0 0) (w.getD 0 0) ch),N (lR o c sl (us.getD 0 []))] (.b true)):=by
  by_cases h:us.getD 0 []=[]
  ·exact .inr (.inl ⟨h,rsp_mod hol h64 (ho (by rw[←h];exact mem_getD [] hpos)) h hx.2⟩)
  ·have h1:EvP Tryz.prog 282 [Z (ms.getD 0 0),Z ((ch:Int)*w.getD 0 0)] (.tup [Z (rspA o (us.getD 0 []) (ms.getD 0 0) (w.getD 0 0) ch),E 0]):=by
    rw[rspA,if_neg h];exact iAddL (by omega)
   have h2:=sbelowG (us.getD 0 []) (x:=rspA o (us.getD 0 []) (ms.getD 0 0) (w.getD 0 0) ch) (L:=lR o c sl (us.getD 0 [])) (by rw[rspA,if_neg h];have:=Int.natAbs_add_le (ms.getD 0 0) (ch*w.getD 0 0);omega) (lR_lt hr lo kb.2)
   cases hin:inM (us.getD 0 []) (rspA o (us.getD 0 []) (ms.getD 0 0) (w.getD 0 0) ch) (lR o c sl (us.getD 0 []))
   ·rw[hin]at h2;exact .inl ⟨h,rfl,h1,h2⟩
   ·rw[hin]at h2;exact .inr (.inr ⟨h,rfl,h1,h2⟩)
 clear hx kb;generalize rspA o (us.getD 0 []) (ms.getD 0 0) (w.getD 0 0) ch=z at*;generalize hu0:us.getD 0 []=u at*;simp only[vpv]at e1 hk hcs;simp only[lP]at e2;generalize lM o c sl u=M at*;generalize lR o c sl u=Rr at*;simp only[Zp,ipv,ipz]at e3 e4 hcs;rcases hcs with⟨hu,hgd,m1,m2⟩|⟨hu,hgd,k,m1,m2,m3,k2,m4,m5⟩|⟨hu,hgd,m1,m2⟩
 ·rw[if_neg hu]at hk;rw[rspP,hbad (by simp[hgd])]
  repeat' first|simp only[go_sem,seval,l2,l3,l4,l5,e1,e2,e3,e4]|refine cP hk ?_|refine cP hF ?_|refine cP hp ?_|refine cP m1 ?_|refine cP m2 ?_|refine sB ?_|(first|apply pX|apply bX)<;>intro hc|refine⟨oD,?_⟩|exact oD|fail
  all_goals rfl
 all_goals
  first|rw[if_pos hu]at hk|rw[if_neg hu]at hk
  repeat' first|simp only[go_sem,seval,l2,l3,l4,l5,e1,e2,e3,e4]|refine cP hk ?_|refine cP hF ?_|refine cP hp ?_|refine cP m1 ?_|refine cP m2 ?_|refine cP m3 ?_|refine cP m4 ?_|refine cP m5 ?_|refine sB ?_|(first|apply pX|apply bX)<;>intro hc|refine⟨oD,?_⟩|exact oD|fail
  obtain⟨nm,hnm⟩: ∃nm,nm=(if u=[]then 1074 else 1059):=⟨_,rfl⟩
  first|rw[if_pos hu]at hnm|rw[if_neg hu]at hnm
  refine loop_run (α:=Nat) (fun j=>us.length-(j+1)) (fun j=>⟨[(1, .v (.sl (us.map (lP o c sl)))),(2, .v (.sl (w.map Zp))),(3, .v (.sl (ms.map Zp))),(4, .v (N ch)),(5, .p 1000 0 0),(12, .rs nm j 0 (j+1) 2),(28, .v (.sl (us.map vpv))),(29,E' us.length),(30,E' (j+1))],[(1000,⟨0,[.v (.sl (gs.map gpv)), .v (.sl (us.map vpv)), .v (.sl (es.map Eqn.pv))],false,none⟩),(nm,⟨j,rowF Zp ((rspZ o us ms w ch).take (j+1)),true,some 49⟩)],nm+4⟩) (fun j=>j+1≤us.length∧ ∀k,k<j+1→inM (us.getD k []) ((rspZ o us ms w ch).getD k 0) (lR o c sl (us.getD k []))=true) 0 (fun _=>by show _≤nm+4;rw[hnm];exact Nat.le_of_ble_eq_true rfl) ⟨hpos,fun k hk=>hgk k hk (fun j hj=>by omega) hgd⟩ ?_ ?_<;>subst hnm
  ·rw[r1,List.take_zero,show rowF Zp ([]:List Int)=[]from rfl,List.nil_append]
   exact lE
  ·clear e1 e2 e3 e4 hk hgr hbad r1 hgk hgd m1 m2 hu0 hp
   first|clear m3 m4 m5|skip
   rintro j ⟨hj,hall⟩ R hR;have hlm:((rspZ o us ms w ch).take (j+1)).length=j+1:=by rw[List.length_take];omega
   have q1:=rowF_len zRow ((rspZ o us ms w ch).take (j+1));have q2:=rowF_take zRow ((rspZ o us ms w ch).take (j+1));rw[hlm]at q1 q2
   by_cases hlt:j+1<us.length
   ·have e1:=getD_map vpv us [] hlt;have e2:=getD_map (lP o c sl) us [] hlt;have e3:=getD_map Zp w 0 (i:=(j+1)) (by omega)
    have e4:=getD_map Zp ms 0 (i:=(j+1)) (by omega)
    have kb:=hb _ (mem_getD [] hlt);have hk:=skindG (us.getD (j+1) []);have hx:=hI (j+1) hlt;have hp:=iMulZ (x:=(ch:Int)) (y:=w.getD (j+1) 0) (by simpa using hch) hx.1
    have hgr:=rspZ_get (o:=o) (ms:=ms) (w:=w) (c:=ch) hlt;have hgk: ∀k,k<(j+1)+1→(∀q,q<(j+1)→inM (us.getD q []) ((rspZ o us ms w ch).getD q 0) (lR o c sl (us.getD q []))=true)→inM (us.getD (j+1) []) ((rspZ o us ms w ch).getD (j+1) 0) (lR o c sl (us.getD (j+1) []))=true→inM (us.getD k []) ((rspZ o us ms w ch).getD k 0) (lR o c sl (us.getD k []))=true:=fun k hk h1 h2=>by
     by_cases hkj:k<(j+1)
     ·exact h1 k hkj
     ·obtain rfl:k=(j+1):=by omega
      exact h2
    rw[hgr]at hgk;have hbad:=fun h: ¬inM (us.getD (j+1) []) ((rspZ o us ms w ch).getD (j+1) 0) (lR o c sl (us.getD (j+1) []))=true=>all_bad (p:=fun i=>inM (us.getD i []) ((rspZ o us ms w ch).getD i 0) (lR o c sl (us.getD i []))) hlt (Bool.eq_false_iff.2 h)
    rw[←inRG,hgr]at hbad;have r1:=rS hlt;rw[hgr]at r1;have hcs:(us.getD (j+1) []≠[]∧inM (us.getD (j+1) []) (rspA o (us.getD (j+1) []) (ms.getD (j+1) 0) (w.getD (j+1) 0) ch) (lR o c sl (us.getD (j+1) []))=false∧EvP Tryz.prog 282 [Z (ms.getD (j+1) 0),Z ((ch:Int)*w.getD (j+1) 0)] (.tup [Z (rspA o (us.getD (j+1) []) (ms.getD (j+1) 0) (w.getD (j+1) 0) ch),E 0])∧EvP Tryz.prog 196 [vpv (us.getD (j+1) []),Zp (rspA o (us.getD (j+1) []) (ms.getD (j+1) 0) (w.getD (j+1) 0) ch),N (lR o c sl (us.getD (j+1) []))] (.b false))∨
      (us.getD (j+1) []=[]∧inM (us.getD (j+1) []) (rspA o (us.getD (j+1) []) (ms.getD (j+1) 0) (w.getD (j+1) 0) ch) (lR o c sl (us.getD (j+1) []))=true∧ ∃k:Nat,EvP Tryz.prog 281 [Z ((ch:Int)*w.getD (j+1) 0),N (lM o c sl (us.getD (j+1) []))] (.tup [N k,E 0])∧EvP Tryz.prog 47 [N k] (Z k)∧EvP Tryz.prog 282 [Z (ms.getD (j+1) 0),Z k] (.tup [Z (ms.getD (j+1) 0+k),E 0])∧ ∃k2:Nat,EvP Tryz.prog 281 [Z (ms.getD (j+1) 0+k),N (lM o c sl (us.getD (j+1) []))] (.tup [N k2,E 0])∧EvP Tryz.prog 47 [N k2] (Z (rspA o (us.getD (j+1) []) (ms.getD (j+1) 0) (w.getD (j+1) 0) ch)))∨
      (us.getD (j+1) []≠[]∧inM (us.getD (j+1) []) (rspA o (us.getD (j+1) []) (ms.getD (j+1) 0) (w.getD (j+1) 0) ch) (lR o c sl (us.getD (j+1) []))=true∧EvP Tryz.prog 282 [Z (ms.getD (j+1) 0),Z ((ch:Int)*w.getD (j+1) 0)] (.tup [Z (rspA o (us.getD (j+1) []) (ms.getD (j+1) 0) (w.getD (j+1) 0) ch),E 0])∧EvP Tryz.prog 196 [vpv (us.getD (j+1) []),Zp (rspA o (us.getD (j+1) []) (ms.getD (j+1) 0) (w.getD (j+1) 0) ch),N (lR o c sl (us.getD (j+1) []))] (.b true)):=by
     by_cases h:us.getD (j+1) []=[]
     ·exact .inr (.inl ⟨h,rsp_mod hol h64 (ho (by rw[←h];exact mem_getD [] hlt)) h hx.2⟩)
     ·have h1:EvP Tryz.prog 282 [Z (ms.getD (j+1) 0),Z ((ch:Int)*w.getD (j+1) 0)] (.tup [Z (rspA o (us.getD (j+1) []) (ms.getD (j+1) 0) (w.getD (j+1) 0) ch),E 0]):=by
       rw[rspA,if_neg h];exact iAddL (by omega)
      have h2:=sbelowG (us.getD (j+1) []) (x:=rspA o (us.getD (j+1) []) (ms.getD (j+1) 0) (w.getD (j+1) 0) ch) (L:=lR o c sl (us.getD (j+1) [])) (by rw[rspA,if_neg h];have:=Int.natAbs_add_le (ms.getD (j+1) 0) (ch*w.getD (j+1) 0);omega) (lR_lt hr lo kb.2)
      cases hin:inM (us.getD (j+1) []) (rspA o (us.getD (j+1) []) (ms.getD (j+1) 0) (w.getD (j+1) 0) ch) (lR o c sl (us.getD (j+1) []))
      ·rw[hin]at h2;exact .inl ⟨h,rfl,h1,h2⟩
      ·rw[hin]at h2;exact .inr (.inr ⟨h,rfl,h1,h2⟩)
    clear hx kb;generalize rspA o (us.getD (j+1) []) (ms.getD (j+1) 0) (w.getD (j+1) 0) ch=z at*;generalize hu0:us.getD (j+1) []=u at*;simp only[vpv]at e1 hk hcs;simp only[lP]at e2;generalize lM o c sl u=M at*;generalize lR o c sl u=Rr at*;simp only[Zp,ipv,ipz]at e3 e4 hcs;rcases hcs with⟨hu,hgd,m1,m2⟩|⟨hu,hgd,k,m1,m2,m3,k2,m4,m5⟩|⟨hu,hgd,m1,m2⟩
    ·rw[if_neg hu]at hk;rw[rspP,hbad (by simp[hgd])]
     clear hR hall hgk;repeat' first|simp only[go_sem,seval,l2,l3,l4,l5,e1,e2,e3,e4,q1,q2]|refine cP hk ?_|refine cP hF ?_|refine cP hp ?_|refine cP m1 ?_|refine cP m2 ?_|refine sB ?_|(first|apply pX|apply bX)<;>intro hc|refine⟨oD,?_⟩|exact oD|fail
     all_goals rfl
    all_goals
     have hgo:=hR (j+1) ⟨by omega,fun k hk=>hgk k hk hall hgd⟩ (by omega)
     rw[r1]at hgo;clear hR hall hgk
     first|rw[if_pos hu]at hk|rw[if_neg hu]at hk
     repeat' first|simp only[go_sem,seval,l2,l3,l4,l5,e1,e2,e3,e4,q1,q2]|refine cP hk ?_|refine cP hF ?_|refine cP hp ?_|refine cP m1 ?_|refine cP m2 ?_|refine cP m3 ?_|refine cP m4 ?_|refine cP m5 ?_|refine sB ?_|(first|apply pX|apply bX)<;>intro hc|refine⟨oD,?_⟩|exact oD|fail
     refine hgo _ ?_
     (refine AS.Le.of (by first|decide|omega) ?_ ?_<;>simp[LeT,LeH,tget,hget,AV.bd,AV.bd.bdL,u8,bd_cellsOf,bcells_bd,icells_bd])
     all_goals exact fun c hc=>by rcases hc with hc|rfl|rfl<;>first|exact bd_row hc|rfl
   ·have hjl:us.length=j+1:=by omega
    have hgood2:inRG o c sl us (rspZ o us ms w ch)=true:=all_good fun k hk=>hall k (by omega)
    rw[rspP,hgood2];have hT:(rspZ o us ms w ch).take (j+1)=rspZ o us ms w ch:=List.take_of_length_le (by omega)
    rw[hT]at q1 q2⊢;have q3:=rowF_all zRow (rspZ o us ms w ch);have q4:=rowF_chunk zRow (rspZ o us ms w ch);rw[hrl,hjl]at q4;rw[hjl];clear hR;repeat' first|simp only[go_sem,seval,l2,hjl,q1,q2,q3,q4,rowF_mapO]|refine sB ?_|(first|apply pX|apply bX)<;>intro hc|refine⟨oD,?_⟩|exact oD|fail
    all_goals rfl
theorem mem_at {w:List Int} {n:Nat} {P:Int→Prop} (hwl:w.length=n) (h: ∀i,i<n→P (w.getD i 0)): ∀x∈w,P x:=fun x hx=>by
 obtain⟨j,hj,rfl⟩:=List.getElem_of_mem hx;have:=h j (by omega)
 rwa[List.getD_eq_getElem?_getD,List.getElem?_eq_getElem hj]at this
theorem inZ_at {o:Bytes} {us:List Bytes} {w:List Int} (h:inZ o us w=true) {i:Nat} (hi:i<us.length):inM (us.getD i []) (w.getD i 0) (blim o (us.getD i []))=true:=List.all_eq_true.1 h i (List.mem_range.2 hi)
theorem blim_128 {o b:Bytes} (lo:o.length≤8) (lb:b.length≤16):blim o b≤W128:=by
 unfold blim;split
 ·exact Nat.le_of_lt (Nat.lt_of_lt_of_le (num8 lo) w64_128)
 ·exact Nat.le_of_lt (num16 lb)
theorem Respond16G {c sl:Bytes} {s:Stm} (hp:StP c sl s) {w ms:List Int} {ch:Nat} (hwl:w.length=s.vars.length) (hml:ms.length=s.vars.length) (hch:ch<num c) (hW:inZ (ordL s.groups) s.vars w=true) (hM: ∀i,i<s.vars.length→inM (s.vars.getD i []) (ms.getD i 0) (lM (ordL s.groups) c sl (s.vars.getD i []))=true):
  EvP Tryz.prog 119 [.agg [.s c, .s sl],s.pv, .sl (w.map Zp), .sl (ms.map Zp),N ch] (rspP (ordL s.groups) c sl s.vars (rspZ (ordL s.groups) s.vars ms w ch)):=by
 have hr:=hp.r;have hb:=hp.g.v;have nv:=hp.g.nv;have lo:=(ordL_valid hp.g.g).2;have hbo:=sboundsG hp;have c8:=num8 hr.lc;have h64:=w64_lim;have h128:=w64_128;have hwb: ∀i,i<s.vars.length→(w.getD i 0).natAbs<W128:=fun i hi=>Nat.lt_of_lt_of_le (inM_lt (inZ_at hW hi)).1 (blim_128 lo (hb _ (mem_getD [] hi)).2)
 have hmb: ∀i,i<s.vars.length→(ms.getD i 0).natAbs<256^33:=fun i hi=>Nat.lt_trans (inM_lt (hM i hi)).1 (lM_100 hr lo (hb _ (mem_getD [] hi)).2)
 have h33:256^33+18446744073709551616*W128+18446744073709551616<LIM:=by unfold LIM W128;decide+kernel
 have hwA: ∀x∈w,x.natAbs<LIM:=mem_at hwl fun i hi=>Nat.lt_of_lt_of_le (hwb i hi) w128
 have hmA: ∀x∈ms,x.natAbs<LIM:=mem_at hml fun i hi=>by have:=hmb i hi;omega
 have hv1:=svalid_ok (w.map ipz) (by rw[List.length_map];omega)
 have hv2:=svalid_ok (ms.map ipz) (by rw[List.length_map];omega)
 have hrg:=sRangeG hp.g hwl hwA;rw[ZpI,okI_all hwA]at hv1;rw[ZpI,okI_all hmA]at hv2;rw[hW]at hrg;have hn:=natValid (bts ch);rw[vB (by omega)]at hn
 have hcm:=cmpNN (a:=ch) (b:=num c) (by omega) (by omega)
 rw[N_of hr.vc]at hcm;have hd: ∀ _:True,decide (cmpN ch (num c)≥0)=false:=fun _=>by rw[geD,decide_eq_true hch];rfl
 have hre:=respondG hp hwl hml (ch:=ch) (by omega) (fun i hi=>by
  refine⟨hwb i hi,?_⟩;have h1:=hmb i hi;have h2:((ch:Int)*w.getD i 0).natAbs≤18446744073709551616*W128:=by
   rw[Int.natAbs_mul,Int.natAbs_natCast];exact Nat.mul_le_mul (by omega) (Nat.le_of_lt (hwb i hi))
  omega)
 have hmL: ∀i,i<s.vars.length→EvP Tryz.prog 196 [vpv (s.vars.getD i []),Zp (ms.getD i 0),N (lM (ordL s.groups) c sl (s.vars.getD i []))] (.b true):=fun i hi=>by
  have:=sbelowG (s.vars.getD i []) (x:=ms.getD i 0) (L:=lM (ordL s.groups) c sl (s.vars.getD i [])) (by have:=hmb i hi;omega) (lM_lt hr lo (hb _ (mem_getD [] hi)).2)
  rwa[hM i hi]at this
 generalize cmpN ch (num c)=cm at*;generalize rspZ (ordL s.groups) s.vars ms w ch=rs at*;unfold rspP at*;obtain⟨gs,us,es⟩:=s;simp only at nv hwl hml hmL hre hbo⊢;generalize ordL gs=o at*;have l2:(us.map vpv).length=us.length:=List.length_map ..;have l3:(us.map (lP o c sl)).length=us.length:=List.length_map ..;have l4:(w.map Zp).length=us.length:=by rw[List.length_map];exact hwl
 have l5:(ms.map Zp).length=us.length:=by rw[List.length_map];exact hml
 clear hW hwb hmb hM hwA hmA h33 h64 hb hp hr;unfold Stm.pv at*;simp only at*;refine eW Tryz.call119 Tryz.func119 ?_;repeat' first|simp only[go_sem,seval,l2,l4,l5,hd trivial]|refine cP hbo ?_|refine cP hv1 ?_|refine cP hv2 ?_|refine cP hn ?_|refine cP hcm ?_|refine cP hrg ?_|refine sB ?_|(first|apply pX|apply bX)<;>intro hc|refine⟨oD,?_⟩|exact oD|fail
 refine loop_run (α:=Nat) (fun i=>us.length-i) (fun i=>⟨[(2, .v (.sl (w.map Zp))),(3, .v (.sl (ms.map Zp))),(4, .v (N ch)),(6, .p 1001 0 0),(12, .v (.sl (us.map (lP o c sl)))),(68, .v (.sl (us.map vpv))),(69,E' us.length),(70,E' i)],[(1001,⟨0,[.v (.sl (gs.map gpv)), .v (.sl (us.map vpv)), .v (.sl (es.map Eqn.pv))],false,none⟩)],_⟩) (fun i=>i≤us.length) 0 (fun _=>Nat.le_refl _) (Nat.zero_le _) ?_ ?_
 ·exact lE
 ·intro i hi R hR
  by_cases hlt:i<us.length
  ·have hgo:=hR (i+1) (by omega) (by omega)
   have e1:=getD_map vpv us [] hlt;have e2:=getD_map (lP o c sl) us [] hlt;have e4:=getD_map Zp ms 0 (i:=i) (by omega)
   have hc:=hmL i hlt;clear hR hmL hre hv1 hv2;simp only[lP]at e2;generalize lM o c sl (us.getD i [])=M at*;generalize us.getD i []=u at*;generalize ms.getD i 0=x at*;simp only[vpv]at e1 hc;simp only[Zp,ipv,ipz]at e4 hc;repeat' first|simp only[go_sem,seval,l2,l3,l5,e1,e2,e4]|refine cP hc ?_|refine sB ?_|(first|apply pX|apply bX)<;>intro hc|refine⟨oD,?_⟩|exact oD|fail
   refine hgo _ ?_;exact lE
  ·obtain rfl:i=us.length:=by omega
   clear hR hmL;generalize inRG o c sl us rs=b at*;cases b
   ·repeat' first|simp only[go_sem,seval]|refine cP hre ?_|refine sB ?_|(first|apply pX|apply bX)<;>intro hc|refine⟨oD,?_⟩|exact oD|fail
    all_goals rfl
   ·repeat' first|simp only[go_sem,seval]|refine cP hre ?_|refine sB ?_|(first|apply pX|apply bX)<;>intro hc|refine⟨oD,?_⟩|exact oD|fail
    all_goals rfl
theorem wit3G (b:Bytes):EvP Tryz.prog 175 [vpv b] (.s (if b=[]then([]:Bytes)else b)):=by
 have h:=wit3_ok b;split
 ·rename_i g;subst g;exact h
 ·exact h
theorem wit4G (m:Bytes) {o:Bytes} (h:o≠[]):EvP Tryz.prog 176 [.sl [G m o], .fn (.func 177)] (E 0):=by
 have hb:(o !=([]:Bytes))=true:=by simpa using h
 have hb2:(o==([]:Bytes))=false:=by simpa using h
 have h:EvP Tryz.prog 177 [G m o] (.b true):=by
  refine eW Tryz.call177 Tryz.func177 ?_;repeat' first|simp only[go_sem,seval,hb,hb2]|refine sB ?_|(first|apply pX|apply bX)<;>intro hc|refine⟨oD,?_⟩|exact oD|fail
  all_goals rfl
 refine eW Tryz.call176 Tryz.func176 ?_;repeat' first|simp only[go_sem,seval]|refine sB ?_|(first|apply pX|apply bX)<;>intro hc|refine⟨oD,?_⟩|exact oD|fail
 refine loop_unroll' ?_;repeat' first|simp only[go_sem,seval]|refine cP h ?_|refine sB ?_|(first|apply pX|apply bX)<;>intro hc|refine⟨oD,?_⟩|exact oD|fail
theorem wit5G (b o:Bytes):EvP Tryz.prog 178 [vpv b, .pt (.agg [.s o]) 0] (.s (if b=[]then o else b)):=by
 unfold vpv
 by_cases h:b=[]
 ·subst h;refine eW Tryz.call178 Tryz.func178 ?_;repeat' first|simp only[go_sem,seval,nn]|refine sB ?_|(first|apply pX|apply bX)<;>intro hc|refine⟨oD,?_⟩|exact oD|fail
  all_goals rfl
 ·have hb:(b==([]:Bytes))=false:=by simpa using h
  rw[if_neg h];refine eW Tryz.call178 Tryz.func178 ?_;repeat' first|simp only[go_sem,seval,hb]|refine sB ?_|(first|apply pX|apply bX)<;>intro hc|refine⟨oD,?_⟩|exact oD|fail
noncomputable def witZ (s:Stm) (w:List Int) (vs:List Bytes) (a:Int):Int:=if !goodT vs a then 3 else if w.length≠s.vars.length then 6 else if !inZ (ordL s.groups) s.vars w then 2 else if !hldZ s w then 18 else 0
theorem witnessG {c sl:Bytes} {s:Stm} (hs:StG s) {m o:Bytes} (hg1:s.groups=[(m,o)]) {w:List Int} (hw6:w.length<1000000) (hw: ∀x∈w,x.natAbs<LIM) (hW:inZ (ordL s.groups) s.vars w=true→WS s w) {vs:List Bytes} (sd:Bytes) {a:Int} (hl:vs.length<1000000):EvP Tryz.prog 115 [X0 c sl s, .sl (w.map Zp), .sl [],T vs sd a] (E (witZ s w vs a)):=by
 have v1:=ContainsFuncI_ok (w.map ipz) _ _ (by rw[List.length_map];omega) wit1_ok
 rw[any_not,okI_all hw,ZpI]at v1;have v2:=ContainsFuncL_ok [] 174 [.pt (.agg [.fn (.func 170)]) 0] (fun _=>true) (by decide) (fun x hx=>by cases hx)
 rw[show(([]:List (List (Bool×Bytes))).any fun _=>true)=false from rfl]at v2
 have v3:=ManyG sd (a:=a) hl;have nv:=hs.nv;have hb:=hs.v;have hh:=fun h=>linHoldsG hs (w:=w) h hw hW
 have hoV:=ordL_valid hs.g;have hnb: ∀b∈s.vars,ordL s.groups=[]→b≠[]:=fun b h1 h2 h3=>knd_ord hs (h3▸h1) h2
 obtain⟨gs,us,es⟩:=s;simp only at hg1 nv hb hh hoV hnb;subst hg1;have l2:(us.map vpv).length=us.length:=List.length_map ..;have l5:(w.map Zp).length=w.length:=List.length_map ..;have ho:ordL [(m,o)]=o:=by
  by_cases h:o=[]
  ·subst h;rfl
  ·simp[ordL,h]
 rw[ho]at hh hoV hnb;unfold witZ;simp only[ho,X0,Stm.pv,List.map_cons,List.map_nil,gpv]at hh v2⊢;clear hs hW
 cases hg:goodT vs a with
 |false=>
  rw[hg]at v3;simp only[Bool.not_false,Bool.not_true,if_true];refine eW Tryz.call115 Tryz.func115 ?_;repeat' first|simp only[go_sem,seval,viewN]|refine cP v1 ?_|refine cV v2 ?_|refine cP v3 ?_|refine cP Of1 ?_|refine sB ?_|(first|apply pX|apply bX)<;>intro hc|refine⟨oD,?_⟩|exact oD|fail
  all_goals rfl
 |true=>
  rw[hg]at v3;simp only[Bool.not_true,Bool.false_eq_true,if_false]
  by_cases hwl:w.length=us.length
  ·rw[if_neg (by simpa using hwl)]
   have hh:=hh hwl;have hI: ∀ _:True,((w.length:Int) !=us.length)=false:=fun _=>by rw[hwl];simp
   by_cases ho0:o=[]
   ·have v4:=wit4_ok m;subst ho0;refine eW Tryz.call115 Tryz.func115 ?_;repeat' first|simp only[go_sem,seval,viewN,l2,l5,hI trivial]|refine cP v1 ?_|refine cV v2 ?_|refine cP v3 ?_|refine cP Of1 ?_|refine cP v4 ?_|refine sB ?_|(first|apply pX|apply bX)<;>intro hc|refine⟨oD,?_⟩|exact oD|fail
    refine loop_run (α:=Nat) (fun i=>us.length-i) (fun i=>⟨[(1, .v (.sl (w.map Zp))),(2, .v (.sl [])),(4, .p 1000 0 0),(13, .v (.fn (.func 175))),(76, .v (.sl (us.map vpv))),(77,E' us.length),(78,E' i)],[(1000,⟨0,[.v (.s c), .v (.s sl), .v (.sl [G m []]), .v (.sl (us.map vpv)), .v (.sl (es.map Eqn.pv)), .v (.sl []), .v (.sl []), .v (.s [])],false,none⟩)],_⟩) (fun i=>i≤us.length∧ ∀j,j<i→inM (us.getD j []) (w.getD j 0) (blim [] (us.getD j []))=true) 0 (fun _=>Nat.le_refl _) ⟨Nat.zero_le _,fun j hj=>by omega⟩ ?_ ?_
    ·exact lE
    ·rintro i ⟨hi,hlts⟩ R hR;clear v1 v2 v3
     by_cases hlt:i<us.length
     ·have e1:=getD_map vpv us [] hlt;have e2:=getD_map Zp w 0 (i:=i) (by omega)
      have kb:=hb _ (mem_getD [] hlt);have kw:=hw _ (mem_getD 0 (show i<w.length by omega))
      have hv0:=hnb _ (mem_getD [] hlt);have hgo:=fun h=>hR (i+1) ⟨by omega,h⟩ (by omega)
      have hbad:=fun h: ¬inM (us.getD i []) (w.getD i 0) (blim [] (us.getD i []))=true=>all_bad (p:=fun i=>inM (us.getD i []) (w.getD i 0) (blim [] (us.getD i []))) hlt (Bool.eq_false_iff.2 h)
      have hnx:inM (us.getD i []) (w.getD i 0) (blim [] (us.getD i []))=true→ ∀j,j<i+1→inM (us.getD j []) (w.getD j 0) (blim [] (us.getD j []))=true:=fun h j hj=>by
       by_cases hji:j<i
       ·exact hlts j hji
       ·obtain rfl:j=i:=by omega
        exact h
      rw[←inZ]at hbad;clear hR hlts hh;generalize us.getD i []=b at*;generalize w.getD i 0=x at*;have hz:=izok_z kw;simp only[ipz,izok,Bool.and_eq_true]at hz;have hc:=cmpVV hz.1 (show validN (if b=[]then[]else b)=true by split;exact hoV.1;exact kb.1)
      have hbl:num (if b=[]then[]else b)=blim [] b:=by unfold blim;split<;>rfl
      rw[num_zb,hbl]at hc;have h3:=wit3G b;have hd:decide (cmpN x.natAbs (blim [] b)≥0)= !decide (x.natAbs<blim [] b):=geD _ _;have hzs:zs x=decide (x<0):=rfl;simp only[vpv]at e1 h3;simp only[Zp,ipv,ipz]at e2;unfold inM at hbad hnx;clear hbl kb kw hz;generalize cmpN x.natAbs (blim [] b)=cm at*;generalize decide (x.natAbs<blim [] b)=p at*;generalize decide (x<0)=q at*;generalize (if b=[]then[]else b)=y at*
      have hbb:(b==[])=decide (b=[]):=by rw[Bool.eq_iff_iff,beq_iff_eq,decide_eq_true_eq]
      generalize decide (b=[])=b0 at*;cases p
      ·rw[hbad (by simp)]
       simp only[Bool.not_false,if_true];repeat' first|simp only[go_sem,seval,viewN,l2,l5,e1,e2,hbb,hd,hzs]|refine cP h3 ?_|refine cV h3 ?_|refine cP hc ?_|refine sB ?_|(first|apply pX|apply bX)<;>intro hc|refine⟨oD,?_⟩|exact oD|fail
       all_goals rfl
      ·cases b0
       ·have hgo:=hgo (hnx (by simp))
        repeat' first|simp only[go_sem,seval,viewN,l2,l5,e1,e2,hbb,hd,hzs]|refine cP h3 ?_|refine cV h3 ?_|refine cP hc ?_|refine sB ?_|(first|apply pX|apply bX)<;>intro hc|refine⟨oD,?_⟩|exact oD|fail
        refine hgo _ ?_;exact lE
       ·cases q
        ·have hgo:=hgo (hnx (by simp))
         repeat' first|simp only[go_sem,seval,viewN,l2,l5,e1,e2,hbb,hd,hzs]|refine cP h3 ?_|refine cV h3 ?_|refine cP hc ?_|refine sB ?_|(first|apply pX|apply bX)<;>intro hc|refine⟨oD,?_⟩|exact oD|fail
         refine hgo _ ?_;exact lE
        ·rw[hbad (by simp)]
         simp only[Bool.not_false,if_true];repeat' first|simp only[go_sem,seval,viewN,l2,l5,e1,e2,hbb,hd,hzs]|refine cP h3 ?_|refine cV h3 ?_|refine cP hc ?_|refine sB ?_|(first|apply pX|apply bX)<;>intro hc|refine⟨oD,?_⟩|exact oD|fail
         all_goals rfl
     ·obtain rfl:i=us.length:=by omega
      have hg:inZ [] us w=true:=all_good fun j hj=>hlts j hj
      rw[hg,Bool.true_and]at hh;rw[hg];simp only[Bool.not_true,Bool.false_eq_true,if_false];clear hR hlts hb;generalize hldZ ⟨[(m,[])],us,es⟩ w=b at*;cases b
      ·repeat' first|simp only[go_sem,seval]|refine cP hh ?_|refine cP Truth0 ?_|(refine loop_unroll' ?_)|refine sB ?_|(first|apply pX|apply bX)<;>intro hc|refine⟨oD,?_⟩|exact oD|fail
       all_goals rfl
      ·repeat' first|simp only[go_sem,seval]|refine cP hh ?_|refine cP Truth0 ?_|(refine loop_unroll' ?_)|refine sB ?_|(first|apply pX|apply bX)<;>intro hc|refine⟨oD,?_⟩|exact oD|fail
       all_goals rfl
   ·have v4:=wit4G m ho0;refine eW Tryz.call115 Tryz.func115 ?_;repeat' first|simp only[go_sem,seval,viewN,l2,l5,hI trivial]|refine cP v1 ?_|refine cV v2 ?_|refine cP v3 ?_|refine cP Of1 ?_|refine cP v4 ?_|refine sB ?_|(first|apply pX|apply bX)<;>intro hc|refine⟨oD,?_⟩|exact oD|fail
    refine loop_run (α:=Nat) (fun i=>us.length-i) (fun i=>⟨[(1, .v (.sl (w.map Zp))),(2, .v (.sl [])),(4, .p 1000 0 0),(13, .fn (.func 178) [] [.p 1057 0 0]),(76, .v (.sl (us.map vpv))),(77,E' us.length),(78,E' i)],[(1000,⟨0,[.v (.s c), .v (.s sl), .v (.sl [G m o]), .v (.sl (us.map vpv)), .v (.sl (es.map Eqn.pv)), .v (.sl []), .v (.sl []), .v (.s [])],false,none⟩),(1057,⟨0,[.v (.s o)],false,some 22⟩)],_⟩) (fun i=>i≤us.length∧ ∀j,j<i→inM (us.getD j []) (w.getD j 0) (blim o (us.getD j []))=true) 0 (fun _=>Nat.le_refl _) ⟨Nat.zero_le _,fun j hj=>by omega⟩ ?_ ?_
    ·exact lE
    ·rintro i ⟨hi,hlts⟩ R hR;clear v1 v2 v3
     by_cases hlt:i<us.length
     ·have e1:=getD_map vpv us [] hlt;have e2:=getD_map Zp w 0 (i:=i) (by omega)
      have kb:=hb _ (mem_getD [] hlt);have kw:=hw _ (mem_getD 0 (show i<w.length by omega))
      have hv0:=hnb _ (mem_getD [] hlt);have hgo:=fun h=>hR (i+1) ⟨by omega,h⟩ (by omega)
      have hbad:=fun h: ¬inM (us.getD i []) (w.getD i 0) (blim o (us.getD i []))=true=>all_bad (p:=fun i=>inM (us.getD i []) (w.getD i 0) (blim o (us.getD i []))) hlt (Bool.eq_false_iff.2 h)
      have hnx:inM (us.getD i []) (w.getD i 0) (blim o (us.getD i []))=true→ ∀j,j<i+1→inM (us.getD j []) (w.getD j 0) (blim o (us.getD j []))=true:=fun h j hj=>by
       by_cases hji:j<i
       ·exact hlts j hji
       ·obtain rfl:j=i:=by omega
        exact h
      rw[←inZ]at hbad;clear hR hlts hh;generalize us.getD i []=b at*;generalize w.getD i 0=x at*;have hz:=izok_z kw;simp only[ipz,izok,Bool.and_eq_true]at hz;have hc:=cmpVV hz.1 (show validN (if b=[]then o else b)=true by split;exact hoV.1;exact kb.1)
      have hbl:num (if b=[]then o else b)=blim o b:=by unfold blim;split<;>rfl
      rw[num_zb,hbl]at hc;have h3:=wit5G b o;have hd:decide (cmpN x.natAbs (blim o b)≥0)= !decide (x.natAbs<blim o b):=geD _ _;have hzs:zs x=decide (x<0):=rfl;simp only[vpv]at e1 h3;simp only[Zp,ipv,ipz]at e2;unfold inM at hbad hnx;clear hbl kb kw hz;generalize cmpN x.natAbs (blim o b)=cm at*;generalize decide (x.natAbs<blim o b)=p at*;generalize decide (x<0)=q at*;generalize (if b=[]then o else b)=y at*
      have hbb:(b==[])=decide (b=[]):=by rw[Bool.eq_iff_iff,beq_iff_eq,decide_eq_true_eq]
      generalize decide (b=[])=b0 at*;cases p
      ·rw[hbad (by simp)]
       simp only[Bool.not_false,if_true];repeat' first|simp only[go_sem,seval,viewN,l2,l5,e1,e2,hbb,hd,hzs]|refine cP h3 ?_|refine cV h3 ?_|refine cP hc ?_|refine sB ?_|(first|apply pX|apply bX)<;>intro hc|refine⟨oD,?_⟩|exact oD|fail
       all_goals rfl
      ·cases b0
       ·have hgo:=hgo (hnx (by simp))
        repeat' first|simp only[go_sem,seval,viewN,l2,l5,e1,e2,hbb,hd,hzs]|refine cP h3 ?_|refine cV h3 ?_|refine cP hc ?_|refine sB ?_|(first|apply pX|apply bX)<;>intro hc|refine⟨oD,?_⟩|exact oD|fail
        refine hgo _ ?_;exact lE
       ·cases q
        ·have hgo:=hgo (hnx (by simp))
         repeat' first|simp only[go_sem,seval,viewN,l2,l5,e1,e2,hbb,hd,hzs]|refine cP h3 ?_|refine cV h3 ?_|refine cP hc ?_|refine sB ?_|(first|apply pX|apply bX)<;>intro hc|refine⟨oD,?_⟩|exact oD|fail
         refine hgo _ ?_;exact lE
        ·rw[hbad (by simp)]
         simp only[Bool.not_false,if_true];repeat' first|simp only[go_sem,seval,viewN,l2,l5,e1,e2,hbb,hd,hzs]|refine cP h3 ?_|refine cV h3 ?_|refine cP hc ?_|refine sB ?_|(first|apply pX|apply bX)<;>intro hc|refine⟨oD,?_⟩|exact oD|fail
         all_goals rfl
     ·obtain rfl:i=us.length:=by omega
      have hg:inZ o us w=true:=all_good fun j hj=>hlts j hj
      rw[hg,Bool.true_and]at hh;rw[hg];simp only[Bool.not_true,Bool.false_eq_true,if_false];clear hR hlts hb;generalize hldZ ⟨[(m,o)],us,es⟩ w=b at*;cases b
      ·repeat' first|simp only[go_sem,seval]|refine cP hh ?_|refine cP Truth0 ?_|(refine loop_unroll' ?_)|refine sB ?_|(first|apply pX|apply bX)<;>intro hc|refine⟨oD,?_⟩|exact oD|fail
       all_goals rfl
      ·repeat' first|simp only[go_sem,seval]|refine cP hh ?_|refine cP Truth0 ?_|(refine loop_unroll' ?_)|refine sB ?_|(first|apply pX|apply bX)<;>intro hc|refine⟨oD,?_⟩|exact oD|fail
       all_goals rfl
  ·rw[if_pos hwl];have e6:((w.length:Int) !=us.length)=true:=by rw[bne_iff_ne];omega
   refine eW Tryz.call115 Tryz.func115 ?_;repeat' first|simp only[go_sem,seval,viewN,l2,l5,e6]|refine cP v1 ?_|refine cV v2 ?_|refine cP v3 ?_|refine cP Of1 ?_|refine sB ?_|(first|apply pX|apply bX)<;>intro hc|refine⟨oD,?_⟩|exact oD|fail
   all_goals rfl
noncomputable def tryZ (c sl ctx:Bytes) (s:Stm) (w:List Int) (vs:List Bytes) (sd:Bytes):Nat→Nat→Except Int (Bytes×List Int×Nat)
 |0,_=> .error 15
 |k+1,i=>match mskG (ordL s.groups) c sl vs sd s.vars i []with
  | .error e=> .error e
  | .ok ms=>
   if inRG (ordL s.groups) c sl s.vars (rspZ (ordL s.groups) s.vars ms w (trChal (fsS ctx s (imG s ms)) c))then .ok (bts (trChal (fsS ctx s (imG s ms)) c),rspZ (ordL s.groups) s.vars ms w (trChal (fsS ctx s (imG s ms)) c),i+s.vars.length)else tryZ c sl ctx s w vs sd k (i+s.vars.length)
noncomputable def prvZ (c sl ctx:Bytes) (s:Stm) (w:List Int) (vs:List Bytes) (sd:Bytes) (a:Int):Except Int (Bytes×List Int×Nat):=
 if witZ s w vs a≠0 then .error (witZ s w vs a)else tryZ c sl ctx s w vs sd 64 a.toNat
theorem witZ_ok {s:Stm} {w:List Int} {vs:List Bytes} {a:Int} (h:witZ s w vs a=0):goodT vs a=true∧w.length=s.vars.length∧inZ (ordL s.groups) s.vars w=true∧hldZ s w=true:=by
 unfold witZ at h
 split at h
 ·cases h
 ·rename_i h1
  split at h
  ·cases h
  ·rename_i h2
   split at h
   ·cases h
   ·rename_i h3
    split at h
    ·cases h
    ·rename_i h4;exact⟨by simpa using h1,by simpa using h2,by simpa using h3,by simpa using h4⟩
theorem imG_le {s:Stm} (hs:StG s) (w:List Int): ∀x∈imG s w,x.length≤8∧validN x=true:=by
 intro x hx;obtain⟨q,hq,rfl⟩:=List.mem_map.1 hx;obtain⟨q1,q2,-⟩:=hs.q q hq;have hg:=hs.g _ (mem_getD d0G (show q.grp.toNat<s.groups.length by omega))
 have hm:=(gE_m hg.1).2.2.1;have hlt:imQ s.groups w q<256^8:=by
  unfold imQ prZ;exact Nat.lt_trans (Nat.mod_lt _ (by omega)) (num8 hg.2.1)
 exact⟨bts_len.2 hlt,vN hlt⟩
theorem Prove22G {c sl:Bytes} {s:Stm} (hp:StP c sl s) (hbd:BdG s) (h00:s.eqs≠[]) {m o:Bytes} (hg1:s.groups=[(m,o)]) {ctx:Bytes} (hx:ctx.length≤100000) {w:List Int} (hw6:w.length<1000000) (hw: ∀x∈w,x.natAbs<LIM) (hW:inZ (ordL s.groups) s.vars w=true→WS s w) {vs:List Bytes} {sd:Bytes} {a:Int} (hl:vs.length<1000000) (hsd:sd.length<1000000):
  EvP Tryz.prog 64 [.agg [.s c, .s sl], .s ctx,s.pv, .sl (w.map Zp),C0, .sl [],T vs sd a] (prvP vs sd (prvZ c sl ctx s w vs sd a)):=by
 have hr:=hp.r;have hs:=hp.g;have hn:=newSettingG hp;have hwt:=witnessG (c:=c) (sl:=sl) hs hg1 hw6 hw hW sd (a:=a) hl;unfold prvZ
 by_cases he:witZ s w vs a=0
 ·rw[if_neg (by simpa using he)]
  rw[he]at hwt;obtain⟨f2,f3,f4,-⟩:=witZ_ok he;obtain⟨g1,g2,g3⟩:=goodT_ok f2;obtain⟨i0,rfl⟩: ∃i:Nat,a=i:=⟨a.toNat,by omega⟩
  rw[Int.toNat_natCast];have hCo:=fun(i:Nat) (hi:i≤2147483647)=>Commit16G hp (vs:=vs) (sd:=sd) (i:=i) g1 hi hl hsd
  have hRe:=fun(ms:List Int) (ch:Nat) (hml:ms.length=s.vars.length) (hch:ch<num c)=>Respond16G hp f3 hml hch f4
  have hMf:=fun(i:Nat) (hi:i≤2147483647) (ms:List Int)=>mskG_facts hp (sd:=sd) (i:=i) g1 hi hl (ms:=ms)
  have hCh:=fun(fs:List Bytes)=>challengeG hr hbd hx (fs:=fs)
  have hB:=fun(i:Nat) (hi:i≤2147483647)=>Commit0 (vs:=vs) (a:=i) sd (goodT_of g1 hi) hl
  have hmI:=imG_le hs;have hii: ∀ms:List Int,imG s ms≠[]∧(imG s ms).length≤900:=fun ms=>by
   have:=imG_len s ms;have ne:=hs.ne;exact⟨fun h=>h00 (List.length_eq_zero_iff.1 (by rw[←this,h];rfl)),by omega⟩
  obtain⟨R0,hR0⟩: ∃R0,R0=tryZ c sl ctx s w vs sd 64 i0:=⟨_,rfl⟩;rw[←hR0];obtain⟨gs,us,es⟩:=s;simp only[X0,Stm.pv]at hn hwt hCo hRe hCh hMf hg1⊢;subst hg1;obtain⟨oq,hoq⟩: ∃oq,oq=ordL [(m,o)]:=⟨_,rfl⟩;simp only[List.map_cons,List.map_nil,gpv,←hoq]at hn hwt hCo hRe hCh hMf f4⊢;refine eW Tryz.call64 Tryz.func64 ?_;repeat' first|simp only[go_sem,seval]|refine cP hn ?_|refine cP hwt ?_|refine sB ?_|(first|apply pX|apply bX)<;>intro hc|refine⟨oD,?_⟩|exact oD|fail
  refine loop_run (α:=Nat×Nat) (fun p=>64-p.1) (fun p=>⟨[(1, .v (.s ctx)),(3, .v (.sl (w.map Zp))),(5, .v (.sl [])),(7, .p 1000 0 0),(9, .p 1001 0 0),(11, .p 1002 0 0),(13, .p 1003 0 0),(14, .p 1004 0 0),(15, .p 1005 0 0),(17, .p 1014 0 0),(50,E' p.1)],[(1000,⟨0,[.v (.s c), .v (.s sl)],false,none⟩),(1001,⟨0,[.v (.sl [G m o]), .v (.sl (us.map vpv)), .v (.sl (es.map Eqn.pv))],false,none⟩),(1002,⟨0,[.v (.sl []), .v (.sl [])],false,none⟩),(1003,⟨0,[.v (.sl (vs.map .s)), .v (.s sd), .v (.i .i64 ((p.2:Nat):Int))],false,none⟩),(1004,⟨0,[.v (.s []), .sn, .sn, .sn],false,some 66⟩),(1005,⟨0,[.sn, .v (.s []), .v (.i .i64 0)],false,some 40⟩),(1014,⟨0,[.v (.s c), .v (.s sl), .v (.sl [G m o]), .v (.sl (us.map vpv)), .v (.sl (es.map Eqn.pv)), .v (.sl []), .v (.sl []), .v (.s [])],false,some 164⟩)],1028⟩) (fun p=>p.1≤64∧p.2≤2147483647∧R0=tryZ c sl ctx ⟨[(m,o)],us,es⟩ w vs sd (64-p.1) p.2) (0,i0) (fun _=>Nat.le_of_ble_eq_true rfl) ⟨Nat.zero_le _,by omega,hR0⟩ ?_ ?_
  ·exact lE
  ·clear hn hwt hR0 he f2;rintro⟨k,i⟩ ⟨hk,hi,hR0⟩ R hR;simp only at hk hi hR0
   by_cases hlt:k<64
   ·obtain⟨q,hq⟩: ∃q,64-k=q+1:=⟨63-k,by omega⟩
    rw[hq,tryZ]at hR0;simp only[←hoq]at hR0;have hCo:=hCo i hi
    cases hM:mskG oq c sl vs sd us i []with
    |error e=>
     simp only[hM]at hR0 hCo;subst hR0;have he:(e !=0)=true:=by rcases mskG_err hM with rfl|rfl<;>rfl
     simp only[cmmP]at hCo;clear hR;repeat' first|simp only[go_sem,seval,he]|refine cP hCo ?_|refine sB ?_|(first|apply pX|apply bX)<;>intro hc|refine⟨oD,?_⟩|exact oD|fail
     all_goals rfl
    |ok ms=>
     simp only[hM]at hR0 hCo;simp only[cmmP]at hCo;obtain⟨m1,m2,m3,m4⟩:=hMf i hi ms hM;have hii:=hii ms;have hCh:=hCh (imG ⟨[(m,o)],us,es⟩ ms) hii.1 hii.2 (fun x hx=>by have:=(hmI _ x hx).1;omega)
     have hlc:=trChal_lt (fsS ctx ⟨[(m,o)],us,es⟩ (imG ⟨[(m,o)],us,es⟩ ms)) hr.c2;have hRe:=hRe ms _ m1 hlc m2;generalize trChal (fsS ctx ⟨[(m,o)],us,es⟩ (imG ⟨[(m,o)],us,es⟩ ms)) c=z at*;have hB:=hB (i+us.length) m3;generalize imG ⟨[(m,o)],us,es⟩ ms=L at*;unfold rspP at hRe
     by_cases hin:inRG oq c sl us (rspZ oq us ms w z)=true
     ·rw[if_pos hin]at hR0 hRe;subst hR0;generalize rspZ oq us ms w z=rs at*;clear hR hMf m2 m4 hmI hM f4;repeat' first|simp only[go_sem,seval]|refine cP hCo ?_|refine cP hB ?_|refine cP hCh ?_|refine cP hRe ?_|refine sB ?_|(first|apply pX|apply bX)<;>intro hc|refine⟨oD,?_⟩|exact oD|fail
      all_goals rfl
     ·rw[if_neg hin]at hR0 hRe;have hgo:=hR (k+1,i+us.length) ⟨by omega,m3,by rw[show 64-(k+1)=q by omega];exact hR0⟩ (by simp only;omega)
      clear hR hMf m2 m4 hmI hM f4;repeat' first|simp only[go_sem,seval]|refine cP hCo ?_|refine cP hB ?_|refine cP hCh ?_|refine cP hRe ?_|refine sB ?_|(first|apply pX|apply bX)<;>intro hc|refine⟨oD,?_⟩|exact oD|fail
      refine hgo _ ?_;exact lE
   ·obtain rfl:k=64:=by omega
    simp only[Nat.sub_self,tryZ]at hR0;subst hR0;clear hR hRe hCh hCo hMf hB;repeat' first|simp only[go_sem,seval]|refine sB ?_|(first|apply pX|apply bX)<;>intro hc|refine⟨oD,?_⟩|exact oD|fail
    all_goals rfl
 ·rw[if_pos he];have hb:(witZ s w vs a==0)=false:=by simpa using he
  have hb2:(witZ s w vs a !=0)=true:=by simpa using he
  generalize witZ s w vs a=e at*;obtain⟨gs,us,es⟩:=s;simp only[X0,Stm.pv]at hn hwt⊢;refine eW Tryz.call64 Tryz.func64 ?_;repeat' first|simp only[go_sem,seval,hb,hb2]|refine cP hn ?_|refine cP hwt ?_|refine sB ?_|(first|apply pX|apply bX)<;>intro hc|refine⟨oD,?_⟩|exact oD|fail
  all_goals rfl
end Go.Proofs.YtmobkhegihemeaaGreatDoor
