/-
  Part of the proof, part 45. Own work.
-/
import Derived.Test.YtmobkhegihemeaaGreatDoorM44
import Derived.Test.YtmobkhegihemeaaGreatDoorM41
set_option linter.all false
namespace Go.Proofs.YtmobkhegihemeaaGreatDoor
open Go Go.Dom Go.Num
set_option maxRecDepth 100000
set_option maxHeartbeats 16000000
def admB (b:Bytes) (x:Bool×Bytes) (L:Nat):Bool:=decide (num x.2<L)&& !(b==[]&&x.1)
theorem sadmitsG (b:Bytes) {n:Bool} {a:Bytes} (va:validN a=true) {L:Nat} (hL:L<LIM):EvP Tryz.prog 338 [vpv b,N L, .agg [.b n, .s a]] (.b (admB b (n,a) L)):=by
 have hc:=cmpNN (num_of va) hL;rw[N_of va]at hc;have hd: ∀ _:True,decide (cmpN (num a) L<0)=decide (num a<L):=fun _=>by rw[Bool.eq_iff_iff];simp only[decide_eq_true_eq];exact cmpN_lt
 generalize cmpN (num a) L=cm at*;unfold vpv admB;simp only;generalize decide (num a<L)=p at*;generalize hb:(b==([]:Bytes))=q at*
 cases p<;>cases q<;>cases n<;>
 ·refine eW Tryz.call338 Tryz.func338 ?_;repeat' first|simp only[go_sem,seval,hb,hd trivial]|refine cP hc ?_|refine sB ?_|(first|apply pX|apply bX)<;>intro hc|refine⟨oD,?_⟩|exact oD|fail
  all_goals rfl
def okRG (o c sl:Bytes) (vs:List Bytes) (l:List (Bool×Bytes)):Bool:=(List.range vs.length).all fun i=>admB (vs.getD i []) (l.getD i d0I) (lR o c sl (vs.getD i []))
def firGE (o c sl:Bytes) (vs:List Bytes) (ch:Bytes) (l:List (Bool×Bytes)):Int:=
 if !(validN ch&&l.all izok)then 3 else if num c≤num ch then 2 else if l.length≠vs.length then 6 else if !okRG o c sl vs l then 2 else 0
noncomputable def firGL (c sl:Bytes) (s:Stm) (ch:Bytes) (l:List (Bool×Bytes)):List PV:=
 if firGE (ordL s.groups) c sl s.vars ch l=0 then s.eqs.map fun q=>N (msgQ s.groups ch l q)else[]
theorem okRG_bad {o c sl:Bytes} {vs:List Bytes} {l:List (Bool×Bytes)} {i:Nat} (hi:i<vs.length) (h: ¬admB (vs.getD i []) (l.getD i d0I) (lR o c sl (vs.getD i []))=true):okRG o c sl vs l=false:=by
 unfold okRG;rw[Bool.eq_false_iff];intro g;exact h (List.all_eq_true.1 g i (List.mem_range.2 hi))
theorem okRG_good {o c sl:Bytes} {vs:List Bytes} {l:List (Bool×Bytes)} (h: ∀i,i<vs.length→admB (vs.getD i []) (l.getD i d0I) (lR o c sl (vs.getD i []))=true):okRG o c sl vs l=true:=by
 unfold okRG;rw[List.all_eq_true];intro i hi;exact h i (List.mem_range.1 hi)
theorem sFirstG {c sl:Bytes} {s:Stm} (hp:StP c sl s) (h1:s.eqs≠[]) {ch:Bytes} {l:List (Bool×Bytes)} (hll:l.length<1000000):EvP Tryz.prog 289 [.agg [.s c, .s sl],s.pv, .s ch, .sl (l.map ipv)] (.tup [.sl (firGL c sl s ch l),E (firGE (ordL s.groups) c sl s.vars ch l)]):=by
 have hr:=hp.r;have hs:=hp.g;have hb:=sBoundsG hp;have lo:=(ordL_valid hs.g).2;clear hp;have vh:=natValid ch;have hi:=sints_ok l hll;have l5:(l.map ipv).length=l.length:=List.length_map ..;have l2:(s.vars.map vpv).length=s.vars.length:=List.length_map ..;have l6:(s.vars.map fun b=>N (lR (ordL s.groups) c sl b)).length=s.vars.length:=List.length_map ..
 have nv:=hs.nv
 by_cases g1:validN ch=true∧l.all izok=true
 case neg=>
  have e:(validN ch&&l.all izok)=false:=by rw[Bool.eq_false_iff];intro g;simp at g;exact g1 ⟨g.1,by simpa[List.all_eq_true]using g.2⟩
  have e2:firGE (ordL s.groups) c sl s.vars ch l=3:=by simp only[firGE,e];rfl
  rw[firGL,if_neg (by rw[e2];decide),e2]
  clear e2 hs;unfold Stm.pv at*;generalize validN ch=b1 at*;generalize l.all izok=b2 at*;refine eW Tryz.call289 Tryz.func289 ?_;repeat' first|simp only[go_sem,seval]|refine cP hb ?_|refine cP vh ?_|refine cP hi ?_|refine sB ?_|(first|apply pX|apply bX)<;>intro hc|refine⟨oD,?_⟩|exact oD|fail
  all_goals (exfalso;simp_all)
 obtain⟨vc,hok⟩:=g1;rw[vc]at vh;rw[hok]at hi;have hcm:=cmpVV vc hr.vc
 by_cases g2:num c≤num ch
 ·have e2:firGE (ordL s.groups) c sl s.vars ch l=2:=by simp only[firGE,vc,hok];rw[if_neg (by simp),if_pos g2]
  have hd: ∀ _:True,decide (cmpN (num ch) (num c)≥0)=true:=fun _=>decide_eq_true (cmpN_ge.2 g2)
  rw[firGL,if_neg (by rw[e2];decide),e2]
  generalize cmpN (num ch) (num c)=cm at*;clear e2 hs;unfold Stm.pv at*;refine eW Tryz.call289 Tryz.func289 ?_;repeat' first|simp only[go_sem,seval,hd trivial]|refine cP hb ?_|refine cP vh ?_|refine cP hi ?_|refine cP hcm ?_|refine sB ?_|(first|apply pX|apply bX)<;>intro hc|refine⟨oD,?_⟩|exact oD|fail
 have hd: ∀ _:True,decide (cmpN (num ch) (num c)≥0)=false:=fun _=>decide_eq_false (fun g=>g2 (cmpN_ge.1 g))
 by_cases g3:l.length=s.vars.length
 case neg=>
  have e2:firGE (ordL s.groups) c sl s.vars ch l=6:=by simp only[firGE,vc,hok];rw[if_neg (by simp),if_neg g2,if_pos g3]
  rw[firGL,if_neg (by rw[e2];decide),e2]
  generalize cmpN (num ch) (num c)=cm at*;clear e2 hs;unfold Stm.pv at*;refine eW Tryz.call289 Tryz.func289 ?_;repeat' first|simp only[go_sem,seval,hd trivial,l5,l2]|refine cP hb ?_|refine cP vh ?_|refine cP hi ?_|refine cP hcm ?_|refine sB ?_|(first|apply pX|apply bX)<;>intro hc|refine⟨oD,?_⟩|exact oD|fail
  all_goals (exfalso;omega)
 have hms:=smessages_ok hs.m h1 vc g3 (List.all_eq_true.1 hok);have hv:=hs.v;have hval: ∀x∈l,validN x.2=true:=fun x hx=>by
  have:=List.all_eq_true.1 hok x hx;simp only[izok,Bool.and_eq_true]at this;exact this.1
 have e0:firGE (ordL s.groups) c sl s.vars ch l=if !okRG (ordL s.groups) c sl s.vars l then 2 else 0:=by
  simp only[firGE,vc,hok];rw[if_neg (by simp),if_neg g2,if_neg (by omega)]
 unfold firGL;rw[e0];clear e0 hs hok;obtain⟨gs,vs,es⟩:=s;simp only at*;generalize ordL gs=o at*;unfold Stm.pv at*;simp only at*;generalize cmpN (num ch) (num c)=cm at*;refine eW Tryz.call289 Tryz.func289 ?_;repeat' first|simp only[go_sem,seval,hd trivial,l5,l2]|refine cP hb ?_|refine cP vh ?_|refine cP hi ?_|refine cP hcm ?_|refine sB ?_|(first|apply pX|apply bX)<;>intro hc|refine⟨oD,?_⟩|exact oD|fail
 refine loop_run (α:=Nat) (fun i=>vs.length-i) (fun i=>⟨[(2, .v (.s ch)),(3, .v (.sl (l.map ipv))),(5, .p 1001 0 0),(11, .v (.sl (vs.map fun b=>N (lR o c sl b)))),(45, .v (.sl (vs.map vpv))),(46,E' vs.length),(47,E' i)],[(1001,⟨0,[.v (.sl (gs.map gpv)), .v (.sl (vs.map vpv)), .v (.sl (es.map Eqn.pv))],false,none⟩)],_⟩) (fun i=>i≤vs.length∧ ∀j,j<i→admB (vs.getD j []) (l.getD j d0I) (lR o c sl (vs.getD j []))=true) 0 (fun _=>Nat.le_refl _) ⟨Nat.zero_le _,fun j hj=>by omega⟩ ?_ ?_
 ·exact lE
 ·rintro i ⟨hi',hf⟩ R hR
  by_cases hlt:i<vs.length
  ·have e1:=getD_map vpv vs [] hlt;have e2:=getD_map (fun b=>N (lR o c sl b)) vs [] hlt
   have hlt2:i<l.length:=by omega
   have e3:=getD_map ipv l d0I hlt2;obtain⟨k1,k3⟩:=hv _ (mem_getD [] hlt);have kv:=hval _ (mem_getD d0I hlt2);have ad:EvP Tryz.prog 338 [vpv (vs.getD i []),N (lR o c sl (vs.getD i [])),ipv (l.getD i d0I)] (.b (admB (vs.getD i []) (l.getD i d0I) (lR o c sl (vs.getD i [])))):=sadmitsG (vs.getD i []) (n:=(l.getD i d0I).1) kv (lR_lt hr lo k3);have hgo:=hR (i+1)
   by_cases hc2:admB (vs.getD i []) (l.getD i d0I) (lR o c sl (vs.getD i []))=true
   ·have hgo:=hgo ⟨by omega,fun j hj=>by
     by_cases e:j=i
     ·rw[e];exact hc2
     ·exact hf j (by omega)⟩ (by omega)
    rw[hc2]at ad;clear hR hf hc2 kv k1 k3;generalize lR o c sl (vs.getD i [])=L at*;generalize vs.getD i []=b at*;obtain⟨x,hx⟩: ∃x,x=l.getD i d0I:=⟨_,rfl⟩;rw[←hx]at ad e3;clear hx;obtain⟨xn,xa⟩:=x;simp only[vpv,ipv]at*;repeat' first|simp only[go_sem,seval,l2,l5,l6,e1,e2,e3]|refine cP ad ?_|refine sB ?_|(first|apply pX|apply bX)<;>intro hc|refine⟨oD,?_⟩|exact oD|fail
    refine hgo _ ?_;exact lE
   ·rw[okRG_bad hlt hc2];rw[Bool.eq_false_iff.2 hc2]at ad;clear hR hf hgo hc2 kv k1 k3;generalize lR o c sl (vs.getD i [])=L at*;generalize vs.getD i []=b at*;obtain⟨x,hx⟩: ∃x,x=l.getD i d0I:=⟨_,rfl⟩;rw[←hx]at ad e3;clear hx;obtain⟨xn,xa⟩:=x;simp only[vpv,ipv]at*;repeat' first|simp only[go_sem,seval,l2,l5,l6,e1,e2,e3]|refine cP ad ?_|refine sB ?_|(first|apply pX|apply bX)<;>intro hc|refine⟨oD,?_⟩|exact oD|fail
    all_goals rfl
  ·obtain rfl:i=vs.length:=by omega
   rw[okRG_good hf];repeat' first|simp only[go_sem,seval,l2]|refine cP hms ?_|refine sB ?_|(first|apply pX|apply bX)<;>intro hc|refine⟨oD,?_⟩|exact oD|fail
   all_goals rfl
theorem foldl_lt {α:Type} {f:Nat→α→Nat} {m:Nat} (h: ∀x a,f x a<m): ∀(l:List α) (x:Nat),x<m→l.foldl f x<m
 |[],_,hx=>hx
 |a::l,x,_=>foldl_lt h l _ (h x a)
theorem fmsg_le {s:Stm} (hs:StG s) (ch:Bytes) (rs:List (Bool×Bytes)): ∀x∈fmsg s ch rs,x.length≤8∧validN x=true:=by
 intro x hx;obtain⟨q,hq,rfl⟩:=List.mem_map.1 hx;obtain⟨q1,q2,-⟩:=hs.q q hq;have hg:=hs.g _ (mem_getD d0G (show q.grp.toNat<s.groups.length by omega))
 have hm:=(gE_m hg.1).2.2.1;have hlt:msgQ s.groups ch rs q<256^8:=by
  refine Nat.lt_trans ?_ (num8 hg.2.1);unfold msgQ;exact foldl_lt (fun x a=>Nat.mod_lt _ (by omega)) _ _ (Nat.mod_lt _ (by omega))
 exact⟨bts_len.2 hlt,vN hlt⟩
theorem openG_bad2 {c sl:Bytes} {s:Stm} (hp:StP c sl s) (h0:s.vars≠[]) (h00:s.eqs≠[]) {ch:Bytes} {rs:List (Bool×Bytes)} (h1:rs.length<1000000) (hf:formE c s.vars.length ch rs [] []=0) (hi:firGE (ordL s.groups) c sl s.vars ch rs≠0):
  EvP Tryz.prog 206 [X0 c sl s,spv ch rs [] []] (.tup [PZ0,B0,E (firGE (ordL s.groups) c sl s.vars ch rs)]):=by
 have hfo:=form_ok (c:=c) (sl:=sl) hp.r.vc s ch rs [] [] h1 (by simp) (by simp) (by simp)
 rw[hf]at hfo;have hfi:=sFirstG hp h00 (ch:=ch) (l:=rs) h1;have hl:firGL c sl s ch rs=[]:=by unfold firGL;rw[if_neg hi]
 rw[hl]at hfi;have hb:(firGE (ordL s.groups) c sl s.vars ch rs==0)=false:=by simpa using hi
 generalize firGE (ordL s.groups) c sl s.vars ch rs=e at*;obtain⟨gq,vs,es⟩:=s;simp only[X0,spv,Stm.pv]at hfo hfi⊢;refine eW Tryz.call206 Tryz.func206 ?_;repeat' first|simp only[go_sem,seval,hb]|refine cP hfo ?_|refine cP hfi ?_|refine sB ?_|(first|apply pX|apply bX)<;>intro hc|refine⟨oD,?_⟩|exact oD|fail
 all_goals skip
theorem openG_good {c sl:Bytes} {s:Stm} (hp:StP c sl s) (h0:s.vars≠[]) (h00:s.eqs≠[]) {ch:Bytes} {rs:List (Bool×Bytes)} (h1:rs.length<1000000) (hf:formE c s.vars.length ch rs [] []=0) (hi:firGE (ordL s.groups) c sl s.vars ch rs=0):
  EvP Tryz.prog 206 [X0 c sl s,spv ch rs [] []] (.tup [.agg [.sl (s.eqs.map fun q=>N (msgQ s.groups ch rs q)), .s ch, .sl (rs.map ipv)],B0,E 0]):=by
 have hfo:=form_ok (c:=c) (sl:=sl) hp.r.vc s ch rs [] [] h1 (by simp) (by simp) (by simp)
 rw[hf]at hfo;have hfi:=sFirstG hp h00 (ch:=ch) (l:=rs) h1;have hl:firGL c sl s ch rs=s.eqs.map fun q=>N (msgQ s.groups ch rs q):=by unfold firGL;rw[if_pos hi]
 rw[hl,hi]at hfi;have hrs:rs≠[]:=by
  intro h;subst h;unfold formE at hf;have hv:([]:List (Bool×Bytes)).length≠s.vars.length:=by
   intro h;exact h0 (List.length_eq_zero_iff.1 h.symm)
  split at hf
  ·exact absurd hf (by decide)
  ·rw[if_pos (.inl hv)]at hf;exact absurd hf (by decide)
 have hcl:=CloneI_ok hrs h1;have hcn:=CloneN0;generalize (s.eqs.map fun q=>N (msgQ s.groups ch rs q))=fl at*
 obtain⟨gq,vs,es⟩:=s;simp only[X0,spv,Stm.pv,List.map_nil]at hfo hfi⊢;refine eW Tryz.call206 Tryz.func206 ?_;repeat' first|simp only[go_sem,seval]|refine cP hfo ?_|refine cP hfi ?_|refine cP hcl ?_|refine cP hcn ?_|(refine loop_unroll' ?_)|refine sB ?_|(first|apply pX|apply bX)<;>intro hc|refine⟨oD,?_⟩|exact oD|fail
noncomputable def vfyZ (c sl ctx:Bytes) (s:Stm) (ch:Bytes) (rs:List (Bool×Bytes)) (gs:List Bytes) (ls:List (List (Bool×Bytes))):Int:=
 if formE c s.vars.length ch rs gs ls≠0 then formE c s.vars.length ch rs gs ls else if firGE (ordL s.groups) c sl s.vars ch rs≠0 then firGE (ordL s.groups) c sl s.vars ch rs else if bts (trChal (fsS ctx s (fmsg s ch rs)) c)=ch then 0 else 16
theorem fVerifyG {c sl:Bytes} {s:Stm} (hp:StP c sl s) (hb:BdG s) (h00:s.eqs≠[]) {ctx:Bytes} (hx:ctx.length≤100000) {ch:Bytes} {rs:List (Bool×Bytes)} {gs:List Bytes} {ls:List (List (Bool×Bytes))} (h1:rs.length<1000000) (h2:gs.length≤1000) (h3:ls.length≤1000) (h4: ∀l∈ls,l.length<4611686018427387904):
  EvP Tryz.prog 123 [.agg [.s c, .s sl], .s ctx,s.pv,C0,spv ch rs gs ls] (E (vfyZ c sl ctx s ch rs gs ls)):=by
 have hn:=newSettingG hp;unfold vfyZ
 by_cases hf:formE c s.vars.length ch rs gs ls=0
 ·obtain⟨rfl,rfl⟩:=formE_nil hf;rw[if_neg (by simpa using hf)]
  by_cases hi:firGE (ordL s.groups) c sl s.vars ch rs=0
  ·rw[if_neg (by simpa using hi)]
   have ho:=openG_good hp hb.v0 h00 h1 hf hi;have hmap:(s.eqs.map fun q=>N (msgQ s.groups ch rs q))=(fmsg s ch rs).map .s:=by unfold fmsg;rw[List.map_map];rfl
   rw[hmap]at ho;have f0:fmsg s ch rs≠[]:=by unfold fmsg;simpa using h00
   have fl: ∀x∈fmsg s ch rs,x.length≤100000:=fun x hx=>by have:=(fmsg_le hp.g ch rs x hx).1;omega
   have fn:(fmsg s ch rs).length≤900:=by unfold fmsg;rw[List.length_map];have:=hp.g.ne;omega
   generalize fmsg s ch rs=fs at*;have hc:=challengeG hp.r hb hx f0 fn fl;have ha:=accepts_ok (c:=c) (sl:=sl) s B0 (bts (trChal (fsS ctx s fs) c));generalize trChal (fsS ctx s fs) c=z at*;obtain⟨gq,vs,es⟩:=s;simp only[X0,spv,Stm.pv,List.map_nil]at hn ho hc ha⊢;clear hp hb h2 h3 h4 hf hi hmap
   by_cases hz:bts z=ch
   ·rw[if_pos hz];have hz1:(bts z==ch)=true:=by simpa using hz
    refine eW Tryz.call123 Tryz.func123 ?_;repeat' first|simp only[go_sem,seval,hz1]|refine cP hn ?_|refine cP ho ?_|refine cP hc ?_|refine cP ha ?_|(refine loop_unroll' ?_)|refine sB ?_|(first|apply pX|apply bX)<;>intro hc|refine⟨oD,?_⟩|exact oD|fail
   ·rw[if_neg hz];have hz1:(bts z==ch)=false:=by simpa using hz
    refine eW Tryz.call123 Tryz.func123 ?_;repeat' first|simp only[go_sem,seval,hz1]|refine cP hn ?_|refine cP ho ?_|refine cP hc ?_|refine cP ha ?_|(refine loop_unroll' ?_)|refine sB ?_|(first|apply pX|apply bX)<;>intro hc|refine⟨oD,?_⟩|exact oD|fail
  ·rw[if_pos hi];have ho:=openG_bad2 hp hb.v0 h00 h1 hf hi;have hb:(firGE (ordL s.groups) c sl s.vars ch rs==0)=false:=by simpa using hi
   generalize firGE (ordL s.groups) c sl s.vars ch rs=e at*;obtain⟨gq,vs,es⟩:=s;simp only[X0,spv,Stm.pv,List.map_nil]at hn ho⊢;refine eW Tryz.call123 Tryz.func123 ?_;repeat' first|simp only[go_sem,seval,hb]|refine cP hn ?_|refine cP ho ?_|refine sB ?_|(first|apply pX|apply bX)<;>intro hc|refine⟨oD,?_⟩|exact oD|fail
 ·rw[if_pos hf];have ho:=open_bad1 hp.r h1 h2 h3 h4 hf (sl:=sl);have hb:(formE c s.vars.length ch rs gs ls==0)=false:=by simpa using hf
  generalize formE c s.vars.length ch rs gs ls=e at*;obtain⟨gq,vs,es⟩:=s;simp only[X0,spv,Stm.pv]at hn ho⊢;refine eW Tryz.call123 Tryz.func123 ?_;repeat' first|simp only[go_sem,seval,hb]|refine cP hn ?_|refine cP ho ?_|refine sB ?_|(first|apply pX|apply bX)<;>intro hc|refine⟨oD,?_⟩|exact oD|fail
structure CKo (c:CK):Prop where
 e:gE c.m c.o=0
 o0:c.o≠[]
 p:isMR (num c.o)=true
 vg:validN c.g=true
 gg:GP c.m c.o (num c.g)
 vy:validN c.y=true
 gy:GP c.m c.o (num c.y)
 hs: ∀x∈c.sh,validN x=true∧GP c.m c.o (num x)
 n1:1≤c.need
 n2:c.need≤c.sh.length
 nq:c.sh.length<num c.o
 cmb:cmbB c=true
theorem courtE_0 {c:CK} (h:courtE c=0):CKo c:=by
 unfold courtE at h
 split at h
 ·cases h
 rename_i h1
 split at h
 ·cases h
 split at h
 ·rename_i h3;exact absurd h h3
 rename_i h3
 split at h
 ·cases h
 rename_i h4
 split at h
 ·cases h
 rename_i h5
 split at h
 ·cases h
 rename_i h6
 split at h
 case isFalse=>cases h
 rename_i h7;obtain⟨hE,ho,vg,gg,-,vy,gy,-⟩:=sKeyE_0 (by simpa using h3)
 refine⟨hE,ho,by simpa using h4,vg,gg,vy,gy,fun x hx=> ?_,by omega,by omega,by omega,h7⟩
 have h8:c.sh.all (gIn c.m c.o)=true:=by simpa using h6
 have:=List.all_eq_true.1 h8 x hx;unfold gIn at this;rw[Bool.and_eq_true]at this;exact(gHas_iff hE).1 this.2
theorem cstm_ruok {c:CK} (k:CKo c) (lo:c.o.length≤8):RuOK c.o [2]:=by
 obtain⟨-,vo,-,-,hq⟩:=gE_m k.e;have:=(hq k.o0).1;exact⟨vo,rfl,lo,by decide,by omega,by decide⟩
theorem cstm_StP {c:CK} (k:CKo c) (lm:c.m.length≤8) (lo:c.o.length≤8) {i:Nat} {a d:Bytes} (hi:gHas c.m c.o (c.sh.getD (i-1) [])=true) (ha:gHas c.m c.o a=true) (hd:gHas c.m c.o d=true):StP c.o [2] (cstm c i a d):=by
 have hg:gHas c.m c.o c.g=true:=(gHas_iff k.e).2 ⟨k.vg,k.gg⟩;have ho:=k.o0;have hor:ordL [(c.m,c.o)]=c.o:=by simp[ordL,ho]
 refine⟨cstm_ruok k lo,⟨⟨?_,?_,?_,?_,?_,?_⟩,?_,?_,?_,?_,?_,?_,?_⟩,?_⟩
 ·intro p hp;simp only[cstm,List.mem_singleton]at hp;subst hp;exact⟨lm,lo⟩
 ·intro b hb;simp only[cstm,List.mem_singleton]at hb;subst hb;decide
 ·intro q hq;simp only[cstm,List.mem_cons,List.not_mem_nil,or_false]at hq;rcases hq with rfl|rfl<;>simp[tm1]
 ·simp[cstm]
 ·simp[cstm]
 ·simp[cstm]
 ·intro p hp;simp only[cstm,List.mem_singleton]at hp;subst hp;exact⟨k.e,lm,lo⟩
 ·intro b hb;simp only[cstm,List.mem_singleton]at hb;subst hb;exact⟨rfl,by decide⟩
 ·intro q hq;simp only[cstm,List.mem_cons,List.not_mem_nil,or_false]at hq;rcases hq with rfl|rfl
  ·refine⟨Int.le_refl _,by simp[cstm],hi,by simp,fun t ht=> ?_⟩
   simp only[List.mem_singleton]at ht;subst ht;exact⟨by simp[tm1],by simp[tm1,cstm],hg,rfl⟩
  ·refine⟨Int.le_refl _,by simp[cstm],hd,by simp,fun t ht=> ?_⟩
   simp only[List.mem_singleton]at ht;subst ht;exact⟨by simp[tm1],by simp[tm1,cstm],ha,rfl⟩
 ·simp[cstm]
 ·simp[cstm]
 ·simp[cstm]
 ·simp[kndB,cstm,hor,oddG,badQ,ho]
 ·intro b hb _;show num c.o≤num (ordL [(c.m,c.o)]);rw[hor];exact Nat.le_refl _
theorem cstm_BdG (c:CK) (lm:c.m.length≤8) (lo:c.o.length≤8) {i:Nat} {a d:Bytes} (lg:c.g.length≤128) (li:(c.sh.getD (i-1) []).length≤128) (la:a.length≤128) (ld:d.length≤128):BdG (cstm c i a d):=by
 refine⟨⟨c.m,c.o,rfl,by omega,by omega⟩,by simp[cstm],by simp[cstm],fun b hb=> ?_,by simp[cstm],fun q hq=> ?_⟩
 ·simp only[cstm,List.mem_singleton]at hb;subst hb;decide
 ·simp only[cstm,List.mem_cons,List.not_mem_nil,or_false]at hq;rcases hq with rfl|rfl
  ·refine⟨Int.le_refl _,by simp,by show(c.sh.getD (i-1) []).length≤1000;omega,by simp,fun t ht=> ?_⟩
   simp only[List.mem_singleton]at ht;subst ht;exact⟨by simp[tm1],by simp[tm1],by show c.g.length≤1000;omega,by simp[tm1]⟩
  ·refine⟨Int.le_refl _,by simp,by show d.length≤1000;omega,by simp,fun t ht=> ?_⟩
   simp only[List.mem_singleton]at ht;subst ht;exact⟨by simp[tm1],by simp[tm1],by show a.length≤1000;omega,by simp[tm1]⟩
theorem cstm_WS (c:CK) {i:Nat} {a d:Bytes} {x:Nat} (hx:x<18446744073709551616):WS (cstm c i a d) [(x:Int)]:=by
 have hL:=w64_lim;intro q hq;simp only[cstm,List.mem_cons,List.not_mem_nil,or_false]at hq;rcases hq with rfl|rfl
 all_goals
  intro t ht;simp only[List.mem_singleton]at ht;subst ht;refine⟨by simp[tm1],by simp[tm1],rfl,?_,?_⟩
  ·show((x:Int)).natAbs<LIM;omega
  ·show(1:Nat)*((x:Int)).natAbs<LIM;omega
abbrev Cph (a b:Bytes):PV:= .agg [.s a, .s b]
theorem cshare_ok (c:CK) (ln:c.name.length≤60) (lm:c.m.length≤8) (lo:c.o.length≤8) (ls:c.sh.length≤8) (hc:courtE c=0) {i:Nat} (h1:1≤i) (hi:i≤c.sh.length) {x A B:Bytes} {vs:List Bytes} {sd:Bytes} {a:Int} (hl:vs.length<1000000) (hsd:sd.length<1000000)
  (hv:[x,A,B].all validN=true) (hg:goodT vs a=true) (hA:gIn c.m c.o A=true) (hB:gIn c.m c.o B=true) (hx:num x<num c.o) (hy:num c.g^num x%num c.m=num (c.sh.getD (i-1) [])) {d:Nat} (hd:d=num A^num x%num c.m) {ch:Bytes} {rs:List Int} {j:Nat} (hp:prvZ c.o [2] (cctx c i) (cstm c i A (bts d)) [(num x:Int)] vs sd a= .ok (ch,rs,j)):
  EvP Tryz.prog 21 [c.pv,E i, .s x,Cph A B,T vs sd a] (.tup [.agg [E i,N d, .s ch, .sl (rs.map Zp), .sl [], .sl []],T vs sd (j:Nat),E 0]):=by
 have k:=courtE_0 hc;have v1:=ccheck_ok c ln lm lo ls;rw[hc]at v1;have v2:=ccanon_ok [x,A,B] (by simp)
 rw[hv]at v2;simp only[List.map_cons,List.map_nil]at v2;have v3:=cwell_ok vs sd a hl;rw[hg]at v3;have v4:=cinv_ok c lm lo (by omega) i (xs:=[A,B]) (by simp)
 have e4:invE c (i:Nat) [A,B]=0:=by
  unfold invE;rw[if_neg (by omega)]
  simp[hA,hB]
 rw[e4]at v4;simp only[List.map_cons,List.map_nil]at v4;simp only[List.all_cons,List.all_nil,Bool.and_true,Bool.and_eq_true]at hv;obtain⟨vx,vA,vB⟩:=hv;obtain⟨vm,vo,m1,-,-⟩:=gE_m k.e;have hqW:=num8 lo;have hmW:=num8 lm;have hW:=W64_LIM;have v5:=From_ok vx;have hAg:gHas c.m c.o A=true:=by unfold gIn at hA;rw[Bool.and_eq_true]at hA;exact hA.2
 obtain⟨-,gA⟩:=(gHas_iff k.e).1 hAg;have v6:=gExp_ok lm lo (ng:=false) k.e k.gg vx rfl;rw[N_of k.vg,show powZ (num c.m) (num c.g) false (num x)=num c.g^num x%num c.m from rfl,hy]at v6
 have hj:=mem_getD ([]:Bytes) (show i-1<c.sh.length by omega)
 obtain⟨vj,gj⟩:=k.hs _ hj;rw[N_of vj]at v6;have v7:=gExp_ok lm lo (ng:=false) k.e gA vx rfl;rw[N_of vA,show powZ (num c.m) (num A) false (num x)=num A^num x%num c.m from rfl,←hd]at v7
 have hdl:d<num c.m:=by rw[hd];exact Nat.mod_lt _ (by omega)
 have vd:validN (bts d)=true:=vN (by omega)
 have gd:gHas c.m c.o (bts d)=true:=(gHas_iff k.e).2 ⟨vd,by rw[num_bts,hd];exact gA.pow _⟩
 have v8:=crule_ok c;have v9:=cctx_ok c (by omega) (i:=i) (by omega)
 have w1:=cstm_ok c h1 hi (by omega) A (bts d)
 have hS:=cstm_StP k lm lo (i:=i) (a:=A) (d:=bts d) ((gHas_iff k.e).2 ⟨vj,gj⟩) hAg gd;have hB2:=cstm_BdG c lm lo (i:=i) (a:=A) (d:=bts d) (len_of k.vg) (len_of vj) (len_of vA) (len_of vd);have hxl:(cctx c i).length≤100000:=by
  have: ∀i,i<100→(Lib.decDigits i).length≤2:=by decide+kernel
  have:=this i (by omega)
  simp[cctx];omega
 have w2:=Prove22G hS hB2 (by simp[cstm]) rfl hxl (w:=[(num x:Int)]) (by simp) (fun z hz=>by simp at hz;subst hz;have:=num8L (o:=x);have:=w64_lim;omega) (fun _=>cstm_WS c (by omega)) (vs:=vs) (sd:=sd) (a:=a) hl hsd
 rw[hp]at w2;simp only[prvP,List.map_cons,List.map_nil]at w2;rw[show Zp (num x:Int)= .agg [.b false, .s x] by show ipv (ipz (num x:Int))= _;rw[ipz_nat vx];rfl]at w2
 obtain⟨r,rfl⟩: ∃r,i=r+1:=⟨i-1,by omega⟩
 rw[Nat.add_sub_cancel]at v6 hy vj;have e1:=getD_S (l:=c.sh) (x:=r) (by omega)
 have l1:(c.sh.map PV.s).length=c.sh.length:=List.length_map ..;have hw: ∀ _:True,IntKind.i64.wrap (((r+1:Nat):Int)-1)=(r:Int):=fun _=>by rw[IntWalk.i64_in _ (by omega)];omega
 have c1:=cmpVV vx vo;have hcg:=geD (num x) (num c.o);rw[decide_eq_true hx]at hcg;have hrl:r<c.sh.length:=by omega
 generalize cmpN (num x) (num c.o)=cm at*;generalize c.sh.getD r []=y at*;generalize cctx c (r+1)=cx at*;generalize cstm c (r+1) A (bts d)=S at*;clear hp hS hB2 k hy hd hc hj;obtain⟨sg,sv,se⟩:=S;obtain⟨name,m,o,g,yy,need,sh⟩:=c;simp only[CK.pv,Stm.pv]at*;refine eW Tryz.call21 Tryz.func21 ?_;repeat' first|simp only[go_sem,seval,l1,e1,hw trivial,hcg,beq_self_eq_true,bne_self_eq_false]|refine cP v1 ?_|refine cP v2 ?_|refine cP v3 ?_|refine cP v4 ?_|refine cP v5 ?_|refine cP v6 ?_|refine cP v7 ?_|refine cP c1 ?_|refine cP v8 ?_|refine cP v9 ?_|refine cP w1 ?_|refine cP w2 ?_|refine sB ?_|(first|apply pX|apply bX)<;>intro hc|refine⟨oD,?_⟩|exact oD|fail
 all_goals rfl
theorem cchk_ok (c:CK) (ln:c.name.length≤60) (lm:c.m.length≤8) (lo:c.o.length≤8) (ls:c.sh.length≤8) (k:CKo c) {i:Nat} (h1:1≤i) (hi:i≤c.sh.length) {A B d:Bytes} (hv:[A,B,d].all validN=true) (hA:gIn c.m c.o A=true) (hB:gIn c.m c.o B=true) (hd:gIn c.m c.o d=true) {ch:Bytes} {rs:List (Bool×Bytes)} {gs:List Bytes} {ls':List (List (Bool×Bytes))} (n1:rs.length<1000000) (n2:gs.length≤1000) (n3:ls'.length≤1000) (n4: ∀l∈ls',l.length<4611686018427387904):
  EvP Tryz.prog 68 [c.pv,Cph A B, .agg [E i, .s d, .s ch, .sl (rs.map ipv), .sl (gs.map .s), .sl (ls'.map lpv)]] (E (vfyZ c.o [2] (cctx c i) (cstm c i A d) ch rs gs ls')):=by
 have v2:=ccanon_ok [A,B,d] (by simp)
 rw[hv]at v2;simp only[List.map_cons,List.map_nil]at v2;have v4:=cinv_ok c lm lo (by omega) i (xs:=[A,B,d]) (by simp)
 have e4:invE c (i:Nat) [A,B,d]=0:=by
  unfold invE;rw[if_neg (by omega)]
  simp[hA,hB,hd]
 rw[e4]at v4;simp only[List.map_cons,List.map_nil]at v4;simp only[List.all_cons,List.all_nil,Bool.and_true,Bool.and_eq_true]at hv;obtain⟨vA,vB,vd⟩:=hv;have hAg:gHas c.m c.o A=true:=by unfold gIn at hA;rw[Bool.and_eq_true]at hA;exact hA.2
 have hdg:gHas c.m c.o d=true:=by unfold gIn at hd;rw[Bool.and_eq_true]at hd;exact hd.2
 have hj:=mem_getD ([]:Bytes) (show i-1<c.sh.length by omega)
 obtain⟨vj,gj⟩:=k.hs _ hj;have v8:=crule_ok c;have v9:=cctx_ok c (by omega) (i:=i) (by omega)
 have w1:=cstm_ok c h1 hi (by omega) A d
 have hS:=cstm_StP k lm lo (i:=i) (a:=A) (d:=d) ((gHas_iff k.e).2 ⟨vj,gj⟩) hAg hdg;have hB2:=cstm_BdG c lm lo (i:=i) (a:=A) (d:=d) (len_of k.vg) (len_of vj) (len_of vA) (len_of vd);have hxl:(cctx c i).length≤100000:=by
  have: ∀i,i<100→(Lib.decDigits i).length≤2:=by decide+kernel
  have:=this i (by omega)
  simp[cctx];omega
 have w2:=fVerifyG hS hB2 (by simp[cstm]) hxl (ch:=ch) (rs:=rs) (gs:=gs) (ls:=ls') n1 n2 n3 n4
 generalize vfyZ c.o [2] (cctx c i) (cstm c i A d) ch rs gs ls'=E0 at*;generalize cctx c i=cx at*;generalize cstm c i A d=S at*;clear hS hB2 k hj;obtain⟨sg,sv,se⟩:=S;obtain⟨name,m,o,g,yy,need,sh⟩:=c;simp only[CK.pv,Stm.pv,spv]at*;refine eW Tryz.call68 Tryz.func68 ?_;repeat' first|simp only[go_sem,seval]|refine cP v2 ?_|refine cP v4 ?_|refine cP v8 ?_|refine cP v9 ?_|refine cP w1 ?_|refine cP w2 ?_|refine sB ?_|(first|apply pX|apply bX)<;>intro hc|refine⟨oD,?_⟩|exact oD|fail
 all_goals rfl
theorem powZ_ipz' (m x:Nat) (z:Int):powZ m x (ipz z).1 (num (ipz z).2)=powI m x z:=by
 simp only[ipz,num_zb,zs];rfl
theorem powZ_neg' (m x z:Nat):powZ m x (!(bts z==[])) (num (bts z))=powI m x (-(z:Int)):=by
 have e:(!(bts z==([]:Bytes)))=decide (-(z:Int)<0):=by
  rw[Bool.eq_iff_iff];simp[bts_nil];omega
 rw[e,num_bts];unfold powI;congr 1;omega
theorem tryZ_ok {c sl ctx:Bytes} {s:Stm} {w:List Int} {vs:List Bytes} {sd:Bytes} {ch:Bytes} {rs:List Int} {j:Nat}: ∀{n i:Nat},tryZ c sl ctx s w vs sd n i= .ok (ch,rs,j)→ ∃i' ms z,mskG (ordL s.groups) c sl vs sd s.vars i' []= .ok ms∧z=trChal (fsS ctx s (imG s ms)) c∧ch=bts z∧rs=rspZ (ordL s.groups) s.vars ms w z
 |0,i,h=>by cases h
 |n+1,i,h=>by
  rw[tryZ]at h
  split at h
  ·cases h
  ·rename_i ms hms
   split at h
   ·simp only[Except.ok.injEq,Prod.mk.injEq]at h;obtain⟨rfl,rfl,-⟩:=h;exact⟨i,ms,_,hms,rfl,rfl,rfl⟩
   ·exact tryZ_ok h
theorem prvZ_try {c sl ctx:Bytes} {s:Stm} {w:List Int} {vs:List Bytes} {sd:Bytes} {a:Int} {R:Bytes×List Int×Nat} (h:prvZ c sl ctx s w vs sd a= .ok R):tryZ c sl ctx s w vs sd 64 a.toNat= .ok R:=by
 unfold prvZ at h
 split at h
 ·cases h
 ·exact h
theorem msg_c {m o x y z b t:Nat} (hm:0<m) (hu:Unit' m b) (ho:b^o%m=1%m) (ht:b^x%m=t):powI m t (-(z:Int))*powI m b (((y:Int)+z*x)%o)%m=powI m b y:=by
 have h1:powI m b (((y:Int)+z*x)%o)=powI m b ((y:Int)+z*x):=powI_ord hu hm ho (by
  refine⟨-(((y:Int)+z*x)/o),?_⟩;have:=Int.mul_ediv_add_emod ((y:Int)+z*x) o
  grind)
 rw[h1,←ht,show((z:Int)*(x:Int))=((z*x:Nat):Int)from(Int.natCast_mul _ _).symm]
 exact respond_law hu hm _ _ _
theorem conv_c {c:CK} (k:CKo c) (lo:c.o.length≤8) {i:Nat} {A d ctx:Bytes} (gA:GP c.m c.o (num A)) {x:Nat} (h1:num c.g^x%num c.m=num (c.sh.getD (i-1) [])) (h2:num A^x%num c.m=num d) {vs:List Bytes} {sd:Bytes} {a:Int} {ch:Bytes} {rs:List Int} {j:Nat} (h:prvZ c.o [2] ctx (cstm c i A d) [(x:Int)] vs sd a= .ok (ch,rs,j)):vfyZ c.o [2] ctx (cstm c i A d) ch (rs.map ipz) [] []=0:=by
 obtain⟨i',ms,z,hms,hz,rfl,rfl⟩:=tryZ_ok (prvZ_try h);have hor:ordL (cstm c i A d).groups=c.o:=by simp[cstm,ordL,k.o0]
 have hvr:(cstm c i A d).vars=[[]]:=rfl;rw[hor,hvr]at hms;rw[hor,hvr];simp only[mskG,drwG,if_true,List.nil_append]at hms;obtain⟨vm,vo,m1,-,hq⟩:=gE_m k.e;have q1:=(hq k.o0).1
 split at hms
 ·cases hms
 rename_i yz hyz
 split at hyz
 ·cases hyz
 rename_i yb hyb;injection hyz with hyz
 injection hms with hms
 subst hyz;subst hms;obtain⟨y,hy⟩: ∃y,y=num yb:=⟨_,rfl⟩;rw[←hy]at hz⊢;have hzc:z<num c.o:=by rw[hz];exact trChal_lt _ (by omega)
 have hr0:rspZ c.o [[]] [(y:Int)] [(x:Int)] z=[((y:Int)+z*x)%num c.o]:=by simp[rspZ,rspA]
 rw[hr0];have hr1:0≤((y:Int)+z*x)%num c.o:=Int.emod_nonneg _ (by omega)
 have hr2:((y:Int)+z*x)%num c.o<num c.o:=Int.emod_lt_of_pos _ (by omega)
 have go: ∀b,GP c.m c.o b→b^num c.o%num c.m=1%num c.m:=fun b hb=>hb.ord.resolve_left k.o0
 have hfm:fmsg (cstm c i A d) (bts z) ([((y:Int)+z*x)%num c.o].map ipz)=imG (cstm c i A d) [(y:Int)]:=by
  have e1:=msg_c (o:=num c.o) (x:=x) (y:=y) (z:=z) (by omega) k.gg.unit (go _ k.gg) h1
  have e2:=msg_c (o:=num c.o) (x:=x) (y:=y) (z:=z) (by omega) gA.unit (go _ gA) h2
  have p1: ∀b,GP c.m c.o b→powZ (num c.m) b false (num [1])=b:=fun b hb=>by
   show b^(num [1])%num c.m=b;rw[show num ([1]:Bytes)=1 from rfl,Nat.pow_one,Nat.mod_eq_of_lt hb.lt]
  have t1: ∀b:Bytes,tz [(y:Int)] (tm1 b 0)=y:=fun b=>by simp[tz,tm1,zOf,num]
  simp only[fmsg,imG,cstm,List.map_cons,List.map_nil,msgQ,imQ,List.foldl_cons,List.foldl_nil,msgT,tm1,show((0:Int)).toNat=0 from rfl,Int.toNat_natCast,List.getD_cons_zero,powZ_neg',p1 _ k.gg,p1 _ gA,powZ_ipz',e1,e2]
  simp only[show∀b,tz [(y:Int)] ⟨b,((0:Nat):Int),false,[1]⟩=y from fun b=>t1 b,prZ_one,powZ_ipz']
 obtain⟨r,hr⟩: ∃r:Nat,((y:Int)+z*x)%num c.o=r:=⟨_,(Int.toNat_of_nonneg hr1).symm⟩;rw[hr]at hfm hr2⊢;have hqW:=num8 lo;have iz:ipz (r:Int)=(false,bts r):=by
  have:=ipz_nat (x:=bts r) (vN (by omega))
  rwa[num_bts]at this
 have a1:validN (bts z)=true:=vN (by omega)
 have a2:validN (bts r)=true:=vN (by omega)
 simp only[List.map_cons,List.map_nil,iz]at hfm⊢;have f1:formE c.o (cstm c i A d).vars.length (bts z) [(false,bts r)] [] []=0:=by
  unfold formE;rw[a1,if_neg (by simp[izok,a2]),if_neg (by simp[cstm]),if_neg (by rw[num_bts];omega)]
 have f2:firGE (ordL (cstm c i A d).groups) c.o [2] (cstm c i A d).vars (bts z) [(false,bts r)]=0:=by
  rw[hor,hvr];have f3:okRG c.o c.o [2] [[]] [(false,bts r)]=true:=okRG_good fun q hq=>by
   have:q=0:=by simp at hq;omega
   subst this;simp[admB,lR,num_bts];omega
  unfold firGE;rw[a1,f3,if_neg (by simp[izok,a2]),if_neg (by rw[num_bts];omega),if_neg (by simp),if_neg (by simp)]
 unfold vfyZ;rw[if_neg (by rw[f1];simp),if_neg (by rw[f2];simp),hfm,←hz,if_pos rfl]
end Go.Proofs.YtmobkhegihemeaaGreatDoor
