/-
  Part of the proof, part 32. Own work.
-/
import Derived.Test.YtmobkhegihemeaaGreatDoorM30
import Derived.Test.YtmobkhegihemeaaGreatDoorM31
set_option linter.all false
namespace Go.Proofs.YtmobkhegihemeaaGreatDoor
open Go Go.Dom
set_option maxRecDepth 100000
set_option maxHeartbeats 16000000
theorem plain_ok (k:Nat) {c:Int} (hc:c=IntKind.u8.wrap (k:Int)) (l:List Bytes) (hm:l≠[]) (hn:l.length≤1000) (hb: ∀s∈l,s.length≤100000):EvP Tryz.prog 269 [.i .u8 c, .sl (l.map .s)] (.s (sumB (frameB k l))):=by
 have h:=framedS k hc [] l hm (by simpa using hn) (by simpa using hb)
 rw[List.nil_append,List.map_nil]at h;refine eW Tryz.call269 Tryz.func269 ?_;repeat' first|simp only[go_sem,seval]|refine cV h ?_|refine sB ?_|(first|apply pX|apply bX)<;>intro hc|refine⟨oD,?_⟩|exact oD|fail
theorem tNew_ok (l:Bytes) (hl:l.length≤100000):EvP Tryz.prog 189 [.s l] (.s (trNew l)):=by
 have h:=plain_ok 78 (c:=78) rfl [l] (by simp) (by simp) (by simp;omega)
 simp only[List.map_cons,List.map_nil]at h;refine eW Tryz.call189 Tryz.func189 ?_;repeat' first|simp only[go_sem,seval]|refine cP h ?_|refine sB ?_|(first|apply pX|apply bX)<;>intro hc|refine⟨oD,?_⟩|exact oD|fail
 all_goals rfl
theorem tAdd_ok (st l d:Bytes) (h1:st.length≤100000) (h2:l.length≤100000) (h3:d.length≤100000):EvP Tryz.prog 188 [.s st, .s l, .s d] (.s (trAdd st l d)):=by
 have h:=plain_ok 65 (c:=65) rfl [st,l,d] (by simp) (by simp) (by intro s hs;simp at hs;rcases hs with rfl|rfl|rfl<;>assumption)
 simp only[List.map_cons,List.map_nil]at h;refine eW Tryz.call188 Tryz.func188 ?_;repeat' first|simp only[go_sem,seval]|refine cP h ?_|refine sB ?_|(first|apply pX|apply bX)<;>intro hc|refine⟨oD,?_⟩|exact oD|fail
 all_goals rfl
theorem tNats_ok (st l:Bytes) (xs:List Bytes) (h1:st.length≤100000) (h2:l.length≤100000) (h0:xs≠[]) (hn:xs.length≤900) (h3: ∀x∈xs,x.length≤100000):EvP Tryz.prog 192 [.s st, .s l, .sl (xs.map .s)] (.s (trNats st l xs)):=by
 have h:=framedN 76 (c:=76) rfl [st,l] xs h0 (by simp;omega) (by intro s hs;simp at hs;rcases hs with rfl|rfl|hs<;>first|assumption|exact h3 s hs)
 simp only[List.map_cons,List.map_nil]at h;refine eW Tryz.call192 Tryz.func192 ?_;repeat' first|simp only[go_sem,seval]|refine cP h ?_|refine sB ?_|(first|apply pX|apply bX)<;>intro hc|refine⟨oD,?_⟩|exact oD|fail
 all_goals rfl
theorem tInts_ok (st l:Bytes) (n:Bool) (a:Bytes) (h1:st.length≤100000) (h2:l.length≤100000) (h3:a.length≤99999):EvP Tryz.prog 270 [.s st, .s l, .sl [.agg [.b n, .s a]]] (.s (trInts st l [(n,a)])):=by
 have h:=framedI 73 (c:=73) rfl [st,l] n a (by simp) (by intro s hs;simp at hs;rcases hs with rfl|rfl|rfl<;>first|assumption|(simp[intS];omega))
 simp only[List.map_cons,List.map_nil]at h;refine eW Tryz.call270 Tryz.func270 ?_;repeat' first|simp only[go_sem,seval]|refine cP h ?_|refine sB ?_|(first|apply pX|apply bX)<;>intro hc|refine⟨oD,?_⟩|exact oD|fail
 all_goals rfl
theorem W64_LIM:18446744073709551616+18446744073709551616<LIM:=by decide+kernel
theorem plusN {a b m:Nat} (ha:a<m) (hb:b<m) (hm:m<18446744073709551616):EvP Tryz.prog 230 [N a,N b,N m] (N ((a+b)%m)):=by
 have hW:=W64_LIM;have h1:=subN (a:=m) (b:=b) (by omega) (by omega)
 have h2:=cmpNN (a:=a) (b:=m-b) (by omega) (by omega)
 by_cases hge:m-b≤a
 ·have h3:=subN (a:=a) (b:=m-b) hge (by omega)
  have h4: ∀ _:True,(0:Int)≤cmpN a (m-b):=fun _=>cmpN_ge.2 hge
  have h5: ∀ _:True,decide (cmpN a (m-b)≥0)=true:=fun _=>decide_eq_true (h4 trivial)
  have e:(a+b)%m=a-(m-b):=by rw[show a+b=(a-(m-b))+m by omega,Nat.add_mod_right,Nat.mod_eq_of_lt (by omega)]
  rw[e];generalize cmpN a (m-b)=cm at*;refine eW Tryz.call230 Tryz.func230 ?_;repeat' first|simp only[go_sem,seval,h5 trivial]|refine cP h1 ?_|refine cP h2 ?_|refine cP h3 ?_|refine sB ?_|(first|apply pX|apply bX)<;>intro hc|refine⟨oD,?_⟩|exact oD|fail
 ·have h3:=addN (a:=a) (b:=b) (by omega)
  have h4: ∀ _:True,¬(0:Int)≤cmpN a (m-b):=fun _ h=>hge (cmpN_ge.1 h)
  have h5: ∀ _:True,decide (cmpN a (m-b)≥0)=false:=fun _=>decide_eq_false (h4 trivial)
  rw[Nat.mod_eq_of_lt (by omega)]
  generalize cmpN a (m-b)=cm at*;refine eW Tryz.call230 Tryz.func230 ?_;repeat' first|simp only[go_sem,seval,h5 trivial]|refine cP h1 ?_|refine cP h2 ?_|refine cP h3 ?_|refine sB ?_|(first|apply pX|apply bX)<;>intro hc|refine⟨oD,?_⟩|exact oD|fail
theorem mAddN {a b m:Nat} (ha:a<18446744073709551616) (hb:b<18446744073709551616) (hm:m<18446744073709551616) (h0:0<m):EvP Tryz.prog 149 [N a,N b,N m] (.tup [N ((a+b)%m),E 0]):=by
 have hc:=fun nm=>check2 nm (bts a) (bts b) (bts m)
 rw[chk2N ha (vN hb) hm h0]at hc;have hp:=plusN (a:=a%m) (b:=b%m) (m:=m) (Nat.mod_lt _ h0) (Nat.mod_lt _ h0) hm;rw[←Nat.add_mod]at hp;refine eW Tryz.call149 Tryz.func149 ?_;repeat' first|simp only[go_sem,seval]|(refine CR_eff (hc _) (by simp) ?_)|refine cP (reducedN ha hm h0) ?_|refine cP (reducedN hb hm h0) ?_|refine cP hp ?_|refine sB ?_|(first|apply pX|apply bX)<;>intro hc|refine⟨oD,?_⟩|exact oD|fail
abbrev SB:TypeId:=317
theorem tChallenge_ok (st b:Bytes) (hs:st.length≤100000) (vb:validN b=true) (b0:b≠[]) (lb:b.length≤8):EvP Tryz.prog 193 [.s st, .s b] (.tup [N (trChal st b),E 0]):=by
 have hv:=natValid b;rw[vb]at hv;have hbb:(b==([]:Bytes))=false:=by simpa using b0
 have w1:=fun nm=>lenF SB 1007 nm
 have w2:=fun nm=>eightF 1014 nm 0 (by decide)
 have w3:=fun nm=>strB FR 1014 1016 nm 7 (be 8 0) (by decide) (by decide) (by decide)
 have hp:=plain_ok 67 (c:=67) rfl [st,be 8 0] (by simp) (by simp) (by intro s hs';simp at hs';rcases hs' with rfl|rfl;exact hs;simp[be_len])
 simp only[List.map_cons,List.map_nil]at hp;have hp:EvP Tryz.prog 269 [.i .u8 67, .sl [.s st, .s (be 8 0)]] (.s (trCode st)):=hp;have hcl:=trCode_len st;have htr:trChal st b=num ((trCode st).take (b.length+8))%num b:=rfl;rw[htr];generalize trCode st=code at*;have w4:=fun nm=>wsF SB lies0 1007 nm code (by omega) (by omega)
 have w5:=fun nm=>lenB SB 1007 1022 nm 0 code (by decide)
 have w6:=fun nm=>strB SB 1007 1022 nm 0 code (by decide) (by omega) (by omega)
 have hd1: ∀ _:True,decide ((0:Int)<(b.length:Int)+8)=true:=fun _=>by simp;omega
 refine eW Tryz.call193 Tryz.func193 ?_;repeat' first|simp only[go_sem,seval,hbb]|refine cP hv ?_|refine sB ?_|(first|apply pX|apply bX)<;>intro hc|refine⟨oD,?_⟩|exact oD|fail
 refine loop_unroll' ?_;repeat' first|simp only[go_sem,seval,hbb,hd1 trivial]|(refine CR_eff (w1 _) (by simp[hget,bF]) ?_)|(refine CR_eff (w2 _) (by simp[hget,bF]) ?_)|(refine CR_eff (w3 _) (by simp[hget]) ?_)|(refine CR_eff (w4 _) (by simp[hget,bF]) ?_)|refine cP hp ?_|refine sB ?_|(first|apply pX|apply bX)<;>intro hc|refine⟨oD,?_⟩|exact oD|fail
 refine loop_unroll' ?_;have hd2: ∀ _:True,decide ((32:Int)<(b.length:Int)+8)=false:=fun _=>by simp;omega
 have ht8: ∀ _:True,((b.length:Int)+8).toNat=b.length+8:=fun _=>by omega
 rw[hcl]at w5;repeat' first|simp only[go_sem,seval,hcl,hd2 trivial,ht8 trivial]|(refine CR_eff (w5 _) (by simp[hget]) ?_)|(refine CR_eff (w6 _) (by simp[hget]) ?_)|refine sB ?_|(first|apply pX|apply bX)<;>intro hc|refine⟨oD,?_⟩|exact oD|fail
 have hll:(code.take (b.length+8)).length≤32:=by rw[List.length_take];omega
 generalize code.take (b.length+8)=l at hll⊢;have hm:=num8 lb;have hm0:0<num b:=by
  rcases Nat.eq_zero_or_pos (num b)with h|h
  ·exact absurd (by have:=N_of vb;rw[h]at this;injection this with h1;exact h1.symm) b0
  ·exact h
 have hN:(.s b:PV)=N (num b):=(N_of vb).symm;rw[hN];generalize num b=m at*;have h256:EvP Tryz.prog 31 [.i .u64 256] (N 256):=Of_ok 256 (by decide)
 clear w1 w2 w3 w4 w5 w6 hp hd1 hd2 ht8 hv;refine loop_run (α:=Nat) (fun i=>l.length-i) (fun i=>⟨[(1, .v (N m)),(9, .v (N (num (l.take i)%m))),(37, .v (.sl (l.map u8))),(38,E' l.length),(39,E' i)],[],_⟩) (fun i=>i≤l.length) 0 (fun _=>Nat.le_refl _) (Nat.zero_le _) ?_ ?_
 ·(refine AS.Le.of (by first|decide|omega) ?_ ?_<;>simp[LeT,LeH,tget,hget,AV.bd,AV.bd.bdL,u8,bd_cellsOf,bcells_bd,icells_bd])
  all_goals (rw[show num []=0 from rfl,Nat.zero_mod];rfl)
 ·intro i hi R hR
  by_cases hit:i<l.length
  ·have e2:=getD_map u8 l 0 hit;have hgo:=hR (i+1) (by omega) (by omega)
   rw[num_take_succ hit]at hgo;have hc:(l.getD i 0).toNat<256:=(l.getD i 0).toNat_lt;have hou:EvP Tryz.prog 31 [.i .u64 ((l.getD i 0).toNat:Nat)] (N (l.getD i 0).toNat):=Of_ok _ (by omega)
   have w1: ∀ _:True,IntKind.u64.wrap (((l.getD i 0).toNat:Nat):Int)=(((l.getD i 0).toNat:Nat):Int):=fun _=>by rw[wu64];omega
   generalize (l.getD i 0)=y at*;generalize num (l.take i)=x at*;have hx:x%m<m:=Nat.mod_lt _ hm0;have hx2:x%m*256%m<m:=Nat.mod_lt _ hm0;have h1:=mMulN (a:=x%m) (b:=256) (m:=m) (by omega) (by decide) hm hm0
   have h2:=mAddN (a:=x%m*256%m) (b:=y.toNat) (m:=m) (by omega) (by omega) hm hm0
   have e:(x%m*256%m+y.toNat)%m=(x*256+y.toNat)%m:=by
    rw[Nat.add_mod,Nat.mod_mod,←Nat.add_mod,Nat.add_mod (x%m*256),Nat.mod_mul_mod,←Nat.add_mod]
   rw[e]at h2;clear hR hi e;repeat' first|simp only[go_sem,seval,e2,w1 trivial]|refine cP h256 ?_|refine cP h1 ?_|refine cP h2 ?_|refine cP hou ?_|refine sB ?_|(first|apply pX|apply bX)<;>intro hc|refine⟨oD,?_⟩|exact oD|fail
   all_goals (refine hgo _ ?_)
   (refine AS.Le.of (by first|decide|omega) ?_ ?_<;>simp[LeT,LeH,tget,hget,AV.bd,AV.bd.bdL,u8,bd_cellsOf,bcells_bd,icells_bd])
   all_goals first|omega|skip
  ·have h:i=l.length:=by omega
   rw[h,List.take_length];repeat' first|simp only[go_sem,seval]|refine sB ?_|(first|apply pX|apply bX)<;>intro hc|refine⟨oD,?_⟩|exact oD|fail
end Go.Proofs.YtmobkhegihemeaaGreatDoor
namespace Go.Proofs.YtmobkhegihemeaaGreatDoor
open Go Go.Dom Go.Num
set_option maxRecDepth 100000
set_option maxHeartbeats 16000000
theorem subM {a b m:Nat} (h0:0<m):(((a:Int)-b)%m).toNat=if b%m=0 then a%m else(a%m+(m-b%m))%m:=by
 have h1:((a:Int)-b)%m=(((a%m:Nat):Int)-((b%m:Nat):Int))%m:=by rw[Int.natCast_emod,Int.natCast_emod,←Int.sub_emod]
 have hb:=Nat.mod_lt b h0;rw[h1];split
 ·rename_i h;rw[h,show(((a%m:Nat):Int)-((0:Nat):Int))=((a%m:Nat):Int) by omega,←Int.natCast_emod,Int.toNat_natCast,Nat.mod_mod]
 ·rw[←Int.add_emod_right,show(((a%m:Nat):Int)-((b%m:Nat):Int)+(m:Int))=((a%m+(m-b%m):Nat):Int) by omega,←Int.natCast_emod,Int.toNat_natCast]
theorem mSubN {a b m:Nat} (ha:a<18446744073709551616) (hb:b<18446744073709551616) (hm:m<18446744073709551616) (h0:0<m):EvP Tryz.prog 219 [N a,N b,N m] (.tup [N (((a:Int)-b)%m).toNat,E 0]):=by
 have hW:=W64_LIM;have hc:=fun nm=>check2 nm (bts a) (bts b) (bts m)
 rw[chk2N ha (vN hb) hm h0]at hc;have r1:=reducedN ha hm h0;have r2:=reducedN hb hm h0;have hlb:=Nat.mod_lt b h0;rw[subM h0]
 by_cases hz:b%m=0
 ·rw[if_pos hz];rw[hz]at r2;have z0:(bts 0==([]:Bytes))=true:=by decide
  refine eW Tryz.call219 Tryz.func219 ?_;repeat' first|simp only[go_sem,seval,z0]|(refine CR_eff (hc _) (by simp) ?_)|refine cP r1 ?_|refine cP r2 ?_|refine sB ?_|(first|apply pX|apply bX)<;>intro hc|refine⟨oD,?_⟩|exact oD|fail
 ·rw[if_neg hz];have hs:=subN (a:=m) (b:=b%m) (by omega) (by omega)
  have hp:=plusN (a:=a%m) (b:=m-b%m) (m:=m) (Nat.mod_lt _ h0) (by omega) hm
  have en:(bts (b%m)==([]:Bytes))=false:=nilF (by omega)
  refine eW Tryz.call219 Tryz.func219 ?_;repeat' first|simp only[go_sem,seval,en]|(refine CR_eff (hc _) (by simp) ?_)|refine cP r1 ?_|refine cP r2 ?_|refine cP hs ?_|refine cP hp ?_|refine sB ?_|(first|apply pX|apply bX)<;>intro hc|refine⟨oD,?_⟩|exact oD|fail
end Go.Proofs.YtmobkhegihemeaaGreatDoor
namespace Go.Proofs.YtmobkhegihemeaaGreatDoor
open Go Go.Dom
set_option maxRecDepth 100000
set_option maxHeartbeats 16000000
def tm1 (b:Bytes) (i:Nat):Trm:=⟨b,i,false,[1]⟩
structure OneS (s:Stm):Prop where
 l:s.eqs.length=s.vars.length
 t: ∀i,i<s.eqs.length→ ∃b,(s.eqs.getD i d0Q).terms=[tm1 b i]

end Go.Proofs.YtmobkhegihemeaaGreatDoor
namespace Go.Proofs.YtmobkhegihemeaaGreatDoor
open Go Go.Dom Go.Num
set_option maxRecDepth 100000
set_option maxHeartbeats 16000000
theorem all_bad {n i:Nat} {p:Nat→Bool} (hi:i<n) (h:p i=false):(List.range n).all p=false:=by
 rw[Bool.eq_false_iff];intro g;have:=List.all_eq_true.1 g i (List.mem_range.2 hi);rw[h]at this;cases this
theorem all_good {n:Nat} {p:Nat→Bool} (h: ∀i,i<n→p i=true):(List.range n).all p=true:=by
 rw[List.all_eq_true];intro i hi;exact h i (List.mem_range.1 hi)
theorem eq_tgts {L:List Bytes} {es:List Eqn} (hl:L.length=es.length) (h: ∀j,j<es.length→L.getD j []=(es.getD j d0Q).tgt):L=es.map (·.tgt):=by
 refine List.ext_getElem (by simpa using hl) fun j h1 h2=> ?_
 have h2:j<es.length:=by simpa using h2
 have:=h j h2;rw[List.getD_eq_getElem?_getD,List.getD_eq_getElem?_getD,List.getElem?_eq_getElem h1,List.getElem?_eq_getElem h2]at this;simpa using this
end Go.Proofs.YtmobkhegihemeaaGreatDoor
namespace Go.Proofs.YtmobkhegihemeaaGreatDoor
open Go Go.Dom
set_option maxRecDepth 100000
set_option maxHeartbeats 16000000
theorem w0:IntKind.u32.wrap 0=0:=rfl
def m8 (x c:Nat):Nat:=(x*256+c)%4294967296

end Go.Proofs.YtmobkhegihemeaaGreatDoor
namespace Go.Proofs.YtmobkhegihemeaaGreatDoor
open Go Go.Dom
set_option maxRecDepth 100000
set_option maxHeartbeats 4000000
theorem rValid_ok (a:Bytes):EvP Tryz.prog 34 [.s a] (.b (validN a)):=by
 rw[validN_eq];refine eW Tryz.call34 Tryz.func34 ?_;repeat' first|simp only[go_sem,seval]|refine sB ?_|(first|apply pX|apply bX)<;>intro hc|refine⟨oD,?_⟩|exact oD|fail
 all_goals simp_all
 all_goals first|omega|(cases a<;>simp_all)
theorem trimB_drop (l:Bytes) {i:Nat} (hi:i<l.length) (h:l.getD i 0=0):trimB (l.drop i)=trimB (l.drop (i+1)):=by
 rw[List.drop_eq_getElem_cons hi,trimB,if_pos (by rw[←h,List.getD_eq_getElem?_getD,List.getElem?_eq_getElem hi];rfl)]
theorem trimB_stop (l:Bytes) {i:Nat} (hi:i<l.length) (h:l.getD i 0≠0):trimB (l.drop i)=l.drop i:=by
 rw[List.drop_eq_getElem_cons hi,trimB,if_neg (by rw[List.getD_eq_getElem?_getD,List.getElem?_eq_getElem hi]at h;exact h)]
theorem rTrim_ok (l:Bytes) (hl:l.length<4611686018427387904):EvP Tryz.prog 88 [.sl (l.map u8)] (.s (trimB l)):=by
 refine eW Tryz.call88 Tryz.func88 ?_;simp only[go_sem,seval];refine loop_run (α:=Nat) (fun i=>l.length-i) (fun i=>⟨[(0, .v (.sl (l.map u8))),(3, .v (.i .i64 i))],[],_⟩) (fun i=>i≤l.length∧trimB (l.drop i)=trimB l) 0 (fun _=>Nat.le_refl _) ⟨Nat.zero_le _,rfl⟩ ?_ ?_
 ·exact lE
 ·rintro i ⟨hi,hx⟩ R hR
  by_cases hlt:i<l.length
  ·have e1:=getD_u8 hlt
   by_cases h0:l.getD i 0=0
   ·have e2: ∀ _:True,(((l.getD i 0).toNat:Int)==0)=true:=fun _=>by rw[h0];rfl
    repeat' first|simp only[go_sem,seval,e1,e2 trivial]|refine sB ?_|(first|apply pX|apply bX)<;>intro hc|refine⟨oD,?_⟩|exact oD|fail
    refine hR (i+1) ⟨by omega,by rw[←hx,trimB_drop l hlt h0]⟩ (by omega) _ ?_
    exact lE
   ·have e2: ∀ _:True,(((l.getD i 0).toNat:Int)==0)=false:=fun _=>by
     rw[beq_eq_false_iff_ne];intro e;exact h0 (u8z e)
    rw[←hx,trimB_stop l hlt h0];repeat' first|simp only[go_sem,seval,e1,e2 trivial]|refine sB ?_|(first|apply pX|apply bX)<;>intro hc|refine⟨oD,?_⟩|exact oD|fail
    refine⟨⟨by omega,fun x hx=>cells_u8 hx⟩,fun y hy=>isByte_u8 (List.mem_of_mem_drop hy),?_⟩
    rw[←List.map_drop,bytes_u8]
  ·obtain rfl:i=l.length:=by omega
   rw[←hx];repeat' first|simp only[go_sem,seval]|refine sB ?_|(first|apply pX|apply bX)<;>intro hc|refine⟨oD,?_⟩|exact oD|fail
   refine⟨⟨by omega,fun x hx=>cells_u8 hx⟩,fun y hy=>isByte_u8 (List.mem_of_mem_drop hy),?_⟩
   rw[←List.map_drop,bytes_u8,List.drop_length];rfl
theorem rOf_ok (n:Nat) (hn:n<18446744073709551616):EvP Tryz.prog 39 [.i .u64 n] (.s (bts n)):=by
 refine eW Tryz.call39 Tryz.func39 ?_;repeat' first|simp only[go_sem,seval]|refine sB ?_|(first|apply pX|apply bX)<;>intro hc|refine⟨oD,?_⟩|exact oD|fail
 refine loop_run (α:=Nat) (fun i=>8-i) (fun i=>⟨[(0, .v (.i .u64 (n/256^i:Nat))),(3, .rs 1001 0 0 8 1),(4, .v (.i .i64 (7-(i:Int))))],[(1001,⟨0,bcells (List.replicate (8-i) 0++be i n),false,none⟩)],_⟩) (fun i=>i≤8) 0 (fun _=>Nat.le_refl _) (Nat.zero_le _) ?_ ?_
 ·(refine AS.Le.of (by first|decide|omega) ?_ ?_<;>simp[LeT,LeH,tget,hget,AV.bd,AV.bd.bdL,u8,bd_cellsOf,bcells_bd,icells_bd])
  all_goals rfl
 ·intro i hi R hR;have hl:(List.replicate (8-i) (0:UInt8)++be i n).length=8:=by simp[be_len];omega
  have hle:n/256^i≤n:=Nat.div_le_self _ _
  by_cases hlt:i<8
  ·have e2: ∀ _:True,((7:Int)-i).toNat=8-1-i:=fun _=>by omega
   have e3: ∀ _:True,n/256^i/256=n/256^(i+1):=fun _=>by rw[Nat.div_div_eq_div_mul,←Nat.pow_succ]
   have hle2:n/256^(i+1)≤n:=Nat.div_le_self _ _;have e4: ∀ _:True,IntKind.u64.wrap ((n/256^(i+1):Nat):Int)=((n/256^(i+1):Nat):Int):=fun _=>by
    generalize n/256^(i+1)=z at hle2⊢;exact IntWalk.u64_in _ (by omega)
   repeat' first|simp only[go_sem,seval,hl,e3 trivial,e4 trivial]|refine sB ?_|(first|apply pX|apply bX)<;>intro hc|refine⟨oD,?_⟩|exact oD|fail
   refine hR (i+1) (by omega) (by omega) _ ?_
   rw[e2 trivial,bput (c:=UInt8.ofNat (n/256^i)) (by omega) (by rw[wu8_nat,UInt8.toNat_ofNat',UInt8.toNat_ofNat',Nat.mod_mod]),fill_set hlt]
   (refine AS.Le.of (by first|decide|omega) ?_ ?_<;>simp[LeT,LeH,tget,hget,AV.bd,AV.bd.bdL,u8,bd_cellsOf,bcells_bd,icells_bd])
   all_goals first|omega|rfl|skip
  ·obtain rfl:i=8:=by omega
   have:=rTrim_ok (be 8 n) (by rw[be_len];decide)
   have hl:(be 8 n).length=8:=be_len 8 n;repeat' first|simp only[go_sem,seval,hl]|(refine CR_bytes this rfl rfl hl.symm ?_)|refine sB ?_|(first|apply pX|apply bX)<;>intro hc|refine⟨oD,?_⟩|exact oD|fail
   rw[trim_be (by omega)]
theorem rU64_ok (a:Bytes) (hl:a.length≤8):EvP Tryz.prog 53 [.s a] (.i .u64 (num a)):=by
 refine eW Tryz.call53 Tryz.func53 ?_;repeat' first|simp only[go_sem,seval]|refine sB ?_|(first|apply pX|apply bX)<;>intro hc|refine⟨oD,?_⟩|exact oD|fail
 refine loop_run (α:=Nat) (fun i=>a.length-i) (fun i=>⟨[(0, .v (.s a)),(3, .v (.i .u64 (num (a.take i)))),(4, .v (.i .i64 i))],[],_⟩) (fun i=>i≤a.length) 0 (fun _=>Nat.le_refl _) (Nat.zero_le _) ?_ ?_
 ·(refine AS.Le.of (by first|decide|omega) ?_ ?_<;>simp[LeT,LeH,tget,hget,AV.bd,AV.bd.bdL,u8,bd_cellsOf,bcells_bd,icells_bd])
  all_goals rfl
 ·intro i hi R hR
  by_cases hlt:i<a.length
  ·have h1:=num_take_succ hlt;have h2:=num_lt (a.take (i+1));have h3:(256:Nat)^(a.take (i+1)).length≤256^8:=Nat.pow_le_pow_right (by decide) (by simp;omega)
   repeat' first|simp only[go_sem,seval]|refine sB ?_|(first|apply pX|apply bX)<;>intro hc|refine⟨oD,?_⟩|exact oD|fail
   refine hR (i+1) (by omega) (by omega) _ ?_
   rw[h1]
   (refine AS.Le.of (by first|decide|omega) ?_ ?_<;>simp[LeT,LeH,tget,hget,AV.bd,AV.bd.bdL,u8,bd_cellsOf,bcells_bd,icells_bd])
   all_goals first|omega|rfl|skip
  ·obtain rfl:i=a.length:=by omega
   rw[List.take_length];repeat' first|simp only[go_sem,seval]|refine sB ?_|(first|apply pX|apply bX)<;>intro hc|refine⟨oD,?_⟩|exact oD|fail
end Go.Proofs.YtmobkhegihemeaaGreatDoor
namespace Go.Proofs.YtmobkhegihemeaaGreatDoor
open Go Go.Dom
set_option maxRecDepth 100000
set_option maxHeartbeats 8000000

theorem blen_lt (n:Nat):n<2^blen n:=by
 unfold blen;split
 ·rename_i h;rw[h];decide
 ·exact Nat.lt_log2_self
theorem rSmall_ok (a:Bytes):EvP Tryz.prog 16 [.s a] (.tup [.i .u64 (if validN a&&decide (a.length≤8)then num a else 0), .b (validN a&&decide (a.length≤8))]):=by
 by_cases h:validN a=true∧a.length≤8
 ·have hu:=rU64_ok a h.2;refine eW Tryz.call16 Tryz.func16 ?_;repeat' first|simp only[go_sem,seval]|refine cP (rValid_ok _) ?_|refine cP hu ?_|refine sB ?_|(first|apply pX|apply bX)<;>intro hc|refine⟨oD,?_⟩|exact oD|fail
  all_goals simp_all
 ·refine eW Tryz.call16 Tryz.func16 ?_;repeat' first|simp only[go_sem,seval]|refine cP (rValid_ok _) ?_|refine sB ?_|(first|apply pX|apply bX)<;>intro hc|refine⟨oD,?_⟩|exact oD|fail
  all_goals simp_all
  all_goals omega
end Go.Proofs.YtmobkhegihemeaaGreatDoor
namespace Go.Proofs.YtmobkhegihemeaaGreatDoor
open Go Go.Dom
set_option maxRecDepth 100000
set_option maxHeartbeats 16000000


abbrev sVar:Bytes:=[118,97,114,105,97,98,108,101]
abbrev sBase:Bytes:=[98,97,115,101]
abbrev sCoef:Bytes:=[99,111,101,102,102,105,99,105,101,110,116]
abbrev sEqn:Bytes:=[101,113,117,97,116,105,111,110]
abbrev sTgt:Bytes:=[116,97,114,103,101,116]
abbrev sGrps:Bytes:=[103,114,111,117,112,115]
abbrev sBnds:Bytes:=[98,111,117,110,100,115]
def bindT (st:Bytes) (t:Trm):Bytes:=trInts (trNats (trAdd st sVar (decN t.var.toNat)) sBase [t.base]) sCoef [(t.neg,t.abs)]
def bindE (st:Bytes) (q:Eqn):Bytes:=q.terms.foldl bindT (trNats (trAdd st sEqn (decN q.grp.toNat)) sTgt [q.tgt])
def bindS (st:Bytes) (s:Stm):Bytes:=s.eqs.foldl bindE (trNats (trNats st sGrps (s.groups.flatMap fun g=>[g.1,g.2])) sBnds s.vars)
structure BdS (s:Stm):Prop where
 g: ∃m o,s.groups=[(m,o)]∧m.length≤1000∧o.length≤1000
 v0:s.vars≠[]
 nv:s.vars.length≤64
 v: ∀b∈s.vars,b.length≤1000
 ne:s.eqs.length≤64
 q: ∀q∈s.eqs,0≤q.grp∧q.grp<100∧q.tgt.length≤1000∧ ∃t,q.terms=[t]∧0≤t.var∧t.var<100∧t.base.length≤1000∧t.abs.length≤1000
theorem foldl_take {α β:Type} (f:β→α→β) (b:β) {l:List α} {i:Nat} (d:α) (h:i<l.length):(l.take (i+1)).foldl f b=f ((l.take i).foldl f b) (l.getD i d):=by
 rw[take_succ_getD d h,List.foldl_append];rfl
theorem CR_vrow2 {P:Program} [Tabs P] {Q:AX→AS→Prop} {nx:Nat} {bf:Option (List Nat)} {nn:Nat} {d:Option Nat} {ops:List SOp} {k:Nat} {s:AS} {tr:List (Nat×List Nat×List Nat)} {K:List Fr} {nm:Nat} {f:FuncId} {α:Type} {g:α→PV} {z n ver m:Nat} {l:List α} {gr:Bool} {el:Option TypeId} {x y r:PV}
  (he:EvP P f [x,y, .sl (l.map g)] r) (hrow:RowOK g z) (hr:r.flat=true) (hg:hget s.h n=some ⟨ver,rowF g l,gr,el⟩) (hm:m=l.length) (hK:RW P Q nx bf nn ops (k+1) (s.upd d (.v r) []) (trU bf k [n] [] tr) K):
  CR P Q nx bf nn nm (.v (.fn (.func f))) [.v x, .v y, .rs n ver 0 m z] d ops k s tr K:=by
 refine CR_view he ?_ hr ?_
 ·simp[mapO,view_rowF hrow hm hg];rfl
 ·have:[AV.v x,AV.v y,AV.rs n ver 0 m z].flatMap (viewN (hget s.h) 9)=[n]:=by simp[viewN_rowF hrow hm hg];rfl
  rw[this];exact hK

abbrev F0:PV:= .agg [.sl []]
abbrev C0:PV:= .agg [.sl [], .sl []]
theorem leaves0:EvP Tryz.prog 271 [F0] (.tup [E 0, .b true]):=by
 refine eW Tryz.call271 Tryz.func271 ?_;repeat' first|simp only[go_sem,seval]|refine sB ?_|(first|apply pX|apply bX)<;>intro hc|refine⟨oD,?_⟩|exact oD|fail
theorem fCheck0:EvP Tryz.prog 248 [F0,E 0] (E 0):=by
 refine eW Tryz.call248 Tryz.func248 ?_;repeat' first|simp only[go_sem,seval]|refine cP leaves0 ?_|refine sB ?_|(first|apply pX|apply bX)<;>intro hc|refine⟨oD,?_⟩|exact oD|fail
theorem fText0:EvP Tryz.prog 191 [F0] (.tup [.s [],E 0]):=by
 refine eW Tryz.call191 Tryz.func191 ?_;repeat' first|simp only[go_sem,seval]|refine cP leaves0 ?_|refine sB ?_|(first|apply pX|apply bX)<;>intro hc|refine⟨oD,?_⟩|exact oD|fail
theorem bCheck0:EvP Tryz.prog 169 [C0] (E 0):=by
 refine eW Tryz.call169 Tryz.func169 ?_;repeat' first|simp only[go_sem,seval]|refine cP fCheck0 ?_|(refine loop_unroll' ?_)|refine sB ?_|(first|apply pX|apply bX)<;>intro hc|refine⟨oD,?_⟩|exact oD|fail
end Go.Proofs.YtmobkhegihemeaaGreatDoor
namespace Go.Proofs.YtmobkhegihemeaaGreatDoor
open Go Go.Dom Go.Num
set_option maxRecDepth 100000
set_option maxHeartbeats 16000000
theorem limR_lt {c sl b:Bytes} (hr:RuOK c sl) (hb:b.length≤16):limR c sl b<LIM:=Nat.lt_of_le_of_lt (Nat.sub_le _ _) (limM_lt hr hb)
end Go.Proofs.YtmobkhegihemeaaGreatDoor
namespace Go.Proofs.YtmobkhegihemeaaGreatDoor
open Go Go.Dom
set_option maxRecDepth 100000
set_option maxHeartbeats 8000000

end Go.Proofs.YtmobkhegihemeaaGreatDoor
namespace Go.Proofs.YtmobkhegihemeaaGreatDoor
open Go Go.Dom Go.Num
set_option maxRecDepth 100000
set_option maxHeartbeats 8000000

end Go.Proofs.YtmobkhegihemeaaGreatDoor
namespace Go.Proofs.YtmobkhegihemeaaGreatDoor
open Go Go.Dom Go.Num
set_option maxRecDepth 100000
set_option maxHeartbeats 16000000





end Go.Proofs.YtmobkhegihemeaaGreatDoor
namespace Go.Proofs.YtmobkhegihemeaaGreatDoor
open Go Go.Dom
set_option maxRecDepth 100000
set_option maxHeartbeats 16000000
def lpv (l:List (Bool×Bytes)):PV:= .sl (l.map ipv)
theorem IndexFuncNN_ok (l:List (Bytes)) (f:FuncId) (p:Bytes→Bool) (hl:l.length<4611686018427387904) (h: ∀x,EvP Tryz.prog f [PV.s x] (.b (p x))):EvP Tryz.prog 312 [.sl (l.map PV.s), .fn (.func f)] (E (idxF p 0 l)):=by
 have hlm:(l.map PV.s).length=l.length:=List.length_map ..;refine eW Tryz.call312 Tryz.func312 ?_;repeat' first|simp only[go_sem,seval,hlm]|refine sB ?_|(first|apply pX|apply bX)<;>intro hc|refine⟨oD,?_⟩|exact oD|fail
 refine loop_run (α:=Nat) (fun i=>l.length-i) (fun i=>⟨[(0, .v (.sl (l.map PV.s))),(1, .v (.fn (.func f))),(7, .v (.i .i64 l.length)),(8, .v (.i .i64 (i:Nat)))],[],_⟩) (fun i=>i≤l.length∧idxF p i (l.drop i)=idxF p 0 l) 0 (fun _=>Nat.le_refl _) ⟨Nat.zero_le _,rfl⟩ ?_ ?_
 ·exact lE
 ·rintro i ⟨hi,hx⟩ R hR;rw[←hx]
  by_cases hlt:i<l.length
  ·have e1:=getD_map PV.s l [] hlt;have hf:=h (l.getD i []);have hgo:=hR (i+1);rw[←hx,drop_getD [] hlt]at hgo;rw[drop_getD [] hlt];simp only[idxF]at hgo⊢;clear hx hR h;generalize p (l.getD i [])=b at*;generalize l.getD i []=x at*;cases b
   ·have hgo:=hgo ⟨by omega,rfl⟩ (by omega)
    repeat' first|simp only[go_sem,seval,hlm,e1]|refine cP hf ?_|refine sB ?_|(first|apply pX|apply bX)<;>intro hc|refine⟨oD,?_⟩|exact oD|fail
    refine hgo _ ?_;exact lE
   ·repeat' first|simp only[go_sem,seval,hlm,e1]|refine cP hf ?_|refine sB ?_|(first|apply pX|apply bX)<;>intro hc|refine⟨oD,?_⟩|exact oD|fail
    all_goals rfl
  ·obtain rfl:i=l.length:=by omega
   rw[List.drop_length];repeat' first|simp only[go_sem,seval,hlm]|refine sB ?_|(first|apply pX|apply bX)<;>intro hc|refine⟨oD,?_⟩|exact oD|fail
   all_goals simp[idxF]
theorem ContainsFuncNN_ok (l:List (Bytes)) (f:FuncId) (p:Bytes→Bool) (hl:l.length<4611686018427387904) (h: ∀x,EvP Tryz.prog f [PV.s x] (.b (p x))):EvP Tryz.prog 245 [.sl (l.map PV.s), .fn (.func f)] (.b (l.any p)):=by
 have hi:=IndexFuncNN_ok l f p hl h;have e:decide (idxF p 0 l≥0)=l.any p:=by
  rw[Bool.eq_iff_iff,decide_eq_true_iff];exact idxF_neg
 refine eW Tryz.call245 Tryz.func245 ?_;repeat' first|simp only[go_sem,seval,e]|refine cP hi ?_|refine sB ?_|(first|apply pX|apply bX)<;>intro hc|refine⟨oD,?_⟩|exact oD|fail
theorem IndexFuncL_ok (l:List (List (Bool×Bytes))) (f:FuncId) (c:List PV) (p:List (Bool×Bytes)→Bool) (hl:l.length<4611686018427387904) (h: ∀x∈l,EvP Tryz.prog f (lpv x::c) (.b (p x))):EvP Tryz.prog 252 [.sl (l.map lpv), .fc f [] c] (E (idxF p 0 l)):=by
 have hlm:(l.map lpv).length=l.length:=List.length_map ..;refine eW Tryz.call252 Tryz.func252 ?_;repeat' first|simp only[go_sem,seval,hlm]|refine sB ?_|(first|apply pX|apply bX)<;>intro hc|refine⟨oD,?_⟩|exact oD|fail
 refine loop_run (α:=Nat) (fun i=>l.length-i) (fun i=>⟨[(0, .v (.sl (l.map lpv))),(1, .v (.fc f [] c)),(7, .v (.i .i64 l.length)),(8, .v (.i .i64 (i:Nat)))],[],_⟩) (fun i=>i≤l.length∧idxF p i (l.drop i)=idxF p 0 l) 0 (fun _=>Nat.le_refl _) ⟨Nat.zero_le _,rfl⟩ ?_ ?_
 ·exact lE
 ·rintro i ⟨hi,hx⟩ R hR;rw[←hx]
  by_cases hlt:i<l.length
  ·have e1:=getD_map lpv l [] hlt;have hf:=h (l.getD i []) (mem_getD [] hlt);have hgo:=hR (i+1);rw[←hx,drop_getD [] hlt]at hgo;rw[drop_getD [] hlt];simp only[idxF]at hgo⊢;clear hx hR h;generalize p (l.getD i [])=b at*;generalize l.getD i []=x at*;simp only[lpv]at e1 hf;cases b
   ·have hgo:=hgo ⟨by omega,rfl⟩ (by omega)
    repeat' first|simp only[go_sem,seval,hlm,e1]|(refine CR_pure hf (pvA_map _ _) ?_)|refine sB ?_|(first|apply pX|apply bX)<;>intro hc|refine⟨oD,?_⟩|exact oD|fail
    refine hgo _ ?_;exact lE
   ·repeat' first|simp only[go_sem,seval,hlm,e1]|(refine CR_pure hf (pvA_map _ _) ?_)|refine sB ?_|(first|apply pX|apply bX)<;>intro hc|refine⟨oD,?_⟩|exact oD|fail
    all_goals rfl
  ·obtain rfl:i=l.length:=by omega
   rw[List.drop_length];repeat' first|simp only[go_sem,seval,hlm]|refine sB ?_|(first|apply pX|apply bX)<;>intro hc|refine⟨oD,?_⟩|exact oD|fail
   all_goals simp[idxF]
theorem ContainsFuncL_ok (l:List (List (Bool×Bytes))) (f:FuncId) (c:List PV) (p:List (Bool×Bytes)→Bool) (hl:l.length<4611686018427387904) (h: ∀x∈l,EvP Tryz.prog f (lpv x::c) (.b (p x))):EvP Tryz.prog 173 [.sl (l.map lpv), .fc f [] c] (.b (l.any p)):=by
 have hi:=IndexFuncL_ok l f c p hl h;have e:decide (idxF p 0 l≥0)=l.any p:=by
  rw[Bool.eq_iff_iff,decide_eq_true_iff];exact idxF_neg
 refine eW Tryz.call173 Tryz.func173 ?_;repeat' first|simp only[go_sem,seval,e]|refine cP hi ?_|refine sB ?_|(first|apply pX|apply bX)<;>intro hc|refine⟨oD,?_⟩|exact oD|fail
theorem form1_ok (x:Bool×Bytes):EvP Tryz.prog 344 [ipv x] (.b (!izok x)):=by
 obtain⟨n,a⟩:=x;have hv:=iValid_ok n a;have e:izok (n,a)=(validN a&& !(n&&a==[])):=rfl;rw[e];generalize (validN a&& !(n&&a==[]))=b at*;simp only[ipv];refine eW Tryz.call344 Tryz.func344 ?_;repeat' first|simp only[go_sem,seval]|refine cP hv ?_|refine sB ?_|(first|apply pX|apply bX)<;>intro hc|refine⟨oD,?_⟩|exact oD|fail
abbrev cap1:PV:= .pt (.agg [.fn (.func 344)]) 0
theorem form2_ok (l:List (Bool×Bytes)) (hl:l.length<4611686018427387904):EvP Tryz.prog 345 [lpv l,cap1] (.b (!l.all izok)):=by
 have h1:=ContainsFuncI_ok l _ _ hl form1_ok;rw[any_not]at h1;unfold lpv;refine eW Tryz.call345 Tryz.func345 ?_;repeat' first|simp only[go_sem,seval]|refine cP h1 ?_|refine sB ?_|(first|apply pX|apply bX)<;>intro hc|refine⟨oD,?_⟩|exact oD|fail
theorem form3_ok (a:Bytes):EvP Tryz.prog 346 [.s a] (.b (!validN a)):=by
 have hv:=natValid a;generalize validN a=b at*;refine eW Tryz.call346 Tryz.func346 ?_;repeat' first|simp only[go_sem,seval]|refine cP hv ?_|refine sB ?_|(first|apply pX|apply bX)<;>intro hc|refine⟨oD,?_⟩|exact oD|fail
theorem CFN0 (f:FuncId) (c:List PV):EvP Tryz.prog 245 [.sl [], .fc f [] c] (.b false):=by
 have hi:EvP Tryz.prog 312 [.sl [], .fc f [] c] (E (-1)):=by
  refine eW Tryz.call312 Tryz.func312 ?_;repeat' first|simp only[go_sem,seval]|(refine loop_unroll' ?_)|refine sB ?_|(first|apply pX|apply bX)<;>intro hc|refine⟨oD,?_⟩|exact oD|fail
 refine eW Tryz.call245 Tryz.func245 ?_;repeat' first|simp only[go_sem,seval]|refine cP hi ?_|refine sB ?_|(first|apply pX|apply bX)<;>intro hc|refine⟨oD,?_⟩|exact oD|fail


end Go.Proofs.YtmobkhegihemeaaGreatDoor
namespace Go.Proofs.YtmobkhegihemeaaGreatDoor
open Go Go.Dom Go.Num
set_option maxRecDepth 100000
set_option maxHeartbeats 16000000

end Go.Proofs.YtmobkhegihemeaaGreatDoor
namespace Go.Proofs.YtmobkhegihemeaaGreatDoor
open Go Go.Dom Go.Num
set_option maxRecDepth 100000
set_option maxHeartbeats 8000000

end Go.Proofs.YtmobkhegihemeaaGreatDoor
namespace Go.Proofs.YtmobkhegihemeaaGreatDoor
open Go Go.Dom Go.Num
set_option maxRecDepth 100000
set_option maxHeartbeats 16000000
abbrev row2:AObj:=⟨0,[.v (.s []), .v (.s [])],false,none⟩

def Key.rb (k:Key):List Bytes:=k.z::k.u::k.h::k.r
def Key.l (k:Key):List Bytes:=k.m::k.o::k.s::k.rb
end Go.Proofs.YtmobkhegihemeaaGreatDoor
