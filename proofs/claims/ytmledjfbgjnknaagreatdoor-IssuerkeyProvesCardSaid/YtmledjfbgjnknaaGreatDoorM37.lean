/-
  Part of the proof, part 37. Own work.
-/
import Derived.Test.YtmledjfbgjnknaaGreatDoorM36
set_option linter.all false
namespace Go.Proofs.YtmledjfbgjnknaaGreatDoor
open Go Go.Dom
set_option maxRecDepth 100000
set_option maxHeartbeats 16000000
theorem plain_ok (k:Nat) {c:Int} (hc:c=IntKind.u8.wrap (k:Int)) (l:List Bytes) (hm:l≠[]) (hn:l.length≤1000) (hb: ∀s∈l,s.length≤100000):EvP Tryz.prog 239 [.i .u8 c, .sl (l.map .s)] (.s (sumB (frameB k l))):=by
 have h:=framedS k hc [] l hm (by simpa using hn) (by simpa using hb)
 rw[List.nil_append,List.map_nil]at h;refine eW Tryz.call239 Tryz.func239 ?_;repeat' first|simp only[go_sem,seval]|refine cV h ?_|refine sB ?_|(first|apply pX|apply bX)<;>intro hc|refine⟨oD,?_⟩|exact oD|fail
theorem tNew_ok (l:Bytes) (hl:l.length≤100000):EvP Tryz.prog 128 [.s l] (.s (trNew l)):=by
 have h:=plain_ok 78 (c:=78) rfl [l] (by simp) (by simp) (by simp;omega)
 simp only[List.map_cons,List.map_nil]at h;refine eW Tryz.call128 Tryz.func128 ?_;repeat' first|simp only[go_sem,seval]|refine cP h ?_|refine sB ?_|(first|apply pX|apply bX)<;>intro hc|refine⟨oD,?_⟩|exact oD|fail
 all_goals rfl
theorem tAdd_ok (st l d:Bytes) (h1:st.length≤100000) (h2:l.length≤100000) (h3:d.length≤100000):EvP Tryz.prog 127 [.s st, .s l, .s d] (.s (trAdd st l d)):=by
 have h:=plain_ok 65 (c:=65) rfl [st,l,d] (by simp) (by simp) (by intro s hs;simp at hs;rcases hs with rfl|rfl|rfl<;>assumption)
 simp only[List.map_cons,List.map_nil]at h;refine eW Tryz.call127 Tryz.func127 ?_;repeat' first|simp only[go_sem,seval]|refine cP h ?_|refine sB ?_|(first|apply pX|apply bX)<;>intro hc|refine⟨oD,?_⟩|exact oD|fail
 all_goals rfl
theorem tNats_ok (st l:Bytes) (xs:List Bytes) (h1:st.length≤100000) (h2:l.length≤100000) (h0:xs≠[]) (hn:xs.length≤900) (h3: ∀x∈xs,x.length≤100000):EvP Tryz.prog 131 [.s st, .s l, .sl (xs.map .s)] (.s (trNats st l xs)):=by
 have h:=framedN 76 (c:=76) rfl [st,l] xs h0 (by simp;omega) (by intro s hs;simp at hs;rcases hs with rfl|rfl|hs<;>first|assumption|exact h3 s hs)
 simp only[List.map_cons,List.map_nil]at h;refine eW Tryz.call131 Tryz.func131 ?_;repeat' first|simp only[go_sem,seval]|refine cP h ?_|refine sB ?_|(first|apply pX|apply bX)<;>intro hc|refine⟨oD,?_⟩|exact oD|fail
 all_goals rfl
theorem tInts_ok (st l:Bytes) (n:Bool) (a:Bytes) (h1:st.length≤100000) (h2:l.length≤100000) (h3:a.length≤99999):EvP Tryz.prog 241 [.s st, .s l, .sl [.agg [.b n, .s a]]] (.s (trInts st l [(n,a)])):=by
 have h:=framedI 73 (c:=73) rfl [st,l] n a (by simp) (by intro s hs;simp at hs;rcases hs with rfl|rfl|rfl<;>first|assumption|(simp[intS];omega))
 simp only[List.map_cons,List.map_nil]at h;refine eW Tryz.call241 Tryz.func241 ?_;repeat' first|simp only[go_sem,seval]|refine cP h ?_|refine sB ?_|(first|apply pX|apply bX)<;>intro hc|refine⟨oD,?_⟩|exact oD|fail
 all_goals rfl
theorem W64_LIM:18446744073709551616+18446744073709551616<LIM:=by decide+kernel
theorem plusN {a b m:Nat} (ha:a<m) (hb:b<m) (hm:m<18446744073709551616):EvP Tryz.prog 262 [N a,N b,N m] (N ((a+b)%m)):=by
 have hW:=W64_LIM;have h1:=subN (a:=m) (b:=b) (by omega) (by omega)
 have h2:=cmpNN (a:=a) (b:=m-b) (by omega) (by omega)
 by_cases hge:m-b≤a
 ·have h3:=subN (a:=a) (b:=m-b) hge (by omega)
  have h4: ∀ _:True,(0:Int)≤cmpN a (m-b):=fun _=>cmpN_ge.2 hge
  have h5: ∀ _:True,decide (cmpN a (m-b)≥0)=true:=fun _=>decide_eq_true (h4 trivial)
  have e:(a+b)%m=a-(m-b):=by rw[show a+b=(a-(m-b))+m by omega,Nat.add_mod_right,Nat.mod_eq_of_lt (by omega)]
  rw[e];generalize cmpN a (m-b)=cm at*;refine eW Tryz.call262 Tryz.func262 ?_;repeat' first|simp only[go_sem,seval,h5 trivial]|refine cP h1 ?_|refine cP h2 ?_|refine cP h3 ?_|refine sB ?_|(first|apply pX|apply bX)<;>intro hc|refine⟨oD,?_⟩|exact oD|fail
 ·have h3:=addN (a:=a) (b:=b) (by omega)
  have h4: ∀ _:True,¬(0:Int)≤cmpN a (m-b):=fun _ h=>hge (cmpN_ge.1 h)
  have h5: ∀ _:True,decide (cmpN a (m-b)≥0)=false:=fun _=>decide_eq_false (h4 trivial)
  rw[Nat.mod_eq_of_lt (by omega)]
  generalize cmpN a (m-b)=cm at*;refine eW Tryz.call262 Tryz.func262 ?_;repeat' first|simp only[go_sem,seval,h5 trivial]|refine cP h1 ?_|refine cP h2 ?_|refine cP h3 ?_|refine sB ?_|(first|apply pX|apply bX)<;>intro hc|refine⟨oD,?_⟩|exact oD|fail
theorem mAddN {a b m:Nat} (ha:a<18446744073709551616) (hb:b<18446744073709551616) (hm:m<18446744073709551616) (h0:0<m):EvP Tryz.prog 143 [N a,N b,N m] (.tup [N ((a+b)%m),E 0]):=by
 have hc:=fun nm=>check2 nm (bts a) (bts b) (bts m)
 rw[chk2N ha (vN hb) hm h0]at hc;have hp:=plusN (a:=a%m) (b:=b%m) (m:=m) (Nat.mod_lt _ h0) (Nat.mod_lt _ h0) hm;rw[←Nat.add_mod]at hp;refine eW Tryz.call143 Tryz.func143 ?_;repeat' first|simp only[go_sem,seval]|(refine CR_eff (hc _) (by simp) ?_)|refine cP (reducedN ha hm h0) ?_|refine cP (reducedN hb hm h0) ?_|refine cP hp ?_|refine sB ?_|(first|apply pX|apply bX)<;>intro hc|refine⟨oD,?_⟩|exact oD|fail
abbrev SB:TypeId:=315
theorem tChallenge_ok (st b:Bytes) (hs:st.length≤100000) (vb:validN b=true) (b0:b≠[]) (lb:b.length≤8):EvP Tryz.prog 132 [.s st, .s b] (.tup [N (trChal st b),E 0]):=by
 have hv:=natValid b;rw[vb]at hv;have hbb:(b==([]:Bytes))=false:=by simpa using b0
 have w1:=fun nm=>lenF SB 1007 nm
 have w2:=fun nm=>eightF 1014 nm 0 (by decide)
 have w3:=fun nm=>strB FR 1014 1016 nm 7 (be 8 0) (by decide) (by decide) (by decide)
 have hp:=plain_ok 67 (c:=67) rfl [st,be 8 0] (by simp) (by simp) (by intro s hs';simp at hs';rcases hs' with rfl|rfl;exact hs;simp[be_len])
 simp only[List.map_cons,List.map_nil]at hp;have hp:EvP Tryz.prog 239 [.i .u8 67, .sl [.s st, .s (be 8 0)]] (.s (trCode st)):=hp;have hcl:=trCode_len st;have htr:trChal st b=num ((trCode st).take (b.length+8))%num b:=rfl;rw[htr];generalize trCode st=code at*;have w4:=fun nm=>wsF SB lies0 1007 nm code (by omega) (by omega)
 have w5:=fun nm=>lenB SB 1007 1022 nm 0 code (by decide)
 have w6:=fun nm=>strB SB 1007 1022 nm 0 code (by decide) (by omega) (by omega)
 have hd1: ∀ _:True,decide ((0:Int)<(b.length:Int)+8)=true:=fun _=>by simp;omega
 refine eW Tryz.call132 Tryz.func132 ?_;repeat' first|simp only[go_sem,seval,hbb]|refine cP hv ?_|refine sB ?_|(first|apply pX|apply bX)<;>intro hc|refine⟨oD,?_⟩|exact oD|fail
 refine loop_unroll' ?_;repeat' first|simp only[go_sem,seval,hbb,hd1 trivial]|(refine CR_eff (w1 _) (by simp[hget,bF]) ?_)|(refine CR_eff (w2 _) (by simp[hget,bF]) ?_)|(refine CR_eff (w3 _) (by simp[hget]) ?_)|(refine CR_eff (w4 _) (by simp[hget,bF]) ?_)|refine cP hp ?_|refine sB ?_|(first|apply pX|apply bX)<;>intro hc|refine⟨oD,?_⟩|exact oD|fail
 refine loop_unroll' ?_;have hd2: ∀ _:True,decide ((32:Int)<(b.length:Int)+8)=false:=fun _=>by simp;omega
 have ht8: ∀ _:True,((b.length:Int)+8).toNat=b.length+8:=fun _=>by omega
 rw[hcl]at w5;repeat' first|simp only[go_sem,seval,hcl,hd2 trivial,ht8 trivial]|(refine CR_eff (w5 _) (by simp[hget]) ?_)|(refine CR_eff (w6 _) (by simp[hget]) ?_)|refine sB ?_|(first|apply pX|apply bX)<;>intro hc|refine⟨oD,?_⟩|exact oD|fail
 have hll:(code.take (b.length+8)).length≤32:=by rw[List.length_take];omega
 generalize code.take (b.length+8)=l at hll⊢;have hm:=num8 lb;have hm0:0<num b:=by
  rcases Nat.eq_zero_or_pos (num b)with h|h
  ·exact absurd (by have:=N_of vb;rw[h]at this;injection this with h1;exact h1.symm) b0
  ·exact h
 have hN:(.s b:PV)=N (num b):=(N_of vb).symm;rw[hN];generalize num b=m at*;have h256:EvP Tryz.prog 46 [.i .u64 256] (N 256):=Of_ok 256 (by decide)
 clear w1 w2 w3 w4 w5 w6 hp hd1 hd2 ht8 hv;refine loop_run (α:=Nat) (fun i=>l.length-i) (fun i=>⟨[(1, .v (N m)),(9, .v (N (num (l.take i)%m))),(37, .v (.sl (l.map u8))),(38,E' l.length),(39,E' i)],[],_⟩) (fun i=>i≤l.length) 0 (fun _=>Nat.le_refl _) (Nat.zero_le _) ?_ ?_
 ·(refine AS.Le.of (by first|decide|omega) ?_ ?_<;>simp[LeT,LeH,tget,hget,AV.bd,AV.bd.bdL,u8,bd_cellsOf,bcells_bd,icells_bd])
  all_goals (rw[show num []=0 from rfl,Nat.zero_mod];rfl)
 ·intro i hi R hR
  by_cases hit:i<l.length
  ·have e2:=getD_map u8 l 0 hit;have hgo:=hR (i+1) (by omega) (by omega)
   rw[num_take_succ hit]at hgo;have hc:(l.getD i 0).toNat<256:=(l.getD i 0).toNat_lt;have hou:EvP Tryz.prog 46 [.i .u64 ((l.getD i 0).toNat:Nat)] (N (l.getD i 0).toNat):=Of_ok _ (by omega)
   have w1: ∀ _:True,IntKind.u64.wrap (((l.getD i 0).toNat:Nat):Int)=(((l.getD i 0).toNat:Nat):Int):=fun _=>by rw[wu64];omega
   generalize (l.getD i 0)=y at*;generalize num (l.take i)=x at*;have hx:x%m<m:=Nat.mod_lt _ hm0;have hx2:x%m*256%m<m:=Nat.mod_lt _ hm0;have h1:=mMulN (a:=x%m) (b:=256) (m:=m) (by omega) (by decide) hm hm0
   have h2:=mAddN (a:=x%m*256%m) (b:=y.toNat) (m:=m) (by omega) (by omega) hm hm0
   have e:(x%m*256%m+y.toNat)%m=(x*256+y.toNat)%m:=by
    rw[Nat.add_mod,Nat.mod_mod,←Nat.add_mod,Nat.add_mod (x%m*256),Nat.mod_mul_mod,←Nat.add_mod]
   rw[e]at h2;clear hR hi e;repeat' first|simp only[go_sem,seval,e2,w1 trivial]|refine cP h256 ?_|refine cP h1 ?_|refine cP h2 ?_|refine cP hou ?_|refine sB ?_|(first|apply pX|apply bX)<;>intro hc|refine⟨oD,?_⟩|exact oD|fail
   all_goals (refine hgo _ ?_)
   (refine AS.Le.of (by first|decide|omega) ?_ ?_<;>simp[LeT,LeH,tget,hget,AV.bd,AV.bd.bdL,u8,bd_cellsOf,bcells_bd,icells_bd])
   all_goals first|omega|skip
  ·have h:i=l.length:=by omega
   rw[h,List.take_length];repeat' first|simp only[go_sem,seval]|refine sB ?_|(first|apply pX|apply bX)<;>intro hc|refine⟨oD,?_⟩|exact oD|fail
theorem right_ok (x n:Nat) (h0:0<n) (h:n<32):EvP Tryz.prog 462 [.i .u32 x,E n] (.i .u32 (rr x n)):=by
 have e2: ∀ _:True,(if 32-n≤32 then 32-n else 32)=32-n:=fun _=>if_pos (by omega)
 have e3: ∀ _:True,(32:Int)-(n:Int)=((32-n:Nat):Int):=fun _=>by omega
 have e4: ∀ _:True,(if n≤32 then n else 32)=n:=fun _=>if_pos (by omega)
 refine eW Tryz.call462 Tryz.func462 ?_;repeat' first|simp only[go_sem,seval,e2 trivial,e3 trivial,e4 trivial,l_r,o_r]|refine sB ?_|(first|apply pX|apply bX)<;>intro hc|refine⟨oD,?_⟩|exact oD|fail
 all_goals rfl
theorem rConstants_ok:EvP Tryz.prog 461 [] (.sl (wl shaK)):=by
 refine eW Tryz.call461 Tryz.func461 ?_;repeat' first|simp only[go_sem,seval]|refine sB ?_|(first|apply pX|apply bX)<;>intro hc|refine⟨oD,?_⟩|exact oD|fail
 all_goals rfl
def rowW (l:List Nat) (x:Nat):List AV:=icells .u32 (l++x::List.replicate (63-l.length) 0)
theorem rowW_len (l:List Nat) (x:Nat) (h:l.length<64):(rowW l x).length=64:=by
 rw[rowW,icells_len];simp;omega
theorem rowW_get (l:List Nat) (x:Nat):(rowW l x).getD l.length .u= .v (.i .u32 (x:Int)):=by
 rw[rowW,icells_get (by simp)];simp
theorem rowW_put (l:List Nat) (x y:Nat):List.take l.length (rowW l x)++[AV.v (.i .u32 (y:Int))]++List.drop (l.length+1) (rowW l x)=rowW l y:=by
 rw[rowW,icells_put (x:=y) (by simp) rfl,rowW];simp
theorem rowW_0 (l:List Nat) (h:l.length<64):icells .u32 (l++List.replicate (64-l.length) 0)=rowW l 0:=by
 obtain⟨k,hk⟩: ∃k,64-l.length=k+1:=⟨63-l.length,by omega⟩
 rw[rowW,hk,List.replicate_succ,show 63-l.length=k by omega]
theorem rowW_1 (l:List Nat) (x:Nat) (h:l.length<64):rowW l x=icells .u32 ((l++[x])++List.replicate (64-(l++[x]).length) 0):=by
 rw[rowW,List.append_assoc,List.length_append,List.length_singleton,show 64-(l.length+1)=63-l.length by omega];rfl
theorem w0:IntKind.u32.wrap 0=0:=rfl
def m8 (x c:Nat):Nat:=(x*256+c)%4294967296
theorem m8_r (x c:Nat):IntKind.u32.wrap (IntKind.u32.wrap ((x:Int)*256)+(c:Int))=((m8 x c:Nat):Int):=by
 rw[wu32,wu32,m8];omega
theorem m8_3 (a b c d:UInt8):m8 (m8 (m8 a.toNat b.toNat) c.toNat) d.toNat=num [a,b,c,d]:=by
 have ha:=a.toNat_lt;have hb:=b.toNat_lt;have hc:=c.toNat_lt;have hd:=d.toNat_lt;simp only[m8,num,List.length_cons,List.length_nil];omega
theorem fourD {l:Bytes} {i:Nat} {a b c d:UInt8} (h:(l.drop (4*i)).take 4=[a,b,c,d]):l.getD (4*i) 0=a∧l.getD (4*i+1) 0=b∧l.getD (4*i+2) 0=c∧l.getD (4*i+3) 0=d:=by
 have hg: ∀k,k<4→l.getD (4*i+k) 0=[a,b,c,d].getD k 0:=fun k hk=>by
  rw[←h];simp[List.getD_eq_getElem?_getD,List.getElem?_take,hk]
 exact⟨hg 0 (by decide),hg 1 (by decide),hg 2 (by decide),hg 3 (by decide)⟩
theorem chunk_wl (l:List Nat) {n:Nat} (h:l.length=n):chunk 1 n (wl l)=wl l:=by
 subst h;have:=chunk1 (wl l)
 rwa[wl_len]at this
theorem icells_all (l:List Nat):(icells .u32 l).all AV.one=true:=by
 unfold icells
 induction l with
 |nil=>rfl
 |cons c l ih=>rw[List.map_cons,List.all_cons,ih];rfl
theorem mapO_view8 (hf:Nat→Option AObj) (l:List Nat):mapO (view hf 8) (icells .u32 l)=some (wl l):=mapO_icells (fun _=>rfl) l
theorem rSchedule_ok {blk:Bytes} (hb:blk.length=64):EvP Tryz.prog 460 [.s blk] (.sl (wl (sched blk))):=by
 refine eW Tryz.call460 Tryz.func460 ?_;repeat' first|simp only[go_sem,seval]|refine sB ?_|(first|apply pX|apply bX)<;>intro hc|refine⟨oD,?_⟩|exact oD|fail
 refine loop_run (α:=List Nat) (fun l=>16-l.length) (fun l=>⟨[(0, .v (.s blk)),(3, .rs 1001 0 0 64 1),(4,E' l.length)],[(1001,⟨0,icells .u32 (l++List.replicate (64-l.length) 0),false,none⟩)],_⟩) (fun l=>l.length≤16∧l=(List.range l.length).map (shaV blk)) [] (fun _=>Nat.le_refl _) ⟨by decide,rfl⟩ ?_ ?_
 ·(refine AS.Le.of (by first|decide|omega) ?_ ?_<;>simp[LeT,LeH,tget,hget,AV.bd,AV.bd.bdL,u8,bd_cellsOf,bcells_bd,icells_bd])
  all_goals rfl
 ·rintro l ⟨hl,he⟩ R hR;have hL:(icells .u32 (l++List.replicate (64-l.length) 0)).length=64:=by rw[icells_len];simp;omega
  by_cases hlt:l.length<16
  ·obtain⟨i,hi⟩: ∃i,i=l.length:=⟨_,rfl⟩;obtain⟨a,b,c,d,h4,-⟩:=four blk (i:=i) (by omega)
   obtain⟨q0,q1,q2,q3⟩:=fourD h4;have hV:shaV blk i=m8 (m8 (m8 a.toNat b.toNat) c.toNat) d.toNat:=by rw[m8_3,shaV,h4]
   have hgo:=hR (l++[shaV blk i]) ⟨by simp;omega,by
    rw[List.length_append,List.length_singleton,List.range_succ,List.map_append,←he,←hi];rfl⟩ (by simp;omega)
   rw[←rowW_1 l _ (by omega),List.length_append,List.length_singleton]at hgo
   rw[rowW_0 l (by omega)]
   have hg:=rowW_get l;have hp:=rowW_put l;have hn:=fun x=>rowW_len l x (by omega)
   rw[hV]at hgo;rw[←hi]at hg hp hgo⊢;have t0: ∀ _:True,((4:Int)*(i:Int)).toNat=4*i:=fun _=>by omega
   have t1: ∀ _:True,((4:Int)*(i:Int)+1).toNat=4*i+1:=fun _=>by omega
   have t2: ∀ _:True,((4:Int)*(i:Int)+2).toNat=4*i+2:=fun _=>by omega
   have t3: ∀ _:True,((4:Int)*(i:Int)+3).toNat=4*i+3:=fun _=>by omega
   clear hR he h4 hV hL;repeat' first|simp only[go_sem,seval,hb,hg,hp,hn,t0 trivial,t1 trivial,t2 trivial,t3 trivial,q0,q1,q2,q3,u32b,m8_r,w0,Int.add_zero,Int.zero_add]|(refine loop_unroll' ?_)|refine sB ?_|(first|apply pX|apply bX)<;>intro hc|refine⟨oD,?_⟩|exact oD|fail
   refine hgo _ ?_
   (refine AS.Le.of (by first|decide|omega) ?_ ?_<;>simp[LeT,LeH,tget,hget,AV.bd,AV.bd.bdL,u8,bd_cellsOf,bcells_bd,icells_bd])
   all_goals first|omega|(unfold rowW;simp[icells_bd])
  ·have hl16:l.length=16:=by omega
   have hs0:l=(List.range 16).map (shaV blk):=by rw[←hl16];exact he
   rw[hl16];rw[hl16]at hL;clear hR he hlt hl;repeat' first|simp only[go_sem,seval]|refine sB ?_|(first|apply pX|apply bX)<;>intro hc|refine⟨oD,?_⟩|exact oD|fail
   refine loop_run (α:=List Nat) (fun l=>64-l.length) (fun l=>⟨[(3, .rs 1001 0 0 64 1),(6,E' l.length)],[(1001,⟨0,icells .u32 (l++List.replicate (64-l.length) 0),false,none⟩)],_⟩) (fun l=>16≤l.length∧l.length≤64∧shaX (64-l.length) l=sched blk) l (fun _=>Nat.le_refl _) ⟨by omega,by omega,by rw[hl16,hs0];rfl⟩ ?_ ?_
   ·rw[hl16];exact lE
   ·clear hs0 hL hl16 l;rintro l ⟨hl1,hl2,he⟩ R hR;have hL:(icells .u32 (l++List.replicate (64-l.length) 0)).length=64:=by rw[icells_len];simp;omega
    obtain⟨i,hi⟩: ∃i,i=l.length:=⟨_,rfl⟩
    by_cases hlt:l.length<64
    ·have hgo:=hR (l++[shaN l]) ⟨by simp;omega,by simp;omega,by
      have:64-l.length=(64-(l++[shaN l]).length)+1:=by simp;omega
      rw[this]at he;exact he⟩ (by simp;omega)
     have hse:=set_end l 64 (shaN l) hlt;have hg: ∀k:Nat,0<k→k≤16→(icells .u32 (l++List.replicate (64-l.length) 0)).getD ((i:Int)-(k:Int)).toNat .u= .v (.i .u32 (l.getD (i-k) 0:Nat)):=fun k h0 h1=>by
      rw[show((i:Int)-(k:Int)).toNat=i-k by omega,icells_get (by simp;omega),getD_end l _ _ (by omega)]
     have g15:(icells .u32 (l++List.replicate (64-l.length) 0)).getD ((i:Int)-15).toNat .u= _:=hg 15 (by decide) (by decide)
     have g2:(icells .u32 (l++List.replicate (64-l.length) 0)).getD ((i:Int)-2).toNat .u= _:=hg 2 (by decide) (by decide)
     have g16:(icells .u32 (l++List.replicate (64-l.length) 0)).getD ((i:Int)-16).toNat .u= _:=hg 16 (by decide) (by decide)
     have g7:(icells .u32 (l++List.replicate (64-l.length) 0)).getD ((i:Int)-7).toNat .u= _:=hg 7 (by decide) (by decide)
     have hN:shaN l=ad (ad (ad (l.getD (i-16) 0) (x32 (x32 (rr (l.getD (i-15) 0) 7) (rr (l.getD (i-15) 0) 18)) (l.getD (i-15) 0/8))) (l.getD (i-7) 0)) (x32 (x32 (rr (l.getD (i-2) 0) 17) (rr (l.getD (i-2) 0) 19)) (l.getD (i-2) 0/1024)):=by rw[hi];rfl
     rw[hN]at hgo hse;rw[←hi]at hL hse g15 g2 g16 g7⊢;clear hR he hN hg;generalize l.getD (i-16) 0=w16 at*;generalize l.getD (i-15) 0=w15 at*;generalize l.getD (i-7) 0=w7 at*;generalize l.getD (i-2) 0=w2 at*;have r7:=right_ok w15 7 (by decide) (by decide)
     have r18:=right_ok w15 18 (by decide) (by decide)
     have r17:=right_ok w2 17 (by decide) (by decide)
     have r19:=right_ok w2 19 (by decide) (by decide)
     repeat' first|simp only[go_sem,seval,hL,g15,g2,g16,g7,ad_r,x_r]|refine cP r7 ?_|refine cP r18 ?_|refine cP r17 ?_|refine cP r19 ?_|refine sB ?_|(first|apply pX|apply bX)<;>intro hc|refine⟨oD,?_⟩|exact oD|fail
     refine hgo _ ?_;rw[icells_put (x:=ad (ad (ad w16 (x32 (x32 (rr w15 7) (rr w15 18)) (w15/8))) w7) (x32 (x32 (rr w2 17) (rr w2 19)) (w2/1024))) (by rw[icells_len]at hL;omega) rfl,hse]
     (refine AS.Le.of (by first|decide|omega) ?_ ?_<;>simp[LeT,LeH,tget,hget,AV.bd,AV.bd.bdL,u8,bd_cellsOf,bcells_bd,icells_bd])
     all_goals first|omega|skip
    ·have hl64:l.length=64:=by omega
     rw[hl64]at he hi hL⊢;have he:l=sched blk:=he;rw[Nat.sub_self,List.replicate_zero,List.append_nil]at hL⊢;rw[←he];have k1:List.take 64 (icells .u32 l)=icells .u32 l:=List.take_of_length_le (by rw[icells_len];omega)
     have k3:(wl l).length=64:=by rw[wl_len,hl64]
     have k4:=chunk_wl l hl64;have k5:=icells_all l;repeat' first|simp only[go_sem,seval,hL,k1,k3,k4,k5,mapO_icells,mapO_view8,wl_v]|refine sB ?_|(first|apply pX|apply bX)<;>intro hc|refine⟨oD,?_⟩|exact oD|fail
     all_goals skip
theorem byteW2 (n:Nat):UInt8.ofNat (IntKind.u8.wrap (n:Int)).toNat=UInt8.ofNat n:=by
 rw[IntKind.wrap_u8];apply UInt8.toNat.inj;simp;omega
theorem byteM (n:Nat):UInt8.ofNat (n%256)=UInt8.ofNat n:=by
 apply UInt8.toNat.inj;simp
theorem rPadded_ok {s:Bytes} (hs:s.length<1000000000):EvP Tryz.prog 437 [.s s] (.s (pad s)):=by
 refine eW Tryz.call437 Tryz.func437 ?_;repeat' first|simp only[go_sem,seval]|refine sB ?_|(first|apply pX|apply bX)<;>intro hc|refine⟨oD,?_⟩|exact oD|fail
 refine loop_run (α:=Nat) (fun c=>64-c) (fun c=>⟨[(0, .v (.s (s++128::zy c))),(3,E' s.length)],[],_⟩) (fun c=>c≤(119-s.length%64)%64) 0 (fun _=>Nat.le_refl _) (Nat.zero_le _) ?_ ?_
 ·(refine AS.Le.of (by first|decide|omega) ?_ ?_<;>simp[LeT,LeH,tget,hget,AV.bd,AV.bd.bdL,u8,bd_cellsOf,bcells_bd,icells_bd])
  all_goals rfl
 ·intro c hc R hR;have hl:(s++128::zy c).length=s.length+1+c:=by simp[zy_len];omega
  have hz:s++128::zy c++[0]=s++128::zy (c+1):=by
   rw[List.append_assoc];congr 1;unfold zy;rw[List.replicate_succ'];rfl
  obtain⟨L,hLL⟩: ∃L,L=s++128::zy c:=⟨_,rfl⟩;rw[←hLL]at hl hz⊢
  by_cases hlt:c=(119-s.length%64)%64
  ·have h5: ∀ _:True,(((s.length+1+c)%64:Nat):Int)=56:=fun _=>by omega
   have w1: ∀ _:True,IntKind.u64.wrap (s.length:Int)=(s.length:Int):=fun _=>by rw[wu64];omega
   have w2: ∀ _:True,IntKind.u64.wrap ((s.length:Int)*8)=((s.length*8:Nat):Int):=fun _=>by rw[wu64];omega
   clear hR;repeat' first|simp only[go_sem,seval,hl,h5 trivial,w1 trivial,w2 trivial]|refine sB ?_|(first|apply pX|apply bX)<;>intro hc|refine⟨oD,?_⟩|exact oD|fail
   obtain⟨N,hN⟩: ∃N,N=s.length*8:=⟨_,rfl⟩;rw[←hN];clear h5 w1 w2 hz;repeat' first|simp only[go_sem,seval,isbW,byteW,byteW2,byteM,Nat.div_div_eq_div_mul,Nat.reduceMul]|(refine loop_unroll' ?_)|refine sB ?_|(first|apply pX|apply bX)<;>intro hc|refine⟨oD,?_⟩|exact oD|fail
   rw[hLL,hlt,hN,pad];simp only[be,zy,List.append_assoc,List.cons_append,List.nil_append,Nat.reducePow,Nat.pow_zero,Nat.div_one]
  ·have h5: ∀ _:True,¬(((s.length+1+c)%64:Nat):Int)=56:=fun _=>by omega
   have hgo:=hR (c+1) (by omega) (by omega)
   rw[←hz]at hgo;clear hR hz;repeat' first|simp only[go_sem,seval,hl,h5 trivial]|refine sB ?_|(first|apply pX|apply bX)<;>intro hc|refine⟨oD,?_⟩|exact oD|fail
   refine hgo _ ?_
   (refine AS.Le.of (by first|decide|omega) ?_ ?_<;>simp[LeT,LeH,tget,hget,AV.bd,AV.bd.bdL,u8,bd_cellsOf,bcells_bd,icells_bd])
   all_goals first|omega|skip
theorem wl_get (l:List Nat) {i:Nat} (h:i<l.length):(wl l).getD i .fn0= .i .u32 (l.getD i 0:Nat):=by
 simp[wl,List.getD_eq_getElem?_getD,h]
theorem wl_cells (l:List Nat):List.map AV.v (List.flatMap PV.cells (wl l))=icells .u32 l:=by
 unfold wl icells
 induction l with
 |nil=>rfl
 |cons x l ih=>rw[List.map_cons,List.flatMap_cons,List.map_append,ih,List.map_cons];rfl
theorem rCompress_ok {st:List Nat} (hs:st.length=8) {blk:Bytes} (hb:blk.length=64):EvP Tryz.prog 438 [.sl (wl st), .s blk] (.sl (wl (shaC st blk))):=by
 have hc:=rConstants_ok;have hd:=rSchedule_ok hb;have k0:(wl st).length=8:=by rw[wl_len,hs]
 have k1:(wl shaK).length=64:=rfl;have k2:(wl (sched blk)).length=64:=by rw[wl_len,sched_len]
 refine eW Tryz.call438 Tryz.func438 ?_;repeat' first|simp only[go_sem,seval,k0,k1,k2,wl_cells]|refine cP hc ?_|refine cP hd ?_|refine sB ?_|(first|apply pX|apply bX)<;>intro hc|refine⟨oD,?_⟩|exact oD|fail
 refine⟨⟨fun x hx=>by obtain⟨c,-,rfl⟩:=List.mem_map.1 hx;rfl,fun y hy=>by obtain⟨c,-,rfl⟩:=List.mem_map.1 hy;rfl⟩,?_⟩
 refine loop_run (α:=Nat×Nat×Bool×List Nat×Nat) (fun p=>64-p.2.2.2.2) (fun p=>⟨[(0, .v (.sl (wl st))),(5, .v (.sl (wl (sched blk)))),(6, .v (.sl (wl shaK))),(7, .rs (p.1+1006) p.2.1 0 8 1),(8,E' p.2.2.2.2)],[(p.1+1006,⟨p.2.1,icells .u32 p.2.2.2.1,p.2.2.1,none⟩)],p.1+1011⟩) (fun p=>p.2.2.2.1.length=8∧p.2.2.2.2≤64∧shaF (sched blk) (64-p.2.2.2.2) p.2.2.2.1=shaF (sched blk) 64 st) (0,1,true,st,0) (fun _=>Nat.le_add_left _ _) ⟨hs,Nat.zero_le _,rfl⟩ ?_ ?_
 ·exact lE
 ·rintro⟨k,ver,gr,v,i⟩ ⟨hv,hi,he⟩ R hR;have hv:v.length=8:=hv;have hi:i≤64:=hi;have he:shaF (sched blk) (64-i) v=shaF (sched blk) 64 st:=he;obtain⟨a,b,c,d,e,f,g,h,rfl⟩:=ex8 hv
  by_cases hlt:i<64
  ·have hgo:=fun k'=>hR (k',0,false,shaR (shaK.getD i 0) ((sched blk).getD i 0) [a,b,c,d,e,f,g,h],i+1) ⟨rfl,hlt,by
    rw[show 64-i=(64-(i+1))+1 by omega,shaF,show 63-(64-(i+1))=i by omega]at he;exact he⟩ (by simp;omega)
   have gk:(wl shaK).getD i .fn0= .i .u32 (shaK.getD i 0:Nat):=wl_get _ (by exact hlt)
   have gw:(wl (sched blk)).getD i .fn0= .i .u32 ((sched blk).getD i 0:Nat):=wl_get _ (by rw[sched_len];exact hlt)
   have r6:=right_ok e 6 (by decide) (by decide)
   have r11:=right_ok e 11 (by decide) (by decide)
   have r25:=right_ok e 25 (by decide) (by decide)
   have r2:=right_ok a 2 (by decide) (by decide)
   have r13:=right_ok a 13 (by decide) (by decide)
   have r22:=right_ok a 22 (by decide) (by decide)
   simp only[shaR8,shaT8,shaU8,ic8]at hgo⊢;generalize shaK.getD i 0=ki at hgo gk;generalize (sched blk).getD i 0=wi at hgo gw;clear hR he hv;repeat' first|simp only[go_sem,seval,k1,k2,gk,gw,ad_r,x_r,a_r]|refine cP r6 ?_|refine cP r11 ?_|refine cP r25 ?_|refine cP r2 ?_|refine cP r13 ?_|refine cP r22 ?_|(refine And.intro (show chk _ _=true from rfl) ?_)|refine sB ?_|(first|apply pX|apply bX)<;>intro hc|refine⟨oD,?_⟩|exact oD|fail
   have hgo:=hgo (k+98);simp only[show k+98+1006=k+1011+2+24+32+21+14 by omega]at hgo
   refine hgo _ ?_
   (refine AS.Le.of (by first|decide|omega) ?_ ?_<;>simp[LeT,LeH,tget,hget,AV.bd,AV.bd.bdL,u8,bd_cellsOf,bcells_bd,icells_bd])
   all_goals first|omega|(erw [n_r2 e];simp only[a_r,x_r,ad_r,and_self])
  ·have hl:i=64:=by omega
   subst hl;have he:[a,b,c,d,e,f,g,h]=shaF (sched blk) 64 st:=he;have hw:shaC st blk=List.zipWith ad [a,b,c,d,e,f,g,h] st:=by rw[shaC,←he]
   rw[hw];clear hR he hv hw;obtain⟨s0,s1,s2,s3,s4,s5,s6,s7,rfl⟩:=ex8 hs;simp only[ic8];have w8:wl [s0,s1,s2,s3,s4,s5,s6,s7]=[.i .u32 (s0:Int), .i .u32 (s1:Int), .i .u32 (s2:Int), .i .u32 (s3:Int), .i .u32 (s4:Int), .i .u32 (s5:Int), .i .u32 (s6:Int), .i .u32 (s7:Int)]:=rfl;repeat' first|simp only[go_sem,seval,k1,k2,ad_r,w8]|(refine And.intro (show chk _ _=true from rfl) ?_)|(refine loop_unroll' ?_)|refine sB ?_|(first|apply pX|apply bX)<;>intro hc|refine⟨oD,?_⟩|exact oD|fail
   all_goals rfl
theorem rSum_ok {s:Bytes} (hs:s.length<1000000000):EvP Tryz.prog 384 [.s s] (.s (sumB s)):=by
 have hp:=rPadded_ok hs;have hL:(pad s).length=(pad s).length/64*64:=pad_64 s;have hL0:64≤(pad s).length:=by rw[pad_len]at hL⊢;omega
 have hL1:(pad s).length<2000000000:=by rw[pad_len];omega
 have hsum:sumB s=(shaB ((pad s).length/64) (pad s) shaI).flatMap outW:=rfl;rw[hsum];obtain⟨l,hl⟩: ∃l,l=pad s:=⟨_,rfl⟩;rw[←hl]at hp hL hL0 hL1⊢;have hc:=rCompress_ok (st:=shaI) rfl (blk:=l.take 64) (by rw[List.length_take];omega)
 have hlt: ∀ _:True,((0:Int)<(l.length:Int))=True:=fun _=>by simp;omega
 refine eW Tryz.call384 Tryz.func384 ?_;repeat' first|simp only[go_sem,seval]|refine cP hp ?_|refine sB ?_|(first|apply pX|apply bX)<;>intro hc|refine⟨oD,?_⟩|exact oD|fail
 refine loop_unroll' ?_;have h00: ∀ _:True,decide ((0:Int)<(l.length:Int))=true:=fun _=>by simp;omega
 have h01: ∀ _:True,(0:Int)<(l.length:Int):=fun _=>by omega
 repeat' first|simp only[go_sem,seval,h00 trivial,h01 trivial]|(refine CR_give [1001] hc rfl rfl rfl ?_)|refine sB ?_|(first|apply pX|apply bX)<;>intro hc|refine⟨oD,?_⟩|exact oD|fail
 have e0:shaB (l.length/64) l shaI=shaB ((l.length-64)/64) (l.drop 64) (shaC shaI (l.take 64)):=by
  rw[show l.length/64=(l.length-64)/64+1 by omega,shaB]
 rw[e0];have hst0:(shaC shaI (l.take 64)).length=8:=shaC_len _ rfl;obtain⟨st0,hs0⟩: ∃x,x=shaC shaI (l.take 64):=⟨_,rfl⟩;rw[←hs0]at hst0⊢;refine loop_run (α:=Nat×List Nat) (fun p=>l.length-p.1) (fun p=>⟨[(3, .v (.sl (wl p.2))),(4, .v (.s l)),(5,E' p.1)],[],_⟩) (fun p=>p.1≤l.length∧l.length-p.1=(l.length-p.1)/64*64∧p.2.length=8∧shaB ((l.length-p.1)/64) (l.drop p.1) p.2=shaB ((l.length-64)/64) (l.drop 64) st0) (64,st0) (fun _=>Nat.le_refl _) ⟨hL0,by omega,hst0,rfl⟩ ?_ ?_
 ·exact lE
 ·rintro⟨o,st⟩ ⟨ho,hr,hst,he⟩ R hR;have ho:o≤l.length:=ho;have hr:l.length-o=(l.length-o)/64*64:=hr;have hst:st.length=8:=hst;have he:shaB ((l.length-o)/64) (l.drop o) st=shaB ((l.length-64)/64) (l.drop 64) st0:=he
  by_cases hlt:o<l.length
  ·have f1:o+64≤l.length:=by omega
   have f2:l.length-(o+64)=(l.length-(o+64))/64*64:=by omega
   have hgo:=hR (o+64,shaC st ((l.drop o).take 64)) ⟨f1,f2,shaC_len _ hst,by
    rw[show(l.length-o)/64=(l.length-(o+64))/64+1 by omega,shaB,List.drop_drop]at he
    exact he⟩ (by simp;omega)
   have hx:(l.take (o+64)).drop o=(l.drop o).take 64:=by rw[List.drop_take];congr 1;omega
   have hc:=rCompress_ok hst (blk:=(l.drop o).take 64) (by rw[List.length_take,List.length_drop];omega)
   clear hR he hr h00 h01 e0;have t64: ∀ _:True,((o:Int)+64).toNat=o+64:=fun _=>by omega
   repeat' first|simp only[go_sem,seval,hx,t64 trivial]|refine cP hc ?_|refine sB ?_|(first|apply pX|apply bX)<;>intro hc|refine⟨oD,?_⟩|exact oD|fail
   all_goals try refine⟨by omega,?_⟩
   refine hgo _ ?_
   (refine AS.Le.of (by first|decide|omega) ?_ ?_<;>simp[LeT,LeH,tget,hget,AV.bd,AV.bd.bdL,u8,bd_cellsOf,bcells_bd,icells_bd])
   all_goals first|omega|skip
  ·have hl:o=l.length:=by omega
   have he:st=shaB ((l.length-64)/64) (l.drop 64) st0:=by rw[←he,hl,Nat.sub_self];rfl
   rw[←he];clear hR he;obtain⟨a,b,c,d,e,f,g,i,rfl⟩:=ex8 hst;have w8:wl [a,b,c,d,e,f,g,i]=[.i .u32 (a:Int), .i .u32 (b:Int), .i .u32 (c:Int), .i .u32 (d:Int), .i .u32 (e:Int), .i .u32 (f:Int), .i .u32 (g:Int), .i .u32 (i:Int)]:=rfl;rw[w8];repeat' first|simp only[go_sem,seval,isbW,byteW,byteW2,byteM]|(refine loop_unroll' ?_)|refine sB ?_|(first|apply pX|apply bX)<;>intro hc|refine⟨oD,?_⟩|exact oD|fail
   all_goals rfl
theorem isbP (n:Nat):PV.isByte (.i .u8 (IntKind.u8.wrap (n:Int)))=True:=by
 simp[PV.isByte,IntKind.wrap_u8]
theorem bytP (n:Nat):PV.byte (.i .u8 (IntKind.u8.wrap (n:Int)))=UInt8.ofNat n:=byteW n
theorem rEight_ok (n:Nat) (hn:n<4611686018427387904):EvP Tryz.prog 301 [.i .i64 (n:Int)] (.s (be 8 n)):=by
 refine eW Tryz.call301 Tryz.func301 ?_;repeat' first|simp only[go_sem,seval,isbP,bytP,byteW2,byteM,Nat.div_div_eq_div_mul,Nat.reduceMul]|(refine loop_unroll' ?_)|refine sB ?_|(first|apply pX|apply bX)<;>intro hc|refine⟨oD,?_⟩|exact oD|fail
 simp only[be,Nat.reducePow,Nat.pow_zero,Nat.div_one]
theorem rHash_ok {kd:Bytes} (hk:kd.length=1) (l:List Bytes) (hn:l.length≤1000) (hb: ∀s∈l,s.length≤100000):EvP Tryz.prog 296 [.s kd, .sl (l.map .s)] (.s (sumB (kd++be 8 l.length++partsB l))):=by
 have h0:=rEight_ok l.length (by omega)
 have hPb: ∀i,i≤l.length→(kd++be 8 l.length++partsB (l.take i)).length≤9+i*100008:=fun i hi=>by
  have h1:=partsB_len (l.take i) (n:=100000) fun s hs=>hb s (List.mem_of_mem_take hs)
  rw[List.length_take,Nat.min_eq_left hi]at h1;rw[List.length_append,List.length_append,hk,be_len];omega
 have hkl:(be 8 l.length).length=8:=be_len _ _;refine eW Tryz.call296 Tryz.func296 ?_;repeat' first|simp only[go_sem,seval,hk,hkl]|refine cP h0 ?_|refine sB ?_|(first|apply pX|apply bX)<;>intro hc|refine⟨oD,?_⟩|exact oD|fail
 refine loop_run (α:=Nat) (fun i=>l.length-i) (fun i=>⟨[(1, .v (.sl (l.map .s))),(5, .v (.s (kd++be 8 l.length++partsB (l.take i)))),(6,E' i)],[],_⟩) (fun i=>i≤l.length) 0 (fun _=>Nat.le_refl _) (Nat.zero_le _) ?_ ?_
 ·(refine AS.Le.of (by first|decide|omega) ?_ ?_<;>simp[LeT,LeH,tget,hget,AV.bd,AV.bd.bdL,u8,bd_cellsOf,bcells_bd,icells_bd])
  all_goals rfl
 ·intro i hi R hR
  by_cases hit:i<l.length
  ·have e2:=getD_map PV.s l ([]:Bytes) hit;have hgo:=hR (i+1) (by omega) (by omega)
   have hbs:=hb (l.getD i []) (mem_getD [] hit);have hPi:=hPb i hi;rw[take_succ_getD ([]:Bytes) hit,partsB_snoc,←List.append_assoc]at hgo;generalize l.getD i []=y at e2 hgo hbs;generalize hB:kd++be 8 l.length++partsB (l.take i)=B at hgo hPi⊢;have h1:=rEight_ok y.length (by omega)
   have hyl:(be 8 y.length).length=8:=be_len _ _;have hBl:B.length+(8+y.length)≤9223372036854775807:=by omega
   clear hR hPb hb hkl h0;repeat' first|simp only[go_sem,seval,e2,hyl]|refine cP h1 ?_|refine sB ?_|(first|apply pX|apply bX)<;>intro hc|refine⟨oD,?_⟩|exact oD|fail
   refine⟨by rw[List.length_append,hyl];exact hBl,rfl,hgo _ ?_⟩
   (refine AS.Le.of (by first|decide|omega) ?_ ?_<;>simp[LeT,LeH,tget,hget,AV.bd,AV.bd.bdL,u8,bd_cellsOf,bcells_bd,icells_bd])
   all_goals first|omega|skip
  ·have h:i=l.length:=by omega
   rw[h,List.take_length];have hl2:=hPb l.length (Nat.le_refl _);rw[List.take_length]at hl2;generalize kd++be 8 l.length++partsB l=B at hl2⊢;have hs:=rSum_ok (s:=B) (by omega)
   repeat' first|simp only[go_sem,seval]|refine cP hs ?_|refine sB ?_|(first|apply pX|apply bX)<;>intro hc|refine⟨oD,?_⟩|exact oD|fail
theorem rHashK (k:Nat) {kd:Bytes} (hk:kd=[UInt8.ofNat k]) (l:List Bytes) (hn:l.length≤1000) (hb: ∀s∈l,s.length≤100000):EvP Tryz.prog 296 [.s kd, .sl (l.map .s)] (.s (sumB (frameB k l))):=by
 have h:=rHash_ok (kd:=kd) (by rw[hk];rfl) l hn hb
 rw[hk,List.append_assoc]at h;rw[hk];exact h
theorem CR_vrow {P:Program} [Tabs P] {Q:AX→AS→Prop} {nx:Nat} {bf:Option (List Nat)} {nn:Nat} {d:Option Nat} {ops:List SOp} {k:Nat} {s:AS} {tr:List (Nat×List Nat×List Nat)} {K:List Fr} {nm:Nat} {f:FuncId} {α:Type} {g:α→PV} {z n ver m:Nat} {l:List α} {gr:Bool} {el:Option TypeId} {x r:PV}
  (he:EvP P f [x, .sl (l.map g)] r) (hrow:RowOK g z) (hr:r.flat=true) (hg:hget s.h n=some ⟨ver,rowF g l,gr,el⟩) (hm:m=l.length) (hK:RW P Q nx bf nn ops (k+1) (s.upd d (.v r) []) (trU bf k [n] [] tr) K):
  CR P Q nx bf nn nm (.v (.fn (.func f))) [.v x, .rs n ver 0 m z] d ops k s tr K:=by
 refine CR_view he ?_ hr ?_
 ·simp[mapO,view_rowF hrow hm hg];rfl
 ·have:[AV.v x,AV.rs n ver 0 m z].flatMap (viewN (hget s.h) 9)=[n]:=by simp[viewN_rowF hrow hm hg];rfl
  rw[this];exact hK
theorem rNew_ok (l:Bytes) (hl:l.length≤100000):EvP Tryz.prog 172 [.s l] (.s (trNew l)):=by
 have h:=rHashK 78 (kd:=[78]) rfl [l] (by simp) (by simp;omega)
 simp only[List.map_cons,List.map_nil]at h;refine eW Tryz.call172 Tryz.func172 ?_;repeat' first|simp only[go_sem,seval]|refine cP h ?_|refine sB ?_|(first|apply pX|apply bX)<;>intro hc|refine⟨oD,?_⟩|exact oD|fail
 all_goals rfl
theorem rAdd12_ok (st l d:Bytes) (h1:st.length≤100000) (h2:l.length≤100000) (h3:d.length≤100000):EvP Tryz.prog 171 [.s st, .s l, .s d] (.s (trAdd st l d)):=by
 have h:=rHashK 65 (kd:=[65]) rfl [st,l,d] (by simp) (by intro s hs;simp at hs;rcases hs with rfl|rfl|rfl<;>assumption)
 simp only[List.map_cons,List.map_nil]at h;refine eW Tryz.call171 Tryz.func171 ?_;repeat' first|simp only[go_sem,seval]|refine cP h ?_|refine sB ?_|(first|apply pX|apply bX)<;>intro hc|refine⟨oD,?_⟩|exact oD|fail
 all_goals rfl
theorem rInts12_ok (st l:Bytes) (n:Bool) (a:Bytes) (h1:st.length≤100000) (h2:l.length≤100000) (h3:a.length≤99999):EvP Tryz.prog 298 [.s st, .s l, .sl [.agg [.b n, .s a]]] (.s (trInts st l [(n,a)])):=by
 have h:=rHashK 73 (kd:=[73]) rfl [st,l,intS (n,a)] (by simp) (by intro s hs;simp at hs;rcases hs with rfl|rfl|rfl<;>first|assumption|(simp[intS];omega))
 cases n;all_goals simp only[intS,List.map_cons,List.map_nil]at h
 refine eW Tryz.call298 Tryz.func298 ?_;repeat' first|simp only[go_sem,seval]|refine cV h ?_|(refine loop_unroll' ?_)|refine sB ?_|(first|apply pX|apply bX)<;>intro hc|refine⟨oD,?_⟩|exact oD|fail
 all_goals try rfl
 refine eW Tryz.call298 Tryz.func298 ?_;repeat' first|simp only[go_sem,seval]|refine cV h ?_|(refine loop_unroll' ?_)|refine sB ?_|(first|apply pX|apply bX)<;>intro hc|refine⟨oD,?_⟩|exact oD|fail
 all_goals try rfl
theorem rNats12_ok (st l:Bytes) (xs:List Bytes) (h1:st.length≤100000) (h2:l.length≤100000) (h0:xs≠[]) (hn:xs.length≤900) (h3: ∀x∈xs,x.length≤100000):EvP Tryz.prog 175 [.s st, .s l, .sl (xs.map .s)] (.s (trNats st l xs)):=by
 have h:=rHashK 76 (kd:=[76]) rfl (st::l::xs) (by simp;omega) (by intro s hs;simp at hs;rcases hs with rfl|rfl|hs<;>first|assumption|exact h3 s hs)
 obtain⟨m0,mr,hmr⟩: ∃m0 mr,xs=m0::mr:=by cases xs with
  |nil=>exact absurd rfl h0
  |cons a b=>exact⟨a,b,rfl⟩
 have hml:xs.length=mr.length+1:=by rw[hmr];rfl
 have hpos: ∀ _:True,(0:Int)<(xs.length:Int):=fun _=>by omega
 have g0:(xs.map PV.s).getD 0 .fn0= .s m0:=by rw[hmr];rfl
 refine eW Tryz.call175 Tryz.func175 ?_;repeat' first|simp only[go_sem,seval]|refine sB ?_|(first|apply pX|apply bX)<;>intro hc|refine⟨oD,?_⟩|exact oD|fail
 refine loop_unroll' ?_;repeat' first|simp only[go_sem,seval,g0,hpos trivial]|refine sB ?_|(first|apply pX|apply bX)<;>intro hc|refine⟨oD,?_⟩|exact oD|fail
 have hro:[AV.v (PV.s st),AV.v (PV.s l),AV.v (PV.s m0)]=rowF PV.s (st::l::xs.take 1):=by rw[hmr];rfl
 rw[hro];clear hro g0 h1 h2 h3;refine loop_run (α:=Nat) (fun j=>xs.length-j) (fun j=>⟨[(2, .v (.sl (xs.map .s))),(7, .rs 1016 j 0 (3+j) 1),(8,E' (j+1))],[(1016,⟨j,rowF PV.s (st::l::xs.take (j+1)),true,some 9⟩)],1021⟩) (fun j=>j+1≤xs.length) 0 (fun _=>Nat.le_of_ble_eq_true rfl) (by omega) ?_ ?_
 ·(refine AS.Le.of (by first|decide|omega) ?_ ?_<;>simp[LeT,LeH,tget,hget,AV.bd,AV.bd.bdL,u8,bd_cellsOf,bcells_bd,icells_bd])
  all_goals exact fun c hc=>bd_row hc
 ·intro j hj R hR;have hlr:(st::l::xs.take (j+1)).length=3+j:=by rw[List.length_cons,List.length_cons,List.length_take];omega
  have q0:(rowF PV.s (st::l::xs.take (j+1))).length=3+j:=by rw[rowF_len RowOK.s,hlr,Nat.mul_one]
  have q1:List.take (3+j) (rowF PV.s (st::l::xs.take (j+1)))=rowF PV.s (st::l::xs.take (j+1)):=List.take_of_length_le (by omega)
  by_cases hjt:j+1<xs.length
  ·have e2:=getD_map PV.s xs ([]:Bytes) hjt;have hgo:=hR (j+1) (by omega) (by omega)
   rw[take_succ_getD ([]:Bytes) hjt,←List.cons_append,←List.cons_append,rowF_snoc]at hgo;generalize xs.getD (j+1) []=y at e2 hgo;have e3: ∀ _:True,((j:Int)+1).toNat=j+1:=fun _=>by omega
   clear hR hlr h;repeat' first|simp only[go_sem,seval,q0,q1,e2,e3 trivial]|refine sB ?_|(first|apply pX|apply bX)<;>intro hc|refine⟨oD,?_⟩|exact oD|fail
   refine hgo _ ?_
   (refine AS.Le.of (by first|decide|omega) ?_ ?_<;>simp[LeT,LeH,tget,hget,AV.bd,AV.bd.bdL,u8,bd_cellsOf,bcells_bd,icells_bd])
   all_goals first|omega|exact⟨rfl,fun c hc=>by rcases hc with hc|⟨a,ha,rfl⟩;exact bd_row hc;rfl⟩|skip
  ·have hj2:j+1=xs.length:=by omega
   rw[hj2,List.take_length]at hlr q0 q1⊢;repeat' first|simp only[go_sem,seval,q0,q1]|(refine CR_vrow (l:=st::l::xs) (g:=PV.s) (ver:=j) (gr:=true) (el:=some 9) h RowOK.s rfl (by simp[hget]) hlr.symm ?_)|refine sB ?_|(first|apply pX|apply bX)<;>intro hc|refine⟨oD,?_⟩|exact oD|fail
   all_goals rfl
theorem rChallenge12_ok (st b:Bytes) (hs:st.length≤100000) (vb:validN b=true) (b0:b≠[]) (lb:b.length≤8):EvP Tryz.prog 176 [.s st, .s b] (.tup [N (trChal st b),E 0]):=by
 have hv:=rValid_ok b;rw[vb]at hv;have hbb:(b==([]:Bytes))=false:=by simpa using b0
 have he:EvP Tryz.prog 301 [.i .i64 0] (.s (be 8 0)):=rEight_ok 0 (by decide)
 have hp:=rHashK 67 (kd:=[67]) rfl [st,be 8 0] (by simp) (by intro s hs';simp at hs';rcases hs' with rfl|rfl;exact hs;simp[be_len])
 simp only[List.map_cons,List.map_nil]at hp;have hp:EvP Tryz.prog 296 [.s [67], .sl [.s st, .s (be 8 0)]] (.s (trCode st)):=hp;have hcl:=trCode_len st;have htr:trChal st b=num ((trCode st).take (b.length+8))%num b:=rfl;rw[htr];generalize trCode st=code at*;have hd1: ∀ _:True,decide ((0:Int)<(b.length:Int)+8)=true:=fun _=>by simp;omega
 have hd2: ∀ _:True,decide ((32:Int)<(b.length:Int)+8)=false:=fun _=>by simp;omega
 have ht8: ∀ _:True,((b.length:Int)+8).toNat=b.length+8:=fun _=>by omega
 refine eW Tryz.call176 Tryz.func176 ?_;repeat' first|simp only[go_sem,seval,hbb]|refine cP hv ?_|refine sB ?_|(first|apply pX|apply bX)<;>intro hc|refine⟨oD,?_⟩|exact oD|fail
 refine loop_unroll' ?_;repeat' first|simp only[go_sem,seval,hbb,hd1 trivial,hcl]|refine cP he ?_|refine cP hp ?_|refine sB ?_|(first|apply pX|apply bX)<;>intro hc|refine⟨oD,?_⟩|exact oD|fail
 refine loop_unroll' ?_;repeat' first|simp only[go_sem,seval,hbb,hd2 trivial,hcl,ht8 trivial]|refine cP he ?_|refine cP hp ?_|refine sB ?_|(first|apply pX|apply bX)<;>intro hc|refine⟨oD,?_⟩|exact oD|fail
 have hll:(code.take (b.length+8)).length≤32:=by rw[List.length_take];omega
 generalize code.take (b.length+8)=l0 at hll⊢;have hm0:0<num b:=by
  rcases Nat.eq_zero_or_pos (num b)with h|h
  ·exact absurd (by have:=N_of vb;rw[h]at this;injection this with h1;exact h1.symm) b0
  ·exact h
 have hov:=rOver_ok (a:=trimB l0) (b:=b) (trim_canon l0) (canon_of vb) hm0 (by have:=trim_len l0;omega) (by omega)
 rw[num_trim]at hov;clear hp he hd1 hd2 ht8 hv;refine loop_run (α:=Bytes) (fun l=>l.length) (fun l=>⟨[(1, .v (.s b)),(6, .v (.s l))],[],_⟩) (fun l=>trimB l=trimB l0) l0 (fun _=>Nat.le_refl _) rfl ?_ ?_
 ·exact lE
 ·intro l hl R hR
  match l,hl with
  |[],hl=>
   have hl:trimB l0=[]:=hl.symm;rw[hl]at hov;clear hR;repeat' first|simp only[go_sem,seval]|refine cP hov ?_|refine sB ?_|(first|apply pX|apply bX)<;>intro hc|refine⟨oD,?_⟩|exact oD|fail
  |x::r,hl=>
   by_cases hx:x=0
   ·subst hx;have hgo:=hR r (by rw[←hl];rfl) (by simp)
    clear hR;repeat' first|simp only[go_sem,seval]|refine sB ?_|(first|apply pX|apply bX)<;>intro hc|refine⟨oD,?_⟩|exact oD|fail
    refine hgo _ ?_
    (refine AS.Le.of (by first|decide|omega) ?_ ?_<;>simp[LeT,LeH,tget,hget,AV.bd,AV.bd.bdL,u8,bd_cellsOf,bcells_bd,icells_bd])
    all_goals first|omega|skip
   ·have hl:trimB l0=x::r:=by rw[←hl,trimB,if_neg hx]
    rw[hl]at hov;have hx2: ∀ _:True,((x.toNat:Int)==0)=false:=fun _=>by
     simp only[beq_eq_false_iff_ne,ne_eq];intro h;exact hx (UInt8.toNat.inj (by simp;omega))
    clear hR;repeat' first|simp only[go_sem,seval,hx2 trivial]|refine cP hov ?_|refine sB ?_|(first|apply pX|apply bX)<;>intro hc|refine⟨oD,?_⟩|exact oD|fail
end Go.Proofs.YtmledjfbgjnknaaGreatDoor
