/-
  Part of the proof, part KR30. Own work.
-/
import Derived.Test.YtmobkhegihemeaaGreatDoorKR29
set_option linter.all false
namespace Go.Proofs.YtmobkhegihemeaaGreatDoor
open Go Go.Dom
set_option maxRecDepth 100000
set_option maxHeartbeats 16000000
theorem qH (k:Nat) {c:Int} (hc:c=IntKind.u8.wrap (k:Int)) (l:List Bytes) (hm:l≠[]) (hn:l.length≤1000) (hb: ∀s∈l,s.length≤100000):aB Tryz.prog 269 [.i .u8 c, .sl (l.map .s)] (.s (jj (eA k l))):=by
 have h:=Iy k hc [] l hm (by simpa using hn) (by simpa using hb)
 rw[List.nil_append,List.map_nil]at h;refine eW Tryz.call269 Tryz.func269 ?_;repeat' first|simp only[go_sem,seval]|refine cV h ?_|refine sB ?_|(first|apply pX|apply bX)<;>intro hc|refine⟨oD,?_⟩|exact oD|fail
theorem JU (l:Bytes) (hl:l.length≤100000):aB Tryz.prog 189 [.s l] (.s (mM l)):=by
 have h:=qH 78 (c:=78) rfl [l] (by simp) (by simp) (by simp;omega)
 simp only[List.map_cons,List.map_nil]at h;refine eW Tryz.call189 Tryz.func189 ?_;repeat' first|simp only[go_sem,seval]|refine cP h ?_|refine sB ?_|(first|apply pX|apply bX)<;>intro hc|refine⟨oD,?_⟩|exact oD|fail
 all_goals rfl
theorem pf (st l d:Bytes) (h1:st.length≤100000) (h2:l.length≤100000) (h3:d.length≤100000):aB Tryz.prog 188 [.s st, .s l, .s d] (.s (fh st l d)):=by
 have h:=qH 65 (c:=65) rfl [st,l,d] (by simp) (by simp) (by intro s hs;simp at hs;rcases hs with rfl|rfl|rfl<;>assumption)
 simp only[List.map_cons,List.map_nil]at h;refine eW Tryz.call188 Tryz.func188 ?_;repeat' first|simp only[go_sem,seval]|refine cP h ?_|refine sB ?_|(first|apply pX|apply bX)<;>intro hc|refine⟨oD,?_⟩|exact oD|fail
 all_goals rfl
theorem j5 (st l:Bytes) (xs:List Bytes) (h1:st.length≤100000) (h2:l.length≤100000) (h0:xs≠[]) (hn:xs.length≤900) (h3: ∀x∈xs,x.length≤100000):aB Tryz.prog 192 [.s st, .s l, .sl (xs.map .s)] (.s (fA st l xs)):=by
 have h:=Ix 76 (c:=76) rfl [st,l] xs h0 (by simp;omega) (by intro s hs;simp at hs;rcases hs with rfl|rfl|hs<;>first|assumption|exact h3 s hs)
 simp only[List.map_cons,List.map_nil]at h;refine eW Tryz.call192 Tryz.func192 ?_;repeat' first|simp only[go_sem,seval]|refine cP h ?_|refine sB ?_|(first|apply pX|apply bX)<;>intro hc|refine⟨oD,?_⟩|exact oD|fail
 all_goals rfl
theorem GI (st l:Bytes) (n:Bool) (a:Bytes) (h1:st.length≤100000) (h2:l.length≤100000) (h3:a.length≤99999):aB Tryz.prog 270 [.s st, .s l, .sl [.agg [.b n, .s a]]] (.s (zJ st l [(n,a)])):=by
 have h:=Iw 73 (c:=73) rfl [st,l] n a (by simp) (by intro s hs;simp at hs;rcases hs with rfl|rfl|rfl<;>first|assumption|(simp[js];omega))
 simp only[List.map_cons,List.map_nil]at h;refine eW Tryz.call270 Tryz.func270 ?_;repeat' first|simp only[go_sem,seval]|refine cP h ?_|refine sB ?_|(first|apply pX|apply bX)<;>intro hc|refine⟨oD,?_⟩|exact oD|fail
 all_goals rfl
theorem gF:18446744073709551616+18446744073709551616<dt:=by decide+kernel
theorem KG {a b m:Nat} (ha:a<m) (hb:b<m) (hm:m<18446744073709551616):aB Tryz.prog 230 [N a,N b,N m] (N ((a+b)%m)):=by
 have hW:=gF;have h1:=oK (a:=m) (b:=b) (by omega) (by omega)
 have h2:=lV (a:=a) (b:=m-b) (by omega) (by omega)
 by_cases hge:m-b≤a
 ·have h3:=oK (a:=a) (b:=m-b) hge (by omega)
  have h4: ∀ _:True,(0:Int)≤aT a (m-b):=fun _=>kj.2 hge
  have h5: ∀ _:True,decide (aT a (m-b)≥0)=true:=fun _=>decide_eq_true (h4 trivial)
  have e:(a+b)%m=a-(m-b):=by rw[show a+b=(a-(m-b))+m by omega,Nat.add_mod_right,Nat.mod_eq_of_lt (by omega)]
  rw[e];generalize aT a (m-b)=cm at*;refine eW Tryz.call230 Tryz.func230 ?_;repeat' first|simp only[go_sem,seval,h5 trivial]|refine cP h1 ?_|refine cP h2 ?_|refine cP h3 ?_|refine sB ?_|(first|apply pX|apply bX)<;>intro hc|refine⟨oD,?_⟩|exact oD|fail
 ·have h3:=HA (a:=a) (b:=b) (by omega)
  have h4: ∀ _:True,¬(0:Int)≤aT a (m-b):=fun _ h=>hge (kj.1 h)
  have h5: ∀ _:True,decide (aT a (m-b)≥0)=false:=fun _=>decide_eq_false (h4 trivial)
  rw[Nat.mod_eq_of_lt (by omega)]
  generalize aT a (m-b)=cm at*;refine eW Tryz.call230 Tryz.func230 ?_;repeat' first|simp only[go_sem,seval,h5 trivial]|refine cP h1 ?_|refine cP h2 ?_|refine cP h3 ?_|refine sB ?_|(first|apply pX|apply bX)<;>intro hc|refine⟨oD,?_⟩|exact oD|fail
theorem sK {a b m:Nat} (ha:a<18446744073709551616) (hb:b<18446744073709551616) (hm:m<18446744073709551616) (h0:0<m):aB Tryz.prog 149 [N a,N b,N m] (.tup [N ((a+b)%m),E 0]):=by
 have hc:=fun nm=>tH nm (aK a) (aK b) (aK m)
 rw[Aj ha (vN hb) hm h0]at hc;have hp:=KG (a:=a%m) (b:=b%m) (m:=m) (Nat.mod_lt _ h0) (Nat.mod_lt _ h0) hm;rw[←Nat.add_mod]at hp;refine eW Tryz.call149 Tryz.func149 ?_;repeat' first|simp only[go_sem,seval]|(refine aP (hc _) (by simp) ?_)|refine cP (fS ha hm h0) ?_|refine cP (fS hb hm h0) ?_|refine cP hp ?_|refine sB ?_|(first|apply pX|apply bX)<;>intro hc|refine⟨oD,?_⟩|exact oD|fail
abbrev SB:TypeId:=317
theorem rY (st b:Bytes) (hs:st.length≤100000) (vb:aa b=true) (b0:b≠[]) (lb:b.length≤8):aB Tryz.prog 193 [.s st, .s b] (.tup [N (fZ st b),E 0]):=by
 have hv:=aF b;rw[vb]at hv;have hbb:(b==([]:Bytes))=false:=by simpa using b0
 have w1:=fun nm=>Q5 SB 1007 nm
 have w2:=fun nm=>L2 1014 nm 0 (by decide)
 have w3:=fun nm=>GH FR 1014 1016 nm 7 (be 8 0) (by decide) (by decide) (by decide)
 have hp:=qH 67 (c:=67) rfl [st,be 8 0] (by simp) (by simp) (by intro s hs';simp at hs';rcases hs' with rfl|rfl;exact hs;simp[cd])
 simp only[List.map_cons,List.map_nil]at hp;have hp:aB Tryz.prog 269 [.i .u8 67, .sl [.s st, .s (be 8 0)]] (.s (rf st)):=hp;have hcl:=zI st;have htr:fZ st b=num ((rf st).take (b.length+8))%num b:=rfl;rw[htr];generalize rf st=code at*;have w4:=fun nm=>SM SB OQ 1007 nm code (by omega) (by omega)
 have w5:=fun nm=>Q4 SB 1007 1022 nm 0 code (by decide)
 have w6:=fun nm=>GH SB 1007 1022 nm 0 code (by decide) (by omega) (by omega)
 have hd1: ∀ _:True,decide ((0:Int)<(b.length:Int)+8)=true:=fun _=>by simp;omega
 refine eW Tryz.call193 Tryz.func193 ?_;repeat' first|simp only[go_sem,seval,hbb]|refine cP hv ?_|refine sB ?_|(first|apply pX|apply bX)<;>intro hc|refine⟨oD,?_⟩|exact oD|fail
 refine ae ?_;repeat' first|simp only[go_sem,seval,hbb,hd1 trivial]|(refine aP (w1 _) (by simp[ai,bF]) ?_)|(refine aP (w2 _) (by simp[ai,bF]) ?_)|(refine aP (w3 _) (by simp[ai]) ?_)|(refine aP (w4 _) (by simp[ai,bF]) ?_)|refine cP hp ?_|refine sB ?_|(first|apply pX|apply bX)<;>intro hc|refine⟨oD,?_⟩|exact oD|fail
 refine ae ?_;have hd2: ∀ _:True,decide ((32:Int)<(b.length:Int)+8)=false:=fun _=>by simp;omega
 have ht8: ∀ _:True,((b.length:Int)+8).toNat=b.length+8:=fun _=>by omega
 rw[hcl]at w5;repeat' first|simp only[go_sem,seval,hcl,hd2 trivial,ht8 trivial]|(refine aP (w5 _) (by simp[ai]) ?_)|(refine aP (w6 _) (by simp[ai]) ?_)|refine sB ?_|(first|apply pX|apply bX)<;>intro hc|refine⟨oD,?_⟩|exact oD|fail
 have hll:(code.take (b.length+8)).length≤32:=by rw[List.length_take];omega
 generalize code.take (b.length+8)=l at hll⊢;have hm:=cE lb;have hm0:0<num b:=by
  rcases Nat.eq_zero_or_pos (num b)with h|h
  ·exact absurd (by have:=dy vb;rw[h]at this;injection this with h1;exact h1.symm) b0
  ·exact h
 have hN:(.s b:PV)=N (num b):=(dy vb).symm;rw[hN];generalize num b=m at*;have h256:aB Tryz.prog 31 [.i .u64 256] (N 256):=fI 256 (by decide)
 clear w1 w2 w3 w4 w5 w6 hp hd1 hd2 ht8 hv;refine aj (α:=Nat) (fun i=>l.length-i) (fun i=>⟨[(1, .v (N m)),(9, .v (N (num (l.take i)%m))),(37, .v (.sl (l.map u8))),(38,E' l.length),(39,E' i)],[],_⟩) (fun i=>i≤l.length) 0 (fun _=>Nat.le_refl _) (Nat.zero_le _) ?_ ?_
 ·(refine AS.Le.of (by first|decide|omega) ?_ ?_<;>simp[bL,bK,aD,ai,AV.bd,AV.bd.bdL,u8,af,ah,ak])
  all_goals (rw[show num []=0 from rfl,Nat.zero_mod];rfl)
 ·intro i hi R hR
  by_cases hit:i<l.length
  ·have e2:=getD_map u8 l 0 hit;have hgo:=hR (i+1) (by omega) (by omega)
   rw[kL hit]at hgo;have hc:(l.getD i 0).toNat<256:=(l.getD i 0).toNat_lt;have hou:aB Tryz.prog 31 [.i .u64 ((l.getD i 0).toNat:Nat)] (N (l.getD i 0).toNat):=fI _ (by omega)
   have w1: ∀ _:True,IntKind.u64.wrap (((l.getD i 0).toNat:Nat):Int)=(((l.getD i 0).toNat:Nat):Int):=fun _=>by rw[Dk];omega
   generalize (l.getD i 0)=y at*;generalize num (l.take i)=x at*;have hx:x%m<m:=Nat.mod_lt _ hm0;have hx2:x%m*256%m<m:=Nat.mod_lt _ hm0;have h1:=jU (a:=x%m) (b:=256) (m:=m) (by omega) (by decide) hm hm0
   have h2:=sK (a:=x%m*256%m) (b:=y.toNat) (m:=m) (by omega) (by omega) hm hm0
   have e:(x%m*256%m+y.toNat)%m=(x*256+y.toNat)%m:=by
    rw[Nat.add_mod,Nat.mod_mod,←Nat.add_mod,Nat.add_mod (x%m*256),Nat.mod_mul_mod,←Nat.add_mod]
   rw[e]at h2;clear hR hi e;repeat' first|simp only[go_sem,seval,e2,w1 trivial]|refine cP h256 ?_|refine cP h1 ?_|refine cP h2 ?_|refine cP hou ?_|refine sB ?_|(first|apply pX|apply bX)<;>intro hc|refine⟨oD,?_⟩|exact oD|fail
   all_goals (refine hgo _ ?_)
   (refine AS.Le.of (by first|decide|omega) ?_ ?_<;>simp[bL,bK,aD,ai,AV.bd,AV.bd.bdL,u8,af,ah,ak])
   all_goals first|omega|skip
  ·have h:i=l.length:=by omega
   rw[h,List.take_length];repeat' first|simp only[go_sem,seval]|refine sB ?_|(first|apply pX|apply bX)<;>intro hc|refine⟨oD,?_⟩|exact oD|fail
end Go.Proofs.YtmobkhegihemeaaGreatDoor
namespace Go.Proofs.YtmobkhegihemeaaGreatDoor
open Go Go.Dom Go.Num
set_option maxRecDepth 100000
set_option maxHeartbeats 16000000
theorem Rg {a b m:Nat} (h0:0<m):(((a:Int)-b)%m).toNat=if b%m=0 then a%m else(a%m+(m-b%m))%m:=by
 have h1:((a:Int)-b)%m=(((a%m:Nat):Int)-((b%m:Nat):Int))%m:=by rw[Int.natCast_emod,Int.natCast_emod,←Int.sub_emod]
 have hb:=Nat.mod_lt b h0;rw[h1];split
 ·rename_i h;rw[h,show(((a%m:Nat):Int)-((0:Nat):Int))=((a%m:Nat):Int) by omega,←Int.natCast_emod,Int.toNat_natCast,Nat.mod_mod]
 ·rw[←Int.add_emod_right,show(((a%m:Nat):Int)-((b%m:Nat):Int)+(m:Int))=((a%m+(m-b%m):Nat):Int) by omega,←Int.natCast_emod,Int.toNat_natCast]
theorem A3 {a b m:Nat} (ha:a<18446744073709551616) (hb:b<18446744073709551616) (hm:m<18446744073709551616) (h0:0<m):aB Tryz.prog 219 [N a,N b,N m] (.tup [N (((a:Int)-b)%m).toNat,E 0]):=by
 have hW:=gF;have hc:=fun nm=>tH nm (aK a) (aK b) (aK m)
 rw[Aj ha (vN hb) hm h0]at hc;have r1:=fS ha hm h0;have r2:=fS hb hm h0;have hlb:=Nat.mod_lt b h0;rw[Rg h0]
 by_cases hz:b%m=0
 ·rw[if_pos hz];rw[hz]at r2;have z0:(aK 0==([]:Bytes))=true:=by decide
  refine eW Tryz.call219 Tryz.func219 ?_;repeat' first|simp only[go_sem,seval,z0]|(refine aP (hc _) (by simp) ?_)|refine cP r1 ?_|refine cP r2 ?_|refine sB ?_|(first|apply pX|apply bX)<;>intro hc|refine⟨oD,?_⟩|exact oD|fail
 ·rw[if_neg hz];have hs:=oK (a:=m) (b:=b%m) (by omega) (by omega)
  have hp:=KG (a:=a%m) (b:=m-b%m) (m:=m) (Nat.mod_lt _ h0) (by omega) hm
  have en:(aK (b%m)==([]:Bytes))=false:=wX (by omega)
  refine eW Tryz.call219 Tryz.func219 ?_;repeat' first|simp only[go_sem,seval,en]|(refine aP (hc _) (by simp) ?_)|refine cP r1 ?_|refine cP r2 ?_|refine cP hs ?_|refine cP hp ?_|refine sB ?_|(first|apply pX|apply bX)<;>intro hc|refine⟨oD,?_⟩|exact oD|fail
end Go.Proofs.YtmobkhegihemeaaGreatDoor
namespace Go.Proofs.YtmobkhegihemeaaGreatDoor
open Go Go.Dom
set_option maxRecDepth 100000
set_option maxHeartbeats 16000000
def ru (b:Bytes) (i:Nat):dL:=⟨b,i,false,[1]⟩
structure R6 (s:bQ):Prop where
 l:s.eqs.length=s.vars.length
 t: ∀i,i<s.eqs.length→ ∃b,(s.eqs.getD i gH).terms=[ru b i]

end Go.Proofs.YtmobkhegihemeaaGreatDoor
namespace Go.Proofs.YtmobkhegihemeaaGreatDoor
open Go Go.Dom Go.Num
set_option maxRecDepth 100000
set_option maxHeartbeats 16000000
theorem qX: ∀l:Bytes,(eF l).length≤l.length
 |[]=>Nat.le_refl _
 |x::r=>by
  rw[eF];split
  ·have:=qX r;rw[List.length_cons];omega
  ·exact Nat.le_refl _
theorem ou: ∀l:Bytes,((eF l).length==0||(eF l).headD 0 !=0)=true
 |[]=>rfl
 |x::r=>by
  rw[eF];split
  ·exact ou r
  ·rename_i h;simp[h]
theorem Cv (l:Bytes) (d:Nat):(A4 l d).length=l.length:=by cases l<;>rfl
theorem pz (sd:Bytes) (at' a:Nat) {len:Nat} (h:len≤1024):aa (yp sd at' a len)=true:=by
 unfold aa;rw[Bool.and_eq_true];refine⟨decide_eq_true ?_,ou _⟩;have:=qX (A4 ((lT sd at' a (jz ((len+7)/8))).take ((len+7)/8)) (8*((len+7)/8)-len));rw[Cv,List.length_take]at this;unfold yp;omega
def xF (f:Nat→Bytes) (n a:Nat):Nat→Option Bytes
 |0=>none
 |k+1=>if num (f a)<n then some (f a)else xF f n (a+1) k
def dw (vs:List Bytes) (sd:Bytes) (i:Nat) (n:Bytes):Except Int Bytes:=
 if i<vs.length then(if num n≤num (vs.getD i [])then .error 2 else .ok (vs.getD i []))
 else if sd=[]∨i=2147483647 then .error 14
 else match xF (fun a=>yp sd i a (dh (num n))) (num n) 0 256 with
  |some x=> .ok x
  |none=> .error 14
def iy (vs:List Bytes) (sd:Bytes) (i:Nat):Except Int Bytes→PV
 | .ok x=> .tup [.s x,T vs sd (i+1:Nat),E 0]
 | .error e=> .tup [.s [],T [] [] 0,E e]
theorem vO {n:Bytes} (hn:aa n=true):dh (num n)≤1024:=by
 have h1:=bR n;have h2:n.length≤128:=by
  unfold aa at hn;rw[Bool.and_eq_true]at hn;exact of_decide_eq_true hn.1
 have h3:num n<2^1024:=Nat.lt_of_lt_of_le h1 (by rw[show(2:Nat)^1024=256^128 by decide+kernel];exact Nat.pow_le_pow_right (by decide) h2)
 unfold dh;split
 ·omega
 ·rename_i h;have:=(Nat.log2_lt h).2 h3;omega
theorem Ej (x y:Nat):decide (aT x y<0)=decide (x<y):=by
 have e:=pI x y;rw[eq_iff_iff]at e;rw[decide_eq_decide];omega
theorem L9 (x y:Nat):decide (aT x y≥0)= !decide (x<y):=by
 have e:=pI x y;rw[eq_iff_iff]at e
 by_cases h:x<y
 ·rw[decide_eq_true h,decide_eq_false (fun g=>by have:=e.1 g;omega)];rfl
 ·rw[decide_eq_false h,decide_eq_true (e.2 (by omega))];rfl
theorem pO {vs:List Bytes} {sd:Bytes} {i:Nat} {n:Bytes} (hv:vs.all aa=true) (hn:aa n=true) (h0:num n≠0) (hi:i≤2147483647) (hl:vs.length<1000000) (hsd:sd.length<1000000):aB Tryz.prog 111 [T vs sd i, .s n] (iy vs sd i (dw vs sd i n)):=by
 by_cases hiv:i<vs.length
 ·have h:=Ig sd hv hn hiv hl;unfold Eu at h;unfold dw;rw[if_pos hiv];split
  ·rename_i hle;rw[if_pos hle]at h;exact h
  ·rename_i hle;rw[if_neg hle]at h;exact h
 unfold dw;rw[if_neg hiv]
 by_cases hs:sd=[]∨i=2147483647
 ·rw[if_pos hs];have hnl: ∀ _:True,(([]:Bytes)==[])=true:=fun _=>rfl
  have h47: ∀ _:True,((2147483647:Int)==2147483647)=true:=fun _=>rfl
  rcases hs with rfl|rfl
  ·refine eW Tryz.call111 Tryz.func111 ?_;repeat' first|simp only[go_sem,seval,hnl trivial]|refine sB ?_|(first|apply pX|apply bX)<;>intro hc|refine⟨oD,?_⟩|exact oD|fail
   all_goals rfl
  ·cases hsb:sd==[]with
   |true=>
    refine eW Tryz.call111 Tryz.func111 ?_;repeat' first|simp only[go_sem,seval,hsb]|refine sB ?_|(first|apply pX|apply bX)<;>intro hc|refine⟨oD,?_⟩|exact oD|fail
    all_goals rfl
   |false=>
    refine eW Tryz.call111 Tryz.func111 ?_;repeat' first|simp only[go_sem,seval,hsb,h47 trivial]|refine sB ?_|(first|apply pX|apply bX)<;>intro hc|refine⟨oD,?_⟩|exact oD|fail
    all_goals rfl
 rw[if_neg hs];have hs1:sd≠[]:=fun h=>hs (.inl h)
 have hs2:i≠2147483647:=fun h=>hs (.inr h)
 have hbl:=vO hn;have hb0:0<dh (num n):=by unfold dh;rw[if_neg h0];omega
 have hB:=oO hn;have hA:=fun a (ha:a<256)=>yq (vs:=vs) (sd:=sd) (at':=i) (a:=a) (len:=dh (num n)) hl hsd (by omega) (by omega) hb0 (by omega)
 have hC:=fun a=>gO (yp sd i a (dh (num n))) n
 have hV:=fun a=>pz sd i a hbl
 obtain⟨r1,r2,r3,r4⟩:=JF vs;have hsb:(sd==[])=false:=by rw[beq_eq_false_iff_ne];exact hs1
 have hi47: ∀ _:True,((i:Int)==2147483647)=false:=fun _=>by rw[beq_eq_false_iff_ne];omega
 generalize hf:(fun a=>yp sd i a (dh (num n)))=f
 have hA: ∀a:Nat,a<256→aB Tryz.prog 166 [T vs sd i, .i .i64 a, .i .i64 (dh (num n))] (.s (f a)):=by rw[←hf];exact hA
 have hC: ∀a,aB Tryz.prog 30 [.s (f a), .s n] (E (aT (num (f a)) (num n))):=by
  intro a;have h:=hC a;rw[hV,hn]at h;rw[←hf];exact h
 refine eW Tryz.call111 Tryz.func111 ?_;repeat' first|simp only[go_sem,seval,hsb,hi47 trivial]|refine sB ?_|(first|apply pX|apply bX)<;>intro hc|refine⟨oD,?_⟩|exact oD|fail
 refine⟨⟨fun x hx=>tG hx,fun y hy=>FW hy,by rw[gU];exact Nat.le_refl _⟩,?_⟩
 refine aj (α:=Nat) (fun a=>256-a) (fun a=>⟨[(73, .v (.i .i64 a)),(1, .v (.s n)),(2, .p 1000 0 0),(5, .p 1002 0 0),(7, .p 1047 0 0)],[(1000,⟨0,[.v (.sl (vs.map .s)), .v (.s sd), .v (.i .i64 i)],false,none⟩),(1002,⟨0,[.sn, .v (.s []), .v (.i .i64 0)],false,some 40⟩),(1040,⟨0,List.map AV.v (vs.map .s),false,none⟩),(1047,⟨0,[.rs 1040 0 0 vs.length 1, .v (.s sd), .v (.i .i64 ((i:Int)+1))],false,some 40⟩)],1061⟩) (fun a=>a≤256∧xF f (num n) a (256-a)=xF f (num n) 0 256) 0 (fun _=>Nat.le_refl _) ⟨Nat.zero_le _,rfl⟩ ?_ ?_
 ·refine AS.Le.of (by decide) ?_ ?_<;>simp[bL,bK,aD,ai,AV.bd,AV.bd.bdL,pS,r1,r3]
  rw[List.take_of_length_le (by simp)]
 ·rintro a ⟨ha,hst⟩ R hR;rw[←hst]
  by_cases hlt:a<256
  ·obtain⟨m,hm⟩: ∃m,256-a=m+1:=⟨255-a,by omega⟩
   have hAa:=hA a hlt;have hCa:=hC a;have hgo:=hR (a+1);rw[hm,xF]
   by_cases hle:num (f a)<num n
   ·rw[if_pos hle];have hcm: ∀ _:True,decide (aT (num (f a)) (num n)<0)=true:=fun _=>by rw[Ej];exact decide_eq_true hle
    generalize aT (num (f a)) (num n)=cm at*;repeat' first|simp only[go_sem,seval,hcm trivial,r1,r2,r3,r4,pS,dx]|refine cP hB ?_|refine cP hAa ?_|refine cP hCa ?_|refine sB ?_|(first|apply pX|apply bX)<;>intro hc|refine⟨oD,?_⟩|exact oD|fail
    rfl
   ·rw[if_neg hle];have hgo:=hgo ⟨hlt,by rw[←hst,hm,xF,if_neg hle,show 256-(a+1)=m from by omega]⟩ (by omega)
    have hcm: ∀ _:True,decide (aT (num (f a)) (num n)<0)=false:=fun _=>by rw[Ej];exact decide_eq_false hle
    generalize aT (num (f a)) (num n)=cm at*;repeat' first|simp only[go_sem,seval,hcm trivial]|refine cP hB ?_|refine cP hAa ?_|refine cP hCa ?_|refine sB ?_|(first|apply pX|apply bX)<;>intro hc|refine⟨oD,?_⟩|exact oD|fail
    refine hgo _ ?_;refine AS.Le.of (by decide) ?_ ?_<;>simp[bL,bK,aD,ai,AV.bd,AV.bd.bdL]
  ·obtain rfl:a=256:=by omega
   repeat' first|simp only[go_sem,seval]|refine sB ?_|(first|apply pX|apply bX)<;>intro hc|refine⟨oD,?_⟩|exact oD|fail
   all_goals rfl
theorem zm {vs:List Bytes} {i:Nat} {n:Bytes} (hv:vs.all aa=true) (hn:aa n=true) (h0:n≠[]) (hi:i≤2147483647):nQ vs i n=0:=by
 have h1:(vs.any fun x=> !aa x)=false:=by
  rw[Bool.eq_false_iff];intro g;obtain⟨x,hx,h⟩:=List.any_eq_true.1 g;simp[List.all_eq_true.1 hv x hx]at h
 have h2:bm vs i=true:=by
  unfold bm;rw[h1,decide_eq_true (show(i:Int)≥0 by omega),decide_eq_true (show(i:Int)≤2147483647 by omega)];rfl
 simp[nQ,h2,hn,h0]
theorem uA {n:Bytes} (hn:aa n=true) (h0:n≠[]):num n≠0:=fun h=>h0 ((qC hn).1 h)
theorem j7 {vs:List Bytes} {sd:Bytes} {i:Nat} {n:Bytes} (hv:vs.all aa=true) (hn:aa n=true) (h0:n≠[]) (hi:i≤2147483647) (hl:vs.length<1000000) (hsd:sd.length<1000000):aB Tryz.prog 61 [T vs sd i, .s n] (iy vs sd i (dw vs sd i n)):=by
 have h1:=mD vs sd i n (by omega)
 rw[zm hv hn h0 hi]at h1;have h2:=pO (sd:=sd) hv hn (uA hn h0) hi hl hsd;generalize dw vs sd i n=r at*
 cases r with
 |ok x=>
  unfold iy at*;refine eW Tryz.call61 Tryz.func61 ?_;repeat' first|simp only[go_sem,seval]|refine cP h1 ?_|refine cP h2 ?_|refine sB ?_|(first|apply pX|apply bX)<;>intro hc|refine⟨oD,?_⟩|exact oD|fail
  all_goals rfl
 |error e=>
  unfold iy at*;refine eW Tryz.call61 Tryz.func61 ?_;repeat' first|simp only[go_sem,seval]|refine cP h1 ?_|refine cP h2 ?_|refine sB ?_|(first|apply pX|apply bX)<;>intro hc|refine⟨oD,?_⟩|exact oD|fail
  all_goals rfl
theorem j9 {n i:Nat} {p:Nat→Bool} (hi:i<n) (h:p i=false):(List.range n).all p=false:=by
 rw[Bool.eq_false_iff];intro g;have:=List.all_eq_true.1 g i (List.mem_range.2 hi);rw[h]at this;cases this
theorem jN {n:Nat} {p:Nat→Bool} (h: ∀i,i<n→p i=true):(List.range n).all p=true:=by
 rw[List.all_eq_true];intro i hi;exact h i (List.mem_range.1 hi)
theorem Io {L:List Bytes} {es:List cG} (hl:L.length=es.length) (h: ∀j,j<es.length→L.getD j []=(es.getD j gH).tgt):L=es.map (·.tgt):=by
 refine List.ext_getElem (by simpa using hl) fun j h1 h2=> ?_
 have h2:j<es.length:=by simpa using h2
 have:=h j h2;rw[List.getD_eq_getElem?_getD,List.getD_eq_getElem?_getD,List.getElem?_eq_getElem h1,List.getElem?_eq_getElem h2]at this;simpa using this
end Go.Proofs.YtmobkhegihemeaaGreatDoor
namespace Go.Proofs.YtmobkhegihemeaaGreatDoor
open Go Go.Dom
set_option maxRecDepth 100000
set_option maxHeartbeats 16000000
theorem w0:IntKind.u32.wrap 0=0:=rfl
def m8 (x c:Nat):Nat:=(x*256+c)%4294967296

end Go.Proofs.YtmobkhegihemeaaGreatDoor
namespace Go.Proofs.YtmobkhegihemeaaGreatDoor
open Go Go.Dom
set_option maxRecDepth 100000
set_option maxHeartbeats 4000000
theorem zL (l:Bytes) {i:Nat} (hi:i<l.length) (h:l.getD i 0=0):dT (l.drop i)=dT (l.drop (i+1)):=by
 rw[List.drop_eq_getElem_cons hi,dT,if_pos (by rw[←h,List.getD_eq_getElem?_getD,List.getElem?_eq_getElem hi];rfl)]
theorem zM (l:Bytes) {i:Nat} (hi:i<l.length) (h:l.getD i 0≠0):dT (l.drop i)=l.drop i:=by
 rw[List.drop_eq_getElem_cons hi,dT,if_neg (by rw[List.getD_eq_getElem?_getD,List.getElem?_eq_getElem hi]at h;exact h)]
theorem Ge (l:Bytes) (hl:l.length<4611686018427387904):aB Tryz.prog 88 [.sl (l.map u8)] (.s (dT l)):=by
 refine eW Tryz.call88 Tryz.func88 ?_;simp only[go_sem,seval];refine aj (α:=Nat) (fun i=>l.length-i) (fun i=>⟨[(0, .v (.sl (l.map u8))),(3, .v (.i .i64 i))],[],_⟩) (fun i=>i≤l.length∧dT (l.drop i)=dT l) 0 (fun _=>Nat.le_refl _) ⟨Nat.zero_le _,rfl⟩ ?_ ?_
 ·exact lE
 ·rintro i ⟨hi,hx⟩ R hR
  by_cases hlt:i<l.length
  ·have e1:=IB hlt
   by_cases h0:l.getD i 0=0
   ·have e2: ∀ _:True,(((l.getD i 0).toNat:Int)==0)=true:=fun _=>by rw[h0];rfl
    repeat' first|simp only[go_sem,seval,e1,e2 trivial]|refine sB ?_|(first|apply pX|apply bX)<;>intro hc|refine⟨oD,?_⟩|exact oD|fail
    refine hR (i+1) ⟨by omega,by rw[←hx,zL l hlt h0]⟩ (by omega) _ ?_
    exact lE
   ·have e2: ∀ _:True,(((l.getD i 0).toNat:Int)==0)=false:=fun _=>by
     rw[beq_eq_false_iff_ne];intro e;exact h0 (RV e)
    rw[←hx,zM l hlt h0];repeat' first|simp only[go_sem,seval,e1,e2 trivial]|refine sB ?_|(first|apply pX|apply bX)<;>intro hc|refine⟨oD,?_⟩|exact oD|fail
    refine⟨⟨by omega,fun x hx=>pG hx⟩,fun y hy=>nB (List.mem_of_mem_drop hy),?_⟩
    rw[←List.map_drop,pE]
  ·obtain rfl:i=l.length:=by omega
   rw[←hx];repeat' first|simp only[go_sem,seval]|refine sB ?_|(first|apply pX|apply bX)<;>intro hc|refine⟨oD,?_⟩|exact oD|fail
   refine⟨⟨by omega,fun x hx=>pG hx⟩,fun y hy=>nB (List.mem_of_mem_drop hy),?_⟩
   rw[←List.map_drop,pE,List.drop_length];rfl
theorem Ns (n:Nat) (hn:n<18446744073709551616):aB Tryz.prog 39 [.i .u64 n] (.s (aK n)):=by
 refine eW Tryz.call39 Tryz.func39 ?_;repeat' first|simp only[go_sem,seval]|refine sB ?_|(first|apply pX|apply bX)<;>intro hc|refine⟨oD,?_⟩|exact oD|fail
 refine aj (α:=Nat) (fun i=>8-i) (fun i=>⟨[(0, .v (.i .u64 (n/256^i:Nat))),(3, .rs 1001 0 0 8 1),(4, .v (.i .i64 (7-(i:Int))))],[(1001,⟨0,ay (List.replicate (8-i) 0++be i n),false,none⟩)],_⟩) (fun i=>i≤8) 0 (fun _=>Nat.le_refl _) (Nat.zero_le _) ?_ ?_
 ·(refine AS.Le.of (by first|decide|omega) ?_ ?_<;>simp[bL,bK,aD,ai,AV.bd,AV.bd.bdL,u8,af,ah,ak])
  all_goals rfl
 ·intro i hi R hR;have hl:(List.replicate (8-i) (0:UInt8)++be i n).length=8:=by simp[cd];omega
  have hle:n/256^i≤n:=Nat.div_le_self _ _
  by_cases hlt:i<8
  ·have e2: ∀ _:True,((7:Int)-i).toNat=8-1-i:=fun _=>by omega
   have e3: ∀ _:True,n/256^i/256=n/256^(i+1):=fun _=>by rw[Nat.div_div_eq_div_mul,←Nat.pow_succ]
   have hle2:n/256^(i+1)≤n:=Nat.div_le_self _ _;have e4: ∀ _:True,IntKind.u64.wrap ((n/256^(i+1):Nat):Int)=((n/256^(i+1):Nat):Int):=fun _=>by
    generalize n/256^(i+1)=z at hle2⊢;exact IntWalk.u64_in _ (by omega)
   repeat' first|simp only[go_sem,seval,hl,e3 trivial,e4 trivial]|refine sB ?_|(first|apply pX|apply bX)<;>intro hc|refine⟨oD,?_⟩|exact oD|fail
   refine hR (i+1) (by omega) (by omega) _ ?_
   rw[e2 trivial,vR (c:=UInt8.ofNat (n/256^i)) (by omega) (by rw[kD,UInt8.toNat_ofNat',UInt8.toNat_ofNat',Nat.mod_mod]),gT hlt]
   (refine AS.Le.of (by first|decide|omega) ?_ ?_<;>simp[bL,bK,aD,ai,AV.bd,AV.bd.bdL,u8,af,ah,ak])
   all_goals first|omega|rfl|skip
  ·obtain rfl:i=8:=by omega
   have:=Ge (be 8 n) (by rw[cd];decide)
   have hl:(be 8 n).length=8:=cd 8 n;repeat' first|simp only[go_sem,seval,hl]|(refine gN this rfl rfl hl.symm ?_)|refine sB ?_|(first|apply pX|apply bX)<;>intro hc|refine⟨oD,?_⟩|exact oD|fail
   rw[jD (by omega)]
end Go.Proofs.YtmobkhegihemeaaGreatDoor
namespace Go.Proofs.YtmobkhegihemeaaGreatDoor
open Go Go.Dom
set_option maxRecDepth 100000
set_option maxHeartbeats 8000000



end Go.Proofs.YtmobkhegihemeaaGreatDoor
namespace Go.Proofs.YtmobkhegihemeaaGreatDoor
open Go Go.Dom
set_option maxRecDepth 100000
set_option maxHeartbeats 16000000


abbrev JN:Bytes:=[118,97,114,105,97,98,108,101]
abbrev Gm:Bytes:=[98,97,115,101]
abbrev KJ:Bytes:=[99,111,101,102,102,105,99,105,101,110,116]
abbrev Gn:Bytes:=[101,113,117,97,116,105,111,110]
abbrev JM:Bytes:=[116,97,114,103,101,116]
abbrev xB:Bytes:=[103,114,111,117,112,115]
abbrev Bm:Bytes:=[98,111,117,110,100,115]
def ss (st:Bytes) (t:dL):Bytes:=zJ (fA (fh st JN (jo t.var.toNat)) Gm [t.base]) KJ [(t.neg,t.abs)]
def sr (st:Bytes) (q:cG):Bytes:=q.terms.foldl ss (fA (fh st Gn (jo q.iE.toNat)) JM [q.tgt])
def lK (st:Bytes) (s:bQ):Bytes:=s.eqs.foldl sr (fA (fA st xB (s.groups.flatMap fun g=>[g.1,g.2])) Bm s.vars)
structure SP (s:bQ):Prop where
 g: ∃m o,s.groups=[(m,o)]∧m.length≤1000∧o.length≤1000
 v0:s.vars≠[]
 nv:s.vars.length≤64
 v: ∀b∈s.vars,b.length≤1000
 ne:s.eqs.length≤64
 q: ∀q∈s.eqs,0≤q.iE∧q.iE<100∧q.tgt.length≤1000∧ ∃t,q.terms=[t]∧0≤t.var∧t.var<100∧t.base.length≤1000∧t.abs.length≤1000
theorem pU {α β:Type} (f:β→α→β) (b:β) {l:List α} {i:Nat} (d:α) (h:i<l.length):(l.take (i+1)).foldl f b=f ((l.take i).foldl f b) (l.getD i d):=by
 rw[aN d h,List.foldl_append];rfl
theorem Dp {P:Program} [aV P] {Q:AX→AS→Prop} {nx:Nat} {bf:Option (List Nat)} {nn:Nat} {d:Option Nat} {ops:List eR} {k:Nat} {s:AS} {tr:List (Nat×List Nat×List Nat)} {K:List Fr} {nm:Nat} {f:FuncId} {α:Type} {g:α→PV} {z n ver m:Nat} {l:List α} {gr:Bool} {el:Option TypeId} {x y r:PV}
  (he:aB P f [x,y, .sl (l.map g)] r) (hrow:cC g z) (hr:r.flat=true) (hg:ai s.h n=some ⟨ver,aQ g l,gr,el⟩) (hm:m=l.length) (hK:RW P Q nx bf nn ops (k+1) (s.nW d (.v r) []) (th bf k [n] [] tr) K):
  CR P Q nx bf nn nm (.v (.fn (.func f))) [.v x, .v y, .rs n ver 0 m z] d ops k s tr K:=by
 refine ij he ?_ hr ?_
 ·simp[aI,Di hrow hm hg];rfl
 ·have:[AV.v x,AV.v y,AV.rs n ver 0 m z].flatMap (aH (ai s.h) 9)=[n]:=by simp[zQ hrow hm hg];rfl
  rw[this];exact hK

abbrev F0:PV:= .agg [.sl []]
abbrev C0:PV:= .agg [.sl [], .sl []]
theorem AZ:aB Tryz.prog 271 [F0] (.tup [E 0, .b true]):=by
 refine eW Tryz.call271 Tryz.func271 ?_;repeat' first|simp only[go_sem,seval]|refine sB ?_|(first|apply pX|apply bX)<;>intro hc|refine⟨oD,?_⟩|exact oD|fail
theorem AB:aB Tryz.prog 248 [F0,E 0] (E 0):=by
 refine eW Tryz.call248 Tryz.func248 ?_;repeat' first|simp only[go_sem,seval]|refine cP AZ ?_|refine sB ?_|(first|apply pX|apply bX)<;>intro hc|refine⟨oD,?_⟩|exact oD|fail
theorem L7:aB Tryz.prog 191 [F0] (.tup [.s [],E 0]):=by
 refine eW Tryz.call191 Tryz.func191 ?_;repeat' first|simp only[go_sem,seval]|refine cP AZ ?_|refine sB ?_|(first|apply pX|apply bX)<;>intro hc|refine⟨oD,?_⟩|exact oD|fail
theorem Ad:aB Tryz.prog 169 [C0] (E 0):=by
 refine eW Tryz.call169 Tryz.func169 ?_;repeat' first|simp only[go_sem,seval]|refine cP AB ?_|(refine ae ?_)|refine sB ?_|(first|apply pX|apply bX)<;>intro hc|refine⟨oD,?_⟩|exact oD|fail
end Go.Proofs.YtmobkhegihemeaaGreatDoor
namespace Go.Proofs.YtmobkhegihemeaaGreatDoor
open Go Go.Dom Go.Num
set_option maxRecDepth 100000
set_option maxHeartbeats 16000000
theorem IU {c sl b:Bytes} (hr:lJ c sl) (hb:b.length≤16):Mj c sl b<dt:=Nat.lt_of_le_of_lt (Nat.sub_le _ _) (ur hr hb)
end Go.Proofs.YtmobkhegihemeaaGreatDoor
namespace Go.Proofs.YtmobkhegihemeaaGreatDoor
open Go Go.Dom
set_option maxRecDepth 100000
set_option maxHeartbeats 8000000

end Go.Proofs.YtmobkhegihemeaaGreatDoor
namespace Go.Proofs.YtmobkhegihemeaaGreatDoor
open Go Go.Dom Go.Num
set_option maxRecDepth 100000
set_option maxHeartbeats 8000000

end Go.Proofs.YtmobkhegihemeaaGreatDoor
namespace Go.Proofs.YtmobkhegihemeaaGreatDoor
open Go Go.Dom Go.Num
set_option maxRecDepth 100000
set_option maxHeartbeats 16000000





theorem tx {α:Type} (l:List α) (p:α→Bool):(l.any fun x=> !p x)= !l.all p:=by
 induction l with
 |nil=>rfl
 |cons x l ih=>rw[List.any_cons,List.all_cons,ih];cases p x<;>simp
theorem jc {vs:List Bytes} {a:Int} (h:bm vs a=true):vs.all aa=true∧0≤a∧a≤2147483647:=by
 unfold bm at h;rw[tx,Bool.not_not]at h;simp only[Bool.and_eq_true,decide_eq_true_eq]at h;exact⟨h.2,h.1.1,h.1.2⟩
theorem pY {vs:List Bytes} {i:Nat} (h:vs.all aa=true) (hi:i≤2147483647):bm vs i=true:=by
 unfold bm;rw[tx,h,decide_eq_true (show(i:Int)≥0 by omega),decide_eq_true (show(i:Int)≤2147483647 by omega)];rfl
end Go.Proofs.YtmobkhegihemeaaGreatDoor
namespace Go.Proofs.YtmobkhegihemeaaGreatDoor
open Go Go.Dom
set_option maxRecDepth 100000
set_option maxHeartbeats 16000000
theorem s9 (l:List (Bool×Bytes)) (hl:l.length<1000000):aB Tryz.prog 194 [.sl (l.map cu)] (.b (l.all bH)):=by
 have l5:(l.map cu).length=l.length:=List.length_map ..;refine eW Tryz.call194 Tryz.func194 ?_;repeat' first|simp only[go_sem,seval,l5]|refine sB ?_|(first|apply pX|apply bX)<;>intro hc|refine⟨oD,?_⟩|exact oD|fail
 refine aj (α:=Nat) (fun i=>l.length-i) (fun i=>⟨[(5, .v (.sl (l.map cu))),(6,E' l.length),(7,E' i)],[],_⟩) (fun i=>i≤l.length∧(l.drop i).all bH=l.all bH) 0 (fun _=>Nat.le_refl _) ⟨Nat.zero_le _,rfl⟩ ?_ ?_
 ·exact lE
 ·rintro i ⟨hi,hf⟩ R hR;rw[←hf]
  by_cases hlt:i<l.length
  ·have e1:=getD_map cu l ie hlt;have hgo:=hR (i+1);rw[←hf]at hgo;rw[aJ ie hlt,List.all_cons]at hgo⊢;obtain⟨x,hx⟩: ∃x,x=l.getD i ie:=⟨_,rfl⟩;rw[←hx]at e1 hgo⊢;clear hx hf hR;obtain⟨n,a⟩:=x;have hv:=dJ n a;have e:bH (n,a)=(aa a&& !(n&&a==[])):=rfl;rw[e]at hgo⊢;clear e;simp only[cu]at e1;generalize (aa a&& !(n&&a==[]))=b at*;cases b
   ·repeat' first|simp only[go_sem,seval,l5,e1]|refine cP hv ?_|refine sB ?_|(first|apply pX|apply bX)<;>intro hc|refine⟨oD,?_⟩|exact oD|fail
    all_goals simp
   ·have hgo:=hgo ⟨by omega,by simp⟩ (by omega)
    repeat' first|simp only[go_sem,seval,l5,e1]|refine cP hv ?_|refine sB ?_|(first|apply pX|apply bX)<;>intro hc|refine⟨oD,?_⟩|exact oD|fail
    refine hgo _ ?_;exact lE
  ·obtain rfl:i=l.length:=by omega
   rw[List.drop_length];repeat' first|simp only[go_sem,seval,l5]|refine sB ?_|(first|apply pX|apply bX)<;>intro hc|refine⟨oD,?_⟩|exact oD|fail
   all_goals rfl


end Go.Proofs.YtmobkhegihemeaaGreatDoor
namespace Go.Proofs.YtmobkhegihemeaaGreatDoor
open Go Go.Dom Go.Num
set_option maxRecDepth 100000
set_option maxHeartbeats 16000000

end Go.Proofs.YtmobkhegihemeaaGreatDoor
