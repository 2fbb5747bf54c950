/-
  Part of the proof, part Z35. Own work.
-/
import Derived.Test.YtmobkhegihemeaaGreatDoorZ33
import Derived.Test.YtmobkhegihemeaaGreatDoorZ34
set_option linter.all false
namespace Go.Proofs.YtmobkhegihemeaaGreatDoor
open Go Go.Dom
set_option maxRecDepth 100000
set_option maxHeartbeats 16000000
theorem pM (k:Nat) {c:Int} (hc:c=IntKind.u8.wrap (k:Int)) (l:List Bytes) (hm:l≠[]) (hn:l.length≤1000) (hb: ∀s∈l,s.length≤100000):aA Tryz.prog 269 [.i .u8 c, .sl (l.map .s)] (.s (jm (eU k l))):=by
 have h:=H6 k hc [] l hm (by simpa using hn) (by simpa using hb)
 rw[List.nil_append,List.map_nil]at h;refine eW Tryz.call269 Tryz.func269 ?_;repeat' first|simp only[go_sem,seval]|refine cV h ?_|refine sB ?_|(first|apply pX|apply bX)<;>intro hc|refine⟨oD,?_⟩|exact oD|fail
theorem Ka (l:Bytes) (hl:l.length≤100000):aA Tryz.prog 189 [.s l] (.s (lW l)):=by
 have h:=pM 78 (c:=78) rfl [l] (by simp) (by simp) (by simp;omega)
 simp only[List.map_cons,List.map_nil]at h;refine eW Tryz.call189 Tryz.func189 ?_;repeat' first|simp only[go_sem,seval]|refine cP h ?_|refine sB ?_|(first|apply pX|apply bX)<;>intro hc|refine⟨oD,?_⟩|exact oD|fail
 all_goals rfl
theorem ph (st l d:Bytes) (h1:st.length≤100000) (h2:l.length≤100000) (h3:d.length≤100000):aA Tryz.prog 188 [.s st, .s l, .s d] (.s (fy st l d)):=by
 have h:=pM 65 (c:=65) rfl [st,l,d] (by simp) (by simp) (by intro s hs;simp at hs;rcases hs with rfl|rfl|rfl<;>assumption)
 simp only[List.map_cons,List.map_nil]at h;refine eW Tryz.call188 Tryz.func188 ?_;repeat' first|simp only[go_sem,seval]|refine cP h ?_|refine sB ?_|(first|apply pX|apply bX)<;>intro hc|refine⟨oD,?_⟩|exact oD|fail
 all_goals rfl
theorem kj (st l:Bytes) (xs:List Bytes) (h1:st.length≤100000) (h2:l.length≤100000) (h0:xs≠[]) (hn:xs.length≤900) (h3: ∀x∈xs,x.length≤100000):aA Tryz.prog 192 [.s st, .s l, .sl (xs.map .s)] (.s (fP st l xs)):=by
 have h:=Ii 76 (c:=76) rfl [st,l] xs h0 (by simp;omega) (by intro s hs;simp at hs;rcases hs with rfl|rfl|hs<;>first|assumption|exact h3 s hs)
 simp only[List.map_cons,List.map_nil]at h;refine eW Tryz.call192 Tryz.func192 ?_;repeat' first|simp only[go_sem,seval]|refine cP h ?_|refine sB ?_|(first|apply pX|apply bX)<;>intro hc|refine⟨oD,?_⟩|exact oD|fail
 all_goals rfl
theorem Gg (st l:Bytes) (n:Bool) (a:Bytes) (h1:st.length≤100000) (h2:l.length≤100000) (h3:a.length≤99999):aA Tryz.prog 270 [.s st, .s l, .sl [.agg [.b n, .s a]]] (.s (yX st l [(n,a)])):=by
 have h:=JW 73 (c:=73) rfl [st,l] n a (by simp) (by intro s hs;simp at hs;rcases hs with rfl|rfl|rfl<;>first|assumption|(simp[jE];omega))
 simp only[List.map_cons,List.map_nil]at h;refine eW Tryz.call270 Tryz.func270 ?_;repeat' first|simp only[go_sem,seval]|refine cP h ?_|refine sB ?_|(first|apply pX|apply bX)<;>intro hc|refine⟨oD,?_⟩|exact oD|fail
 all_goals rfl
theorem iA:18446744073709551616+18446744073709551616<bR:=by decide+kernel
theorem KH {a b m:Nat} (ha:a<m) (hb:b<m) (hm:m<18446744073709551616):aA Tryz.prog 230 [N a,N b,N m] (N ((a+b)%m)):=by
 have hW:=iA;have h1:=oV (a:=m) (b:=b) (by omega) (by omega)
 have h2:=mI (a:=a) (b:=m-b) (by omega) (by omega)
 by_cases hge:m-b≤a
 ·have h3:=oV (a:=a) (b:=m-b) hge (by omega)
  have h4: ∀ _:True,(0:Int)≤aO a (m-b):=fun _=>fQ.2 hge
  have h5: ∀ _:True,decide (aO a (m-b)≥0)=true:=fun _=>decide_eq_true (h4 trivial)
  have e:(a+b)%m=a-(m-b):=by rw[show a+b=(a-(m-b))+m by omega,Nat.add_mod_right,Nat.mod_eq_of_lt (by omega)]
  rw[e];generalize aO a (m-b)=cm at*;refine eW Tryz.call230 Tryz.func230 ?_;repeat' first|simp only[go_sem,seval,h5 trivial]|refine cP h1 ?_|refine cP h2 ?_|refine cP h3 ?_|refine sB ?_|(first|apply pX|apply bX)<;>intro hc|refine⟨oD,?_⟩|exact oD|fail
 ·have h3:=Jb (a:=a) (b:=b) (by omega)
  have h4: ∀ _:True,¬(0:Int)≤aO a (m-b):=fun _ h=>hge (fQ.1 h)
  have h5: ∀ _:True,decide (aO a (m-b)≥0)=false:=fun _=>decide_eq_false (h4 trivial)
  rw[Nat.mod_eq_of_lt (by omega)]
  generalize aO a (m-b)=cm at*;refine eW Tryz.call230 Tryz.func230 ?_;repeat' first|simp only[go_sem,seval,h5 trivial]|refine cP h1 ?_|refine cP h2 ?_|refine cP h3 ?_|refine sB ?_|(first|apply pX|apply bX)<;>intro hc|refine⟨oD,?_⟩|exact oD|fail
theorem td {a b m:Nat} (ha:a<18446744073709551616) (hb:b<18446744073709551616) (hm:m<18446744073709551616) (h0:0<m):aA Tryz.prog 149 [N a,N b,N m] (.tup [N ((a+b)%m),E 0]):=by
 have hc:=fun nm=>uA nm (aI a) (aI b) (aI m)
 rw[tu ha (vN hb) hm h0]at hc;have hp:=KH (a:=a%m) (b:=b%m) (m:=m) (Nat.mod_lt _ h0) (Nat.mod_lt _ h0) hm;rw[←Nat.add_mod]at hp;refine eW Tryz.call149 Tryz.func149 ?_;repeat' first|simp only[go_sem,seval]|(refine aR (hc _) (by simp) ?_)|refine cP (fW ha hm h0) ?_|refine cP (fW hb hm h0) ?_|refine cP hp ?_|refine sB ?_|(first|apply pX|apply bX)<;>intro hc|refine⟨oD,?_⟩|exact oD|fail
abbrev SB:TypeId:=317
theorem r8 (st b:Bytes) (hs:st.length≤100000) (vb:aa b=true) (b0:b≠[]) (lb:b.length≤8):aA Tryz.prog 193 [.s st, .s b] (.tup [N (gJ st b),E 0]):=by
 have hv:=aG b;rw[vb]at hv;have hbb:(b==([]:Bytes))=false:=by simpa using b0
 have w1:=fun nm=>Q8 SB 1007 nm
 have w2:=fun nm=>NR 1014 nm 0 (by decide)
 have w3:=fun nm=>GS FR 1014 1016 nm 7 (be 8 0) (by decide) (by decide) (by decide)
 have hp:=pM 67 (c:=67) rfl [st,be 8 0] (by simp) (by simp) (by intro s hs';simp at hs';rcases hs' with rfl|rfl;exact hs;simp[a5])
 simp only[List.map_cons,List.map_nil]at hp;have hp:aA Tryz.prog 269 [.i .u8 67, .sl [.s st, .s (be 8 0)]] (.s (qF st)):=hp;have hcl:=y9 st;have htr:gJ st b=num ((qF st).take (b.length+8))%num b:=rfl;rw[htr];generalize qF st=code at*;have w4:=fun nm=>Tq SB Pa 1007 nm code (by omega) (by omega)
 have w5:=fun nm=>QV SB 1007 1022 nm 0 code (by decide)
 have w6:=fun nm=>GS SB 1007 1022 nm 0 code (by decide) (by omega) (by omega)
 have hd1: ∀ _:True,decide ((0:Int)<(b.length:Int)+8)=true:=fun _=>by simp;omega
 refine eW Tryz.call193 Tryz.func193 ?_;repeat' first|simp only[go_sem,seval,hbb]|refine cP hv ?_|refine sB ?_|(first|apply pX|apply bX)<;>intro hc|refine⟨oD,?_⟩|exact oD|fail
 refine ae ?_;repeat' first|simp only[go_sem,seval,hbb,hd1 trivial]|(refine aR (w1 _) (by simp[ak,bF]) ?_)|(refine aR (w2 _) (by simp[ak,bF]) ?_)|(refine aR (w3 _) (by simp[ak]) ?_)|(refine aR (w4 _) (by simp[ak,bF]) ?_)|refine cP hp ?_|refine sB ?_|(first|apply pX|apply bX)<;>intro hc|refine⟨oD,?_⟩|exact oD|fail
 refine ae ?_;have hd2: ∀ _:True,decide ((32:Int)<(b.length:Int)+8)=false:=fun _=>by simp;omega
 have ht8: ∀ _:True,((b.length:Int)+8).toNat=b.length+8:=fun _=>by omega
 rw[hcl]at w5;repeat' first|simp only[go_sem,seval,hcl,hd2 trivial,ht8 trivial]|(refine aR (w5 _) (by simp[ak]) ?_)|(refine aR (w6 _) (by simp[ak]) ?_)|refine sB ?_|(first|apply pX|apply bX)<;>intro hc|refine⟨oD,?_⟩|exact oD|fail
 have hll:(code.take (b.length+8)).length≤32:=by rw[List.length_take];omega
 generalize code.take (b.length+8)=l at hll⊢;have hm:=cv lb;have hm0:0<num b:=by
  rcases Nat.eq_zero_or_pos (num b)with h|h
  ·exact absurd (by have:=dt vb;rw[h]at this;injection this with h1;exact h1.symm) b0
  ·exact h
 have hN:(.s b:PV)=N (num b):=(dt vb).symm;rw[hN];generalize num b=m at*;have h256:aA Tryz.prog 31 [.i .u64 256] (N 256):=gi 256 (by decide)
 clear w1 w2 w3 w4 w5 w6 hp hd1 hd2 ht8 hv;refine ai (α:=Nat) (fun i=>l.length-i) (fun i=>⟨[(1, .v (N m)),(9, .v (N (num (l.take i)%m))),(37, .v (.sl (l.map u8))),(38,E' l.length),(39,E' i)],[],_⟩) (fun i=>i≤l.length) 0 (fun _=>Nat.le_refl _) (Nat.zero_le _) ?_ ?_
 ·(refine AS.Le.of (by first|decide|omega) ?_ ?_<;>simp[bz,bA,aD,ak,AV.bd,AV.bd.bdL,u8,af,ah,aj])
  all_goals (rw[show num []=0 from rfl,Nat.zero_mod];rfl)
 ·intro i hi R hR
  by_cases hit:i<l.length
  ·have e2:=getD_map u8 l 0 hit;have hgo:=hR (i+1) (by omega) (by omega)
   rw[iW hit]at hgo;have hc:(l.getD i 0).toNat<256:=(l.getD i 0).toNat_lt;have hou:aA Tryz.prog 31 [.i .u64 ((l.getD i 0).toNat:Nat)] (N (l.getD i 0).toNat):=gi _ (by omega)
   have w1: ∀ _:True,IntKind.u64.wrap (((l.getD i 0).toNat:Nat):Int)=(((l.getD i 0).toNat:Nat):Int):=fun _=>by rw[B8];omega
   generalize (l.getD i 0)=y at*;generalize num (l.take i)=x at*;have hx:x%m<m:=Nat.mod_lt _ hm0;have hx2:x%m*256%m<m:=Nat.mod_lt _ hm0;have h1:=j9 (a:=x%m) (b:=256) (m:=m) (by omega) (by decide) hm hm0
   have h2:=td (a:=x%m*256%m) (b:=y.toNat) (m:=m) (by omega) (by omega) hm hm0
   have e:(x%m*256%m+y.toNat)%m=(x*256+y.toNat)%m:=by
    rw[Nat.add_mod,Nat.mod_mod,←Nat.add_mod,Nat.add_mod (x%m*256),Nat.mod_mul_mod,←Nat.add_mod]
   rw[e]at h2;clear hR hi e;repeat' first|simp only[go_sem,seval,e2,w1 trivial]|refine cP h256 ?_|refine cP h1 ?_|refine cP h2 ?_|refine cP hou ?_|refine sB ?_|(first|apply pX|apply bX)<;>intro hc|refine⟨oD,?_⟩|exact oD|fail
   all_goals (refine hgo _ ?_)
   (refine AS.Le.of (by first|decide|omega) ?_ ?_<;>simp[bz,bA,aD,ak,AV.bd,AV.bd.bdL,u8,af,ah,aj])
   all_goals first|omega|skip
  ·have h:i=l.length:=by omega
   rw[h,List.take_length];repeat' first|simp only[go_sem,seval]|refine sB ?_|(first|apply pX|apply bX)<;>intro hc|refine⟨oD,?_⟩|exact oD|fail
end Go.Proofs.YtmobkhegihemeaaGreatDoor
namespace Go.Proofs.YtmobkhegihemeaaGreatDoor
open Go Go.Dom Go.Num
set_option maxRecDepth 100000
set_option maxHeartbeats 16000000
theorem RC {a b m:Nat} (h0:0<m):(((a:Int)-b)%m).toNat=if b%m=0 then a%m else(a%m+(m-b%m))%m:=by
 have h1:((a:Int)-b)%m=(((a%m:Nat):Int)-((b%m:Nat):Int))%m:=by rw[Int.natCast_emod,Int.natCast_emod,←Int.sub_emod]
 have hb:=Nat.mod_lt b h0;rw[h1];split
 ·rename_i h;rw[h,show(((a%m:Nat):Int)-((0:Nat):Int))=((a%m:Nat):Int) by omega,←Int.natCast_emod,Int.toNat_natCast,Nat.mod_mod]
 ·rw[←Int.add_emod_right,show(((a%m:Nat):Int)-((b%m:Nat):Int)+(m:Int))=((a%m+(m-b%m):Nat):Int) by omega,←Int.natCast_emod,Int.toNat_natCast]
theorem A4 {a b m:Nat} (ha:a<18446744073709551616) (hb:b<18446744073709551616) (hm:m<18446744073709551616) (h0:0<m):aA Tryz.prog 219 [N a,N b,N m] (.tup [N (((a:Int)-b)%m).toNat,E 0]):=by
 have hW:=iA;have hc:=fun nm=>uA nm (aI a) (aI b) (aI m)
 rw[tu ha (vN hb) hm h0]at hc;have r1:=fW ha hm h0;have r2:=fW hb hm h0;have hlb:=Nat.mod_lt b h0;rw[RC h0]
 by_cases hz:b%m=0
 ·rw[if_pos hz];rw[hz]at r2;have z0:(aI 0==([]:Bytes))=true:=by decide
  refine eW Tryz.call219 Tryz.func219 ?_;repeat' first|simp only[go_sem,seval,z0]|(refine aR (hc _) (by simp) ?_)|refine cP r1 ?_|refine cP r2 ?_|refine sB ?_|(first|apply pX|apply bX)<;>intro hc|refine⟨oD,?_⟩|exact oD|fail
 ·rw[if_neg hz];have hs:=oV (a:=m) (b:=b%m) (by omega) (by omega)
  have hp:=KH (a:=a%m) (b:=m-b%m) (m:=m) (Nat.mod_lt _ h0) (by omega) hm
  have en:(aI (b%m)==([]:Bytes))=false:=lU (by omega)
  refine eW Tryz.call219 Tryz.func219 ?_;repeat' first|simp only[go_sem,seval,en]|(refine aR (hc _) (by simp) ?_)|refine cP r1 ?_|refine cP r2 ?_|refine cP hs ?_|refine cP hp ?_|refine sB ?_|(first|apply pX|apply bX)<;>intro hc|refine⟨oD,?_⟩|exact oD|fail
theorem tw (x:Bool×Bytes):aA Tryz.prog 370 [cH x] (.b (!bM x)):=by
 obtain⟨n,a⟩:=x;have hv:=dI n a;have e:bM (n,a)=(aa a&& !(n&&a==[])):=rfl;rw[e];generalize (aa a&& !(n&&a==[]))=b at*;simp only[cH];refine eW Tryz.call370 Tryz.func370 ?_;repeat' first|simp only[go_sem,seval]|refine cP hv ?_|refine sB ?_|(first|apply pX|apply bX)<;>intro hc|refine⟨oD,?_⟩|exact oD|fail
theorem Gk (l:List (Bool×Bytes)) (hl:l.length<1000000):aA Tryz.prog 337 [.sl (l.map cH)] (.b (l.all bM)):=by
 have h1:=du l _ _ (by omega) tw
 have e:(l.all bM)= !(l.any fun x=> !bM x):=by
  induction l with
  |nil=>rfl
  |cons x l ih=>
   have:=ih (by simp at hl;omega)
   rw[List.all_cons,List.any_cons,this]
   ·cases bM x<;>simp
   ·exact du l _ _ (by simp at hl;omega) tw
 rw[e];generalize (l.any fun x=> !bM x)=b at*
 refine eW Tryz.call337 Tryz.func337 ?_;repeat' first|simp only[go_sem,seval]|refine cP h1 ?_|refine sB ?_|(first|apply pX|apply bX)<;>intro hc|refine⟨oD,?_⟩|exact oD|fail
noncomputable def o5 (M:Nat) (l:List (Bool×Bytes)) (x:Nat) (t:dM):Nat:=
 x*br M (br M (num t.base) t.neg (num t.abs)) (l.getD t.var.toNat ij).1 (num (l.getD t.var.toNat ij).2)%M
noncomputable def iS (gs:List (Bytes×Bytes)) (c:Bytes) (l:List (Bool×Bytes)) (q:cM):Nat:=
 q.terms.foldl (o5 (num (gs.getD q.iu.toNat ey).1) l) (br (num (gs.getD q.iu.toNat ey).1) (num q.tgt) (!(c==[])) (num c))
theorem Af {c:Bytes} (vc:aa c=true):aA Tryz.prog 352 [.agg [.b false, .s c]] (.agg [.b (!(c==[])), .s c]):=by
 have hv:=dI false c;rw[vc]at hv;have hm:=pj true c;rw[Bool.true_and]at hm;refine eW Tryz.call352 Tryz.func352 ?_;repeat' first|simp only[go_sem,seval]|refine cP hv ?_|refine cP hm ?_|refine sB ?_|(first|apply pX|apply bX)<;>intro hc|refine⟨oD,?_⟩|exact oD|fail
theorem vG {s:bT} (hs:Rx s) (h0:s.eqs≠[]) {c:Bytes} (vc:aa c=true) {l:List (Bool×Bytes)} (hlen:l.length=s.vars.length) (hl: ∀x∈l,bM x=true):aA Tryz.prog 339 [s.pv, .s c, .sl (l.map cH)] (.sl (s.eqs.map fun q=>N (iS s.groups c l q))):=by
 obtain⟨gs,vs,es⟩:=s;obtain⟨hg,hq,ng,nv,ne⟩:=hs;simp only at hg hq ng nv ne h0 hlen;have hpos:0<es.length:=List.length_pos_iff.2 h0;have l1:(gs.map dY).length=gs.length:=List.length_map ..;have l3:(es.map cM.pv).length=es.length:=List.length_map ..;have l5:(l.map cH).length=l.length:=List.length_map ..;have fr:=kz vc;have ng':=Af vc;have hM:cU (fun q=>N (iS gs c l q)) 1:=⟨fun _=>rfl,fun _ y hy=>by cases List.mem_singleton.1 hy;rfl,fun _ _=>rfl,fun h=>absurd rfl h⟩
 have row1: ∀{i:Nat},i<es.length→aV (fun q=>N (iS gs c l q)) (es.take (i+1))=aV (fun q=>N (iS gs c l q)) (es.take i)++[.v (N (iS gs c l (es.getD i gM)))]:=fun h=>by
  rw[aP gM h,cq];rfl
 have rn1:aV (fun q=>N (iS gs c l q)) []=[]:=rfl
 unfold bT.pv;simp only;refine eW Tryz.call339 Tryz.func339 ?_;repeat' first|simp only[go_sem,seval,l3]|refine sB ?_|(first|apply pX|apply bX)<;>intro hc|refine⟨oD,?_⟩|exact oD|fail
 refine ae ?_;have e1:=getD_map cM.pv es gM hpos;obtain⟨q1,q2,q3,q4,q5⟩:=hq _ (ax gM hpos);have r1:=row1 hpos;obtain⟨x,hx⟩: ∃x,x=es.getD 0 gM:=⟨_,rfl⟩;rw[←hx]at e1 q1 q2 q3 q4 q5 r1;clear hx;obtain⟨gr,tg,ts⟩:=x;simp only at q1 q2 q3 q4 q5;have hgl:gr.toNat<gs.length:=by omega
 have kg:=hg _ (ax ey hgl);have e3:=getD_map dY gs ey hgl;have hmQ:iS gs c l ⟨gr,tg,ts⟩=ts.foldl (o5 (num (gs.getD gr.toNat ey).1) l) (br (num (gs.getD gr.toNat ey).1) (num tg) (!(c==[])) (num c)):=rfl;obtain⟨z,hz⟩: ∃z,z=gs.getD gr.toNat ey:=⟨_,rfl⟩;rw[←hz]at q3 q5 kg e3 hmQ;clear hz;obtain⟨m,o⟩:=z;simp only at q3 q5 kg hmQ;obtain⟨vt,gt⟩:=(bG kg.1).1 q3;have m1:=(fY kg.1).2.2.1;have hzc:(!(c==[])&&c==[])=false:=by cases(c==([]:Bytes))<;>rfl
 have xe:=fS kg.2.1 kg.2.2 kg.1 gt vc hzc;rw[dt vt]at xe;have gx0:=gt.br m1 (!(c==[])) (num c);obtain⟨x0,hx0⟩: ∃x0,x0=br (num m) (num tg) (!(c==[])) (num c):=⟨_,rfl⟩;rw[←hx0]at xe gx0 hmQ;rw[hmQ]at r1;clear hx0 hmQ gt vt;have l4:(ts.map dM.pv).length=ts.length:=List.length_map ..;simp only[dY]at e3;simp only[cM.pv]at e1;repeat' first|simp only[go_sem,seval,l1,l3,e1,e3,l4]|refine cP fr ?_|refine cP ng' ?_|refine cP xe ?_|refine sB ?_|(first|apply pX|apply bX)<;>intro hc|refine⟨oD,?_⟩|exact oD|fail
 refine ai (α:=Nat×Nat) (fun s=>ts.length-s.1) (fun s=>⟨[(1, .v (.s c)),(2, .v (.sl (l.map cH))),(3, .p 1000 0 0),(7, .sn),(18, .v (.sl (es.map cM.pv))),(19,E' es.length),(20,E' 0),(10, .p 1018 0 0),(11, .v (N s.2)),(41, .v (.sl (ts.map dM.pv))),(42,E' ts.length),(43,E' s.1)],[(1000,⟨0,[.v (.sl (gs.map dY)), .v (.sl (vs.map bV)), .v (.sl (es.map cM.pv))],false,none⟩),(1018,⟨0,[.v (.s m), .v (.s o)],false,some 24⟩)],1036⟩) (fun s=>s.1≤ts.length∧GP m o s.2∧(ts.drop s.1).foldl (o5 (num m) l) s.2=ts.foldl (o5 (num m) l) x0) (0,x0) (fun _=>Nat.le_of_ble_eq_true rfl) ⟨Nat.zero_le _,gx0,rfl⟩ ?_ ?_
 ·(refine AS.Le.of (by first|decide|omega) ?_ ?_<;>simp[bz,bA,aD,ak,AV.bd,AV.bd.bdL,u8,af,ah,aj])
  skip
 ·rintro⟨j,x⟩ ⟨hj,gx,hf⟩ R' hR';simp only at hj gx hf
  by_cases hjt:j<ts.length
  ·have e2:=getD_map dM.pv ts gI hjt;obtain⟨t1,t2,t3,t4⟩:=q5 _ (ax gI hjt);rw[aK gI hjt]at hf;obtain⟨y,hy⟩: ∃y,y=ts.getD j gI:=⟨_,rfl⟩;rw[←hy]at e2 t1 t2 t3 t4 hf;obtain⟨b,v,n,a⟩:=y;simp only at t1 t2 t3 t4;rw[List.foldl_cons]at hf;obtain⟨kb1,kb2⟩:=(bG kg.1).1 t3;have hvl:v.toNat<l.length:=by omega
   have e4:=getD_map cH l ij hvl;have kr:=hl _ (ax ij hvl);have hmT:o5 (num m) l x ⟨b,v,n,a⟩=x*br (num m) (br (num m) (num b) n (num a)) (l.getD v.toNat ij).1 (num (l.getD v.toNat ij).2)%num m:=rfl;obtain⟨w,hw⟩: ∃w,w=l.getD v.toNat ij:=⟨_,rfl⟩;rw[←hw]at e4 kr hmT;obtain⟨rn,ra⟩:=w;simp only[bM,Bool.and_eq_true,Bool.not_eq_true']at t4 kr;have m1:=(fY kg.1).2.2.1;have x1:=fS kg.2.1 kg.2.2 kg.1 kb2 t4.1 t4.2;rw[dt kb1]at x1;have gy:=kb2.br m1 n (num a);have x2:=fS kg.2.1 kg.2.2 kg.1 gy kr.1 kr.2;have gz:=gy.br m1 rn (num ra);have x3:=BN kg.2.1 kg.2.2 kg.1 gx gz;have hgo':=hR' (j+1,o5 (num m) l x ⟨b,v,n,a⟩) ⟨by show j+1≤ _;omega,by rw[hmT];exact gx.mul gz,hf⟩ (by show ts.length-(j+1)<ts.length-j;omega)
   rw[hmT]at hgo';clear hR' hy t3 t4 q5 hf hw kb1 kb2 gx gy gz hmT kr;simp only[dM.pv]at e2;simp only[cH]at e4;have hd3: ∀ _:True,v<(l.length:Int):=fun _=>by omega
   generalize br (num m) (br (num m) (num b) n (num a)) rn (num ra)=z at*;generalize br (num m) (num b) n (num a)=y at*;repeat' first|simp only[go_sem,seval,l3,l4,l5,e2,e4]|refine cP x1 ?_|refine cP x2 ?_|refine cP x3 ?_|refine sB ?_|(first|apply pX|apply bX)<;>intro hc|refine⟨oD,?_⟩|exact oD|fail
   refine hgo' _ ?_
   (refine AS.Le.of (by first|decide|omega) ?_ ?_<;>simp[bz,bA,aD,ak,AV.bd,AV.bd.bdL,u8,af,ah,aj])
   skip
  ·obtain rfl:j=ts.length:=by omega
   rw[List.drop_length]at hf;simp only[List.foldl_nil]at hf;subst hf;repeat' first|simp only[go_sem,seval,l3,l4]|refine sB ?_|(first|apply pX|apply bX)<;>intro hc|refine⟨oD,?_⟩|exact oD|fail
   refine ai (α:=Nat) (fun j=>es.length-(j+1)) (fun j=>⟨[(1, .v (.s c)),(2, .v (.sl (l.map cH))),(3, .p 1000 0 0),(7, .rs 1040 j 0 (j+1) 1),(18, .v (.sl (es.map cM.pv))),(19,E' es.length),(20,E' (j+1))],[(1000,⟨0,[.v (.sl (gs.map dY)), .v (.sl (vs.map bV)), .v (.sl (es.map cM.pv))],false,none⟩),(1040,⟨j,aV (fun q=>N (iS gs c l q)) (es.take (j+1)),true,some 22⟩)],1044⟩) (fun j=>j+1≤es.length) 0 (fun _=>Nat.le_of_ble_eq_true rfl) hpos ?_ ?_
   ·rw[Nat.zero_add,r1,List.take_zero,rn1];exact lE
   ·clear e1 e3 q1 q2 q3 q4 q5 kg gx0 xe r1 l4;intro i hi R hR;have hj1:(es.take (i+1)).length=i+1:=by rw[List.length_take];omega
    have p1:=cf hM (es.take (i+1));have p2:=cz hM (es.take (i+1));rw[hj1,Nat.mul_one]at p1 p2;have hw1: ∀ _:True,((i:Int)+1)=((i+1:Nat):Int):=fun _=>by omega
    by_cases hlt:i+1<es.length
    ·have hgo:=hR (i+1) (by omega) (by omega)
     clear hR;have e1:=getD_map cM.pv es gM hlt;obtain⟨q1,q2,q3,q4,q5⟩:=hq _ (ax gM hlt);have r1:=row1 hlt;obtain⟨x,hx⟩: ∃x,x=es.getD (i+1) gM:=⟨_,rfl⟩;rw[←hx]at e1 q1 q2 q3 q4 q5 r1;clear hx;obtain⟨gr,tg,ts⟩:=x;simp only at q1 q2 q3 q4 q5;have hgl:gr.toNat<gs.length:=by omega
     have kg:=hg _ (ax ey hgl);have e3:=getD_map dY gs ey hgl;have hmQ:iS gs c l ⟨gr,tg,ts⟩=ts.foldl (o5 (num (gs.getD gr.toNat ey).1) l) (br (num (gs.getD gr.toNat ey).1) (num tg) (!(c==[])) (num c)):=rfl;obtain⟨z,hz⟩: ∃z,z=gs.getD gr.toNat ey:=⟨_,rfl⟩;rw[←hz]at q3 q5 kg e3 hmQ;clear hz;obtain⟨m,o⟩:=z;simp only at q3 q5 kg hmQ;obtain⟨vt,gt⟩:=(bG kg.1).1 q3;have m1:=(fY kg.1).2.2.1;have hzc:(!(c==[])&&c==[])=false:=by cases(c==([]:Bytes))<;>rfl
     have xe:=fS kg.2.1 kg.2.2 kg.1 gt vc hzc;rw[dt vt]at xe;have gx0:=gt.br m1 (!(c==[])) (num c);obtain⟨x0,hx0⟩: ∃x0,x0=br (num m) (num tg) (!(c==[])) (num c):=⟨_,rfl⟩;rw[←hx0]at xe gx0 hmQ;rw[hmQ]at r1;clear hx0 hmQ gt vt;have l4:(ts.map dM.pv).length=ts.length:=List.length_map ..;simp only[dY]at e3;simp only[cM.pv]at e1;rw[r1]at hgo;repeat' first|simp only[go_sem,seval,l1,l3,e1,e3,l4]|refine cP fr ?_|refine cP ng' ?_|refine cP xe ?_|refine sB ?_|(first|apply pX|apply bX)<;>intro hc|refine⟨oD,?_⟩|exact oD|fail
     refine ai (α:=Nat×Nat) (fun s=>ts.length-s.1) (fun s=>⟨[(1, .v (.s c)),(2, .v (.sl (l.map cH))),(3, .p 1000 0 0),(7, .rs 1040 i 0 (i+1) 1),(18, .v (.sl (es.map cM.pv))),(19,E' es.length),(20,E' (i+1)),(10, .p 1055 0 0),(11, .v (N s.2)),(41, .v (.sl (ts.map dM.pv))),(42,E' ts.length),(43,E' s.1)],[(1000,⟨0,[.v (.sl (gs.map dY)), .v (.sl (vs.map bV)), .v (.sl (es.map cM.pv))],false,none⟩),(1055,⟨0,[.v (.s m), .v (.s o)],false,some 24⟩),(1040,⟨i,aV (fun q=>N (iS gs c l q)) (es.take (i+1)),true,some 22⟩)],1073⟩) (fun s=>s.1≤ts.length∧GP m o s.2∧(ts.drop s.1).foldl (o5 (num m) l) s.2=ts.foldl (o5 (num m) l) x0) (0,x0) (fun _=>Nat.le_of_ble_eq_true rfl) ⟨Nat.zero_le _,gx0,rfl⟩ ?_ ?_
     ·(refine AS.Le.of (by first|decide|omega) ?_ ?_<;>simp[bz,bA,aD,ak,AV.bd,AV.bd.bdL,u8,af,ah,aj])
      all_goals (intro c hc;exact cJ hc)
     ·rintro⟨j,x⟩ ⟨hj,gx,hf⟩ R' hR';simp only at hj gx hf
      by_cases hjt:j<ts.length
      ·have e2:=getD_map dM.pv ts gI hjt;obtain⟨t1,t2,t3,t4⟩:=q5 _ (ax gI hjt);rw[aK gI hjt]at hf;obtain⟨y,hy⟩: ∃y,y=ts.getD j gI:=⟨_,rfl⟩;rw[←hy]at e2 t1 t2 t3 t4 hf;obtain⟨b,v,n,a⟩:=y;simp only at t1 t2 t3 t4;rw[List.foldl_cons]at hf;obtain⟨kb1,kb2⟩:=(bG kg.1).1 t3;have hvl:v.toNat<l.length:=by omega
       have e4:=getD_map cH l ij hvl;have kr:=hl _ (ax ij hvl);have hmT:o5 (num m) l x ⟨b,v,n,a⟩=x*br (num m) (br (num m) (num b) n (num a)) (l.getD v.toNat ij).1 (num (l.getD v.toNat ij).2)%num m:=rfl;obtain⟨w,hw⟩: ∃w,w=l.getD v.toNat ij:=⟨_,rfl⟩;rw[←hw]at e4 kr hmT;obtain⟨rn,ra⟩:=w;simp only[bM,Bool.and_eq_true,Bool.not_eq_true']at t4 kr;have m1:=(fY kg.1).2.2.1;have x1:=fS kg.2.1 kg.2.2 kg.1 kb2 t4.1 t4.2;rw[dt kb1]at x1;have gy:=kb2.br m1 n (num a);have x2:=fS kg.2.1 kg.2.2 kg.1 gy kr.1 kr.2;have gz:=gy.br m1 rn (num ra);have x3:=BN kg.2.1 kg.2.2 kg.1 gx gz;have hgo':=hR' (j+1,o5 (num m) l x ⟨b,v,n,a⟩) ⟨by show j+1≤ _;omega,by rw[hmT];exact gx.mul gz,hf⟩ (by show ts.length-(j+1)<ts.length-j;omega)
       rw[hmT]at hgo';clear hR' hy t3 t4 q5 hf hw kb1 kb2 gx gy gz hmT kr;simp only[dM.pv]at e2;simp only[cH]at e4;have hd3: ∀ _:True,v<(l.length:Int):=fun _=>by omega
       generalize br (num m) (br (num m) (num b) n (num a)) rn (num ra)=z at*;generalize br (num m) (num b) n (num a)=y at*;repeat' first|simp only[go_sem,seval,l3,l4,l5,e2,e4]|refine cP x1 ?_|refine cP x2 ?_|refine cP x3 ?_|refine sB ?_|(first|apply pX|apply bX)<;>intro hc|refine⟨oD,?_⟩|exact oD|fail
       refine hgo' _ ?_
       (refine AS.Le.of (by first|decide|omega) ?_ ?_<;>simp[bz,bA,aD,ak,AV.bd,AV.bd.bdL,u8,af,ah,aj])
       all_goals (intro c hc;exact cJ hc)
      ·obtain rfl:j=ts.length:=by omega
       rw[List.drop_length]at hf;simp only[List.foldl_nil]at hf;subst hf;repeat' first|simp only[go_sem,seval,l3,l4,p1,p2]|refine sB ?_|(first|apply pX|apply bX)<;>intro hc|refine⟨oD,?_⟩|exact oD|fail
       refine hgo _ ?_
       (refine AS.Le.of (by first|decide|omega) ?_ ?_<;>simp[bz,bA,aD,ak,AV.bd,AV.bd.bdL,u8,af,ah,aj])
       all_goals (intro c hc;rcases hc with h|h<;>first|exact cJ h|(subst h;rfl))
    ·obtain hjv:i+1=es.length:=by omega
     rw[hjv,List.take_length]at p1 p2;rw[hjv,List.take_length];have p3:=dw hM es;have p4:chunk 1 es.length (List.flatMap (fun x=>[PV.s (aI (iS gs c l x))]) es)=es.map fun q=>N (iS gs c l q):=cr hM es
     repeat' first|simp only[go_sem,seval,l3,p1,p2,p3,p4,dr]|refine sB ?_|(first|apply pX|apply bX)<;>intro hc|refine⟨oD,?_⟩|exact oD|fail
end Go.Proofs.YtmobkhegihemeaaGreatDoor
namespace Go.Proofs.YtmobkhegihemeaaGreatDoor
open Go Go.Dom
set_option maxRecDepth 100000
set_option maxHeartbeats 16000000
def sF (b:Bytes) (i:Nat):dM:=⟨b,i,false,[1]⟩
structure Tb (s:bT):Prop where
 l:s.eqs.length=s.vars.length
 t: ∀i,i<s.eqs.length→ ∃b,(s.eqs.getD i gM).terms=[sF b i]

end Go.Proofs.YtmobkhegihemeaaGreatDoor
namespace Go.Proofs.YtmobkhegihemeaaGreatDoor
open Go Go.Dom Go.Num
set_option maxRecDepth 100000
set_option maxHeartbeats 16000000
theorem kn {n i:Nat} {p:Nat→Bool} (hi:i<n) (h:p i=false):(List.range n).all p=false:=by
 rw[Bool.eq_false_iff];intro g;have:=List.all_eq_true.1 g i (List.mem_range.2 hi);rw[h]at this;cases this
theorem jY {n:Nat} {p:Nat→Bool} (h: ∀i,i<n→p i=true):(List.range n).all p=true:=by
 rw[List.all_eq_true];intro i hi;exact h i (List.mem_range.1 hi)
theorem JH {L:List Bytes} {es:List cM} (hl:L.length=es.length) (h: ∀j,j<es.length→L.getD j []=(es.getD j gM).tgt):L=es.map (·.tgt):=by
 refine List.ext_getElem (by simpa using hl) fun j h1 h2=> ?_
 have h2:j<es.length:=by simpa using h2
 have:=h j h2;rw[List.getD_eq_getElem?_getD,List.getD_eq_getElem?_getD,List.getElem?_eq_getElem h1,List.getElem?_eq_getElem h2]at this;simpa using this
end Go.Proofs.YtmobkhegihemeaaGreatDoor
namespace Go.Proofs.YtmobkhegihemeaaGreatDoor
open Go Go.Dom
set_option maxRecDepth 100000
set_option maxHeartbeats 16000000
theorem w0:IntKind.u32.wrap 0=0:=rfl
def m8 (x c:Nat):Nat:=(x*256+c)%4294967296



abbrev Jo:Bytes:=[118,97,114,105,97,98,108,101]
abbrev GG:Bytes:=[98,97,115,101]
abbrev KV:Bytes:=[99,111,101,102,102,105,99,105,101,110,116]
abbrev Gn:Bytes:=[101,113,117,97,116,105,111,110]
abbrev HF:Bytes:=[116,97,114,103,101,116]
abbrev yB:Bytes:=[103,114,111,117,112,115]
abbrev Bc:Bytes:=[98,111,117,110,100,115]
def tR (st:Bytes) (t:dM):Bytes:=yX (fP (fy st Jo (jv t.var.toNat)) GG [t.base]) KV [(t.neg,t.abs)]
def sL (st:Bytes) (q:cM):Bytes:=q.terms.foldl tR (fP (fy st Gn (jv q.iu.toNat)) HF [q.tgt])
def mY (st:Bytes) (s:bT):Bytes:=s.eqs.foldl sL (fP (fP st yB (s.groups.flatMap fun g=>[g.1,g.2])) Bc s.vars)
structure Tx (s:bT):Prop where
 g: ∃m o,s.groups=[(m,o)]∧m.length≤1000∧o.length≤1000
 v0:s.vars≠[]
 nv:s.vars.length≤64
 v: ∀b∈s.vars,b.length≤1000
 ne:s.eqs.length≤64
 q: ∀q∈s.eqs,0≤q.iu∧q.iu<100∧q.tgt.length≤1000∧ ∃t,q.terms=[t]∧0≤t.var∧t.var<100∧t.base.length≤1000∧t.abs.length≤1000
theorem qf {α β:Type} (f:β→α→β) (b:β) {l:List α} {i:Nat} (d:α) (h:i<l.length):(l.take (i+1)).foldl f b=f ((l.take i).foldl f b) (l.getD i d):=by
 rw[aP d h,List.foldl_append];rfl
theorem GW {P:Program} [aX P] {Q:AX→AS→Prop} {nx:Nat} {bf:Option (List Nat)} {nn:Nat} {d:Option Nat} {ops:List fg} {k:Nat} {s:AS} {tr:List (Nat×List Nat×List Nat)} {K:List Fr} {nm:Nat} {f:FuncId} {α:Type} {g:α→PV} {z n ver m:Nat} {l:List α} {gr:Bool} {el:Option TypeId} {x y r:PV}
  (he:aA P f [x,y, .sl (l.map g)] r) (hrow:cU g z) (hr:r.flat=true) (hg:ak s.h n=some ⟨ver,aV g l,gr,el⟩) (hm:m=l.length) (hK:RW P Q nx bf nn ops (k+1) (s.nV d (.v r) []) (tF bf k [n] [] tr) K):
  CR P Q nx bf nn nm (.v (.fn (.func f))) [.v x, .v y, .rs n ver 0 m z] d ops k s tr K:=by
 refine po he ?_ hr ?_
 ·simp[aJ,DH hrow hm hg];rfl
 ·have:[AV.v x,AV.v y,AV.rs n ver 0 m z].flatMap (aH (ak s.h) 9)=[n]:=by simp[zF hrow hm hg];rfl
  rw[this];exact hK

abbrev F0:PV:= .agg [.sl []]
abbrev C0:PV:= .agg [.sl [], .sl []]
theorem Bu:aA Tryz.prog 271 [F0] (.tup [E 0, .b true]):=by
 refine eW Tryz.call271 Tryz.func271 ?_;repeat' first|simp only[go_sem,seval]|refine sB ?_|(first|apply pX|apply bX)<;>intro hc|refine⟨oD,?_⟩|exact oD|fail
theorem Bk:aA Tryz.prog 248 [F0,E 0] (E 0):=by
 refine eW Tryz.call248 Tryz.func248 ?_;repeat' first|simp only[go_sem,seval]|refine cP Bu ?_|refine sB ?_|(first|apply pX|apply bX)<;>intro hc|refine⟨oD,?_⟩|exact oD|fail
theorem NS:aA Tryz.prog 191 [F0] (.tup [.s [],E 0]):=by
 refine eW Tryz.call191 Tryz.func191 ?_;repeat' first|simp only[go_sem,seval]|refine cP Bu ?_|refine sB ?_|(first|apply pX|apply bX)<;>intro hc|refine⟨oD,?_⟩|exact oD|fail
theorem Bo:aA Tryz.prog 169 [C0] (E 0):=by
 refine eW Tryz.call169 Tryz.func169 ?_;repeat' first|simp only[go_sem,seval]|refine cP Bk ?_|(refine ae ?_)|refine sB ?_|(first|apply pX|apply bX)<;>intro hc|refine⟨oD,?_⟩|exact oD|fail
end Go.Proofs.YtmobkhegihemeaaGreatDoor
namespace Go.Proofs.YtmobkhegihemeaaGreatDoor
open Go Go.Dom Go.Num
set_option maxRecDepth 100000
set_option maxHeartbeats 16000000
theorem Ia {c sl b:Bytes} (hr:mD c sl) (hb:b.length≤16):Of c sl b<bR:=Nat.lt_of_le_of_lt (Nat.sub_le _ _) (vO hr hb)



end Go.Proofs.YtmobkhegihemeaaGreatDoor
namespace Go.Proofs.YtmobkhegihemeaaGreatDoor
open Go Go.Dom
set_option maxRecDepth 100000
set_option maxHeartbeats 16000000
def A5 (l:List (Bool×Bytes)):PV:= .sl (l.map cH)
theorem pK (l:List (Bytes)) (f:FuncId) (p:Bytes→Bool) (hl:l.length<4611686018427387904) (h: ∀x,aA Tryz.prog f [PV.s x] (.b (p x))):aA Tryz.prog 312 [.sl (l.map PV.s), .fn (.func f)] (E (bU p 0 l)):=by
 have hlm:(l.map PV.s).length=l.length:=List.length_map ..;refine eW Tryz.call312 Tryz.func312 ?_;repeat' first|simp only[go_sem,seval,hlm]|refine sB ?_|(first|apply pX|apply bX)<;>intro hc|refine⟨oD,?_⟩|exact oD|fail
 refine ai (α:=Nat) (fun i=>l.length-i) (fun i=>⟨[(0, .v (.sl (l.map PV.s))),(1, .v (.fn (.func f))),(7, .v (.i .i64 l.length)),(8, .v (.i .i64 (i:Nat)))],[],_⟩) (fun i=>i≤l.length∧bU p i (l.drop i)=bU p 0 l) 0 (fun _=>Nat.le_refl _) ⟨Nat.zero_le _,rfl⟩ ?_ ?_
 ·exact lE
 ·rintro i ⟨hi,hx⟩ R hR;rw[←hx]
  by_cases hlt:i<l.length
  ·have e1:=getD_map PV.s l [] hlt;have hf:=h (l.getD i []);have hgo:=hR (i+1);rw[←hx,aK [] hlt]at hgo;rw[aK [] hlt];simp only[bU]at hgo⊢;clear hx hR h;generalize p (l.getD i [])=b at*;generalize l.getD i []=x at*;cases b
   ·have hgo:=hgo ⟨by omega,rfl⟩ (by omega)
    repeat' first|simp only[go_sem,seval,hlm,e1]|refine cP hf ?_|refine sB ?_|(first|apply pX|apply bX)<;>intro hc|refine⟨oD,?_⟩|exact oD|fail
    refine hgo _ ?_;exact lE
   ·repeat' first|simp only[go_sem,seval,hlm,e1]|refine cP hf ?_|refine sB ?_|(first|apply pX|apply bX)<;>intro hc|refine⟨oD,?_⟩|exact oD|fail
    all_goals rfl
  ·obtain rfl:i=l.length:=by omega
   rw[List.drop_length];repeat' first|simp only[go_sem,seval,hlm]|refine sB ?_|(first|apply pX|apply bX)<;>intro hc|refine⟨oD,?_⟩|exact oD|fail
   all_goals simp[bU]
theorem iM (l:List (Bytes)) (f:FuncId) (p:Bytes→Bool) (hl:l.length<4611686018427387904) (h: ∀x,aA Tryz.prog f [PV.s x] (.b (p x))):aA Tryz.prog 245 [.sl (l.map PV.s), .fn (.func f)] (.b (l.any p)):=by
 have hi:=pK l f p hl h;have e:decide (bU p 0 l≥0)=l.any p:=by
  rw[Bool.eq_iff_iff,decide_eq_true_iff];exact eD
 refine eW Tryz.call245 Tryz.func245 ?_;repeat' first|simp only[go_sem,seval,e]|refine cP hi ?_|refine sB ?_|(first|apply pX|apply bX)<;>intro hc|refine⟨oD,?_⟩|exact oD|fail
theorem sE (l:List (List (Bool×Bytes))) (f:FuncId) (c:List PV) (p:List (Bool×Bytes)→Bool) (hl:l.length<4611686018427387904) (h: ∀x∈l,aA Tryz.prog f (A5 x::c) (.b (p x))):aA Tryz.prog 252 [.sl (l.map A5), .fc f [] c] (E (bU p 0 l)):=by
 have hlm:(l.map A5).length=l.length:=List.length_map ..;refine eW Tryz.call252 Tryz.func252 ?_;repeat' first|simp only[go_sem,seval,hlm]|refine sB ?_|(first|apply pX|apply bX)<;>intro hc|refine⟨oD,?_⟩|exact oD|fail
 refine ai (α:=Nat) (fun i=>l.length-i) (fun i=>⟨[(0, .v (.sl (l.map A5))),(1, .v (.fc f [] c)),(7, .v (.i .i64 l.length)),(8, .v (.i .i64 (i:Nat)))],[],_⟩) (fun i=>i≤l.length∧bU p i (l.drop i)=bU p 0 l) 0 (fun _=>Nat.le_refl _) ⟨Nat.zero_le _,rfl⟩ ?_ ?_
 ·exact lE
 ·rintro i ⟨hi,hx⟩ R hR;rw[←hx]
  by_cases hlt:i<l.length
  ·have e1:=getD_map A5 l [] hlt;have hf:=h (l.getD i []) (ax [] hlt);have hgo:=hR (i+1);rw[←hx,aK [] hlt]at hgo;rw[aK [] hlt];simp only[bU]at hgo⊢;clear hx hR h;generalize p (l.getD i [])=b at*;generalize l.getD i []=x at*;simp only[A5]at e1 hf;cases b
   ·have hgo:=hgo ⟨by omega,rfl⟩ (by omega)
    repeat' first|simp only[go_sem,seval,hlm,e1]|(refine b9 hf (im _ _) ?_)|refine sB ?_|(first|apply pX|apply bX)<;>intro hc|refine⟨oD,?_⟩|exact oD|fail
    refine hgo _ ?_;exact lE
   ·repeat' first|simp only[go_sem,seval,hlm,e1]|(refine b9 hf (im _ _) ?_)|refine sB ?_|(first|apply pX|apply bX)<;>intro hc|refine⟨oD,?_⟩|exact oD|fail
    all_goals rfl
  ·obtain rfl:i=l.length:=by omega
   rw[List.drop_length];repeat' first|simp only[go_sem,seval,hlm]|refine sB ?_|(first|apply pX|apply bX)<;>intro hc|refine⟨oD,?_⟩|exact oD|fail
   all_goals simp[bU]
theorem je (l:List (List (Bool×Bytes))) (f:FuncId) (c:List PV) (p:List (Bool×Bytes)→Bool) (hl:l.length<4611686018427387904) (h: ∀x∈l,aA Tryz.prog f (A5 x::c) (.b (p x))):aA Tryz.prog 173 [.sl (l.map A5), .fc f [] c] (.b (l.any p)):=by
 have hi:=sE l f c p hl h;have e:decide (bU p 0 l≥0)=l.any p:=by
  rw[Bool.eq_iff_iff,decide_eq_true_iff];exact eD
 refine eW Tryz.call173 Tryz.func173 ?_;repeat' first|simp only[go_sem,seval,e]|refine cP hi ?_|refine sB ?_|(first|apply pX|apply bX)<;>intro hc|refine⟨oD,?_⟩|exact oD|fail
theorem Fj (x:Bool×Bytes):aA Tryz.prog 344 [cH x] (.b (!bM x)):=by
 obtain⟨n,a⟩:=x;have hv:=dI n a;have e:bM (n,a)=(aa a&& !(n&&a==[])):=rfl;rw[e];generalize (aa a&& !(n&&a==[]))=b at*;simp only[cH];refine eW Tryz.call344 Tryz.func344 ?_;repeat' first|simp only[go_sem,seval]|refine cP hv ?_|refine sB ?_|(first|apply pX|apply bX)<;>intro hc|refine⟨oD,?_⟩|exact oD|fail
abbrev QG:PV:= .pt (.agg [.fn (.func 344)]) 0
theorem xO (l:List (Bool×Bytes)) (hl:l.length<4611686018427387904):aA Tryz.prog 345 [A5 l,QG] (.b (!l.all bM)):=by
 have h1:=du l _ _ hl Fj;rw[iN]at h1;unfold A5;refine eW Tryz.call345 Tryz.func345 ?_;repeat' first|simp only[go_sem,seval]|refine cP h1 ?_|refine sB ?_|(first|apply pX|apply bX)<;>intro hc|refine⟨oD,?_⟩|exact oD|fail
theorem E6 (a:Bytes):aA Tryz.prog 346 [.s a] (.b (!aa a)):=by
 have hv:=aG a;generalize aa a=b at*;refine eW Tryz.call346 Tryz.func346 ?_;repeat' first|simp only[go_sem,seval]|refine cP hv ?_|refine sB ?_|(first|apply pX|apply bX)<;>intro hc|refine⟨oD,?_⟩|exact oD|fail
theorem R8 (f:FuncId) (c:List PV):aA Tryz.prog 245 [.sl [], .fc f [] c] (.b false):=by
 have hi:aA Tryz.prog 312 [.sl [], .fc f [] c] (E (-1)):=by
  refine eW Tryz.call312 Tryz.func312 ?_;repeat' first|simp only[go_sem,seval]|(refine ae ?_)|refine sB ?_|(first|apply pX|apply bX)<;>intro hc|refine⟨oD,?_⟩|exact oD|fail
 refine eW Tryz.call245 Tryz.func245 ?_;repeat' first|simp only[go_sem,seval]|refine cP hi ?_|refine sB ?_|(first|apply pX|apply bX)<;>intro hc|refine⟨oD,?_⟩|exact oD|fail
theorem tJ (l:List (Bool×Bytes)) (hl:l.length<1000000):aA Tryz.prog 194 [.sl (l.map cH)] (.b (l.all bM)):=by
 have l5:(l.map cH).length=l.length:=List.length_map ..;refine eW Tryz.call194 Tryz.func194 ?_;repeat' first|simp only[go_sem,seval,l5]|refine sB ?_|(first|apply pX|apply bX)<;>intro hc|refine⟨oD,?_⟩|exact oD|fail
 refine ai (α:=Nat) (fun i=>l.length-i) (fun i=>⟨[(5, .v (.sl (l.map cH))),(6,E' l.length),(7,E' i)],[],_⟩) (fun i=>i≤l.length∧(l.drop i).all bM=l.all bM) 0 (fun _=>Nat.le_refl _) ⟨Nat.zero_le _,rfl⟩ ?_ ?_
 ·exact lE
 ·rintro i ⟨hi,hf⟩ R hR;rw[←hf]
  by_cases hlt:i<l.length
  ·have e1:=getD_map cH l ij hlt;have hgo:=hR (i+1);rw[←hf]at hgo;rw[aK ij hlt,List.all_cons]at hgo⊢;obtain⟨x,hx⟩: ∃x,x=l.getD i ij:=⟨_,rfl⟩;rw[←hx]at e1 hgo⊢;clear hx hf hR;obtain⟨n,a⟩:=x;have hv:=dI n a;have e:bM (n,a)=(aa a&& !(n&&a==[])):=rfl;rw[e]at hgo⊢;clear e;simp only[cH]at e1;generalize (aa a&& !(n&&a==[]))=b at*;cases b
   ·repeat' first|simp only[go_sem,seval,l5,e1]|refine cP hv ?_|refine sB ?_|(first|apply pX|apply bX)<;>intro hc|refine⟨oD,?_⟩|exact oD|fail
    all_goals simp
   ·have hgo:=hgo ⟨by omega,by simp⟩ (by omega)
    repeat' first|simp only[go_sem,seval,l5,e1]|refine cP hv ?_|refine sB ?_|(first|apply pX|apply bX)<;>intro hc|refine⟨oD,?_⟩|exact oD|fail
    refine hgo _ ?_;exact lE
  ·obtain rfl:i=l.length:=by omega
   rw[List.drop_length];repeat' first|simp only[go_sem,seval,l5]|refine sB ?_|(first|apply pX|apply bX)<;>intro hc|refine⟨oD,?_⟩|exact oD|fail
   all_goals rfl


end Go.Proofs.YtmobkhegihemeaaGreatDoor
namespace Go.Proofs.YtmobkhegihemeaaGreatDoor
open Go Go.Dom Go.Num
set_option maxRecDepth 100000
set_option maxHeartbeats 16000000

end Go.Proofs.YtmobkhegihemeaaGreatDoor
