/-
  Part of the proof, part KC31. Own work.
-/
import Derived.Test.YtmobkhegihemeaaGreatDoorKC30
set_option linter.all false
namespace Go.Proofs.YtmobkhegihemeaaGreatDoor
open Go Go.Dom
set_option maxRecDepth 100000
set_option maxHeartbeats 16000000
theorem wO (k:Nat) {c:Int} (hc:c=IntKind.u8.wrap (k:Int)) (l:List Bytes) (hm:l≠[]) (hn:l.length≤1000) (hb: ∀s∈l,s.length≤100000):aD Tryz.prog 269 [.i .u8 c, .sl (l.map .s)] (.s (mP (im k l))):=by
 have h:=Nj k hc [] l hm (by simpa using hn) (by simpa using hb)
 rw[List.nil_append,bG]at h;refine eW Tryz.call269 Tryz.func269 ?_;repeat' first|simp only[go_sem,seval]|refine cV h ?_|refine sB ?_|(first|apply pX|apply bX)<;>intro hc|refine⟨oD,?_⟩|exact oD|fail
theorem OG (l:Bytes) (hl:l.length≤100000):aD Tryz.prog 189 [.s l] (.s (qQ l)):=by
 have h:=wO 78 (c:=78) rfl [l] (by simp) (by simp) (by simp;omega)
 simp only[ba,bG]at h;refine eW Tryz.call189 Tryz.func189 ?_;repeat' first|simp only[go_sem,seval]|refine cP h ?_|refine sB ?_|(first|apply pX|apply bX)<;>intro hc|refine⟨oD,?_⟩|exact oD|fail
 all_goals rfl
theorem tX (st l d:Bytes) (h1:st.length≤100000) (h2:l.length≤100000) (h3:d.length≤100000):aD Tryz.prog 188 [.s st, .s l, .s d] (.s (ji st l d)):=by
 have h:=wO 65 (c:=65) rfl [st,l,d] (by simp) (by simp) (by intro s hs;simp at hs;rcases hs with rfl|rfl|rfl<;>assumption)
 simp only[ba,bG]at h;refine eW Tryz.call188 Tryz.func188 ?_;repeat' first|simp only[go_sem,seval]|refine cP h ?_|refine sB ?_|(first|apply pX|apply bX)<;>intro hc|refine⟨oD,?_⟩|exact oD|fail
 all_goals rfl
theorem oj (st l:Bytes) (xs:List Bytes) (h1:st.length≤100000) (h2:l.length≤100000) (h0:xs≠[]) (hn:xs.length≤900) (h3: ∀x∈xs,x.length≤100000):aD Tryz.prog 192 [.s st, .s l, .sl (xs.map .s)] (.s (jt st l xs)):=by
 have h:=Ni 76 (c:=76) rfl [st,l] xs h0 (by simp;omega) (by intro s hs;simp at hs;rcases hs with rfl|rfl|hs<;>first|assumption|exact h3 s hs)
 simp only[ba,bG]at h;refine eW Tryz.call192 Tryz.func192 ?_;repeat' first|simp only[go_sem,seval]|refine cP h ?_|refine sB ?_|(first|apply pX|apply bX)<;>intro hc|refine⟨oD,?_⟩|exact oD|fail
 all_goals rfl
theorem Lo (st l:Bytes) (n:Bool) (a:Bytes) (h1:st.length≤100000) (h2:l.length≤100000) (h3:a.length≤99999):aD Tryz.prog 270 [.s st, .s l, .sl [.agg [.b n, .s a]]] (.s (Es st l [(n,a)])):=by
 have h:=Nh 73 (c:=73) rfl [st,l] n a (by simp) (by intro s hs;simp at hs;rcases hs with rfl|rfl|rfl<;>first|assumption|(simp[m9];omega))
 simp only[ba,bG]at h;refine eW Tryz.call270 Tryz.func270 ?_;repeat' first|simp only[go_sem,seval]|refine cP h ?_|refine sB ?_|(first|apply pX|apply bX)<;>intro hc|refine⟨oD,?_⟩|exact oD|fail
 all_goals rfl
theorem jI:18446744073709551616+18446744073709551616<du:=by decide+kernel
theorem Pw {a b m:Nat} (ha:a<m) (hb:b<m) (hm:m<18446744073709551616):aD Tryz.prog 230 [N a,N b,N m] (N ((a+b)%m)):=by
 have hW:=jI;have h1:=tF (a:=m) (b:=b) (by omega) (by omega)
 have h2:=qi (a:=a) (b:=m-b) (by omega) (by omega)
 by_cases hge:m-b≤a
 ·have h3:=tF (a:=a) (b:=m-b) hge (by omega)
  have h4: ∀ _:True,(0:Int)≤a6 a (m-b):=fun _=>jJ.2 hge
  have h5: ∀ _:True,decide (a6 a (m-b)≥0)=true:=fun _=>decide_eq_true (h4 trivial)
  have e:(a+b)%m=a-(m-b):=by rw[show a+b=(a-(m-b))+m by omega,Nat.add_mod_right,bA (by omega)]
  rw[e];generalize a6 a (m-b)=cm at*;refine eW Tryz.call230 Tryz.func230 ?_;repeat' first|simp only[go_sem,seval,h5 trivial]|refine cP h1 ?_|refine cP h2 ?_|refine cP h3 ?_|refine sB ?_|(first|apply pX|apply bX)<;>intro hc|refine⟨oD,?_⟩|exact oD|fail
 ·have h3:=Mg (a:=a) (b:=b) (by omega)
  have h4: ∀ _:True,¬(0:Int)≤a6 a (m-b):=fun _ h=>hge (jJ.1 h)
  have h5: ∀ _:True,decide (a6 a (m-b)≥0)=false:=fun _=>decide_eq_false (h4 trivial)
  rw[bA (by omega)]
  generalize a6 a (m-b)=cm at*;refine eW Tryz.call230 Tryz.func230 ?_;repeat' first|simp only[go_sem,seval,h5 trivial]|refine cP h1 ?_|refine cP h2 ?_|refine cP h3 ?_|refine sB ?_|(first|apply pX|apply bX)<;>intro hc|refine⟨oD,?_⟩|exact oD|fail
theorem yB {a b m:Nat} (ha:a<18446744073709551616) (hb:b<18446744073709551616) (hm:m<18446744073709551616) (h0:0<m):aD Tryz.prog 149 [N a,N b,N m] (.tup [N ((a+b)%m),E 0]):=by
 have hc:=fun nm=>za nm (aP a) (aP b) (aP m)
 rw[sT ha (vN hb) hm h0]at hc;have hp:=Pw (a:=a%m) (b:=b%m) (m:=m) (aG _ h0) (aG _ h0) hm;rw[←jA]at hp;refine eW Tryz.call149 Tryz.func149 ?_;repeat' first|simp only[go_sem,seval]|(refine br (hc _) (by simp) ?_)|refine cP (j8 ha hm h0) ?_|refine cP (j8 hb hm h0) ?_|refine cP hp ?_|refine sB ?_|(first|apply pX|apply bX)<;>intro hc|refine⟨oD,?_⟩|exact oD|fail
abbrev SB:TypeId:=317
theorem xX (st b:Bytes) (hs:st.length≤100000) (vb:aa b=true) (b0:b≠[]) (lb:b.length≤8):aD Tryz.prog 193 [.s st, .s b] (.tup [N (kj st b),E 0]):=by
 have hv:=aM b;rw[vb]at hv;have hbb:(b==([]:Bytes))=false:=by simpa using b0
 have w1:=fun nm=>VV SB 1007 nm
 have w2:=fun nm=>QZ 1014 nm 0 (by decide)
 have w3:=fun nm=>Ln FR 1014 1016 nm 7 (be 8 0) (by decide) (by decide) (by decide)
 have hp:=wO 67 (c:=67) rfl [st,be 8 0] (by simp) (by simp) (by intro s hs';simp at hs';rcases hs' with rfl|rfl;exact hs;simp[b9])
 simp only[ba,bG]at hp;have hp:aD Tryz.prog 269 [.i .u8 67, .sl [.s st, .s (be 8 0)]] (.s (xw st)):=hp;have hcl:=Er st;have htr:kj st b=num ((xw st).take (b.length+8))%num b:=rfl;rw[htr];generalize xw st=code at*;have w4:=fun nm=>Xx SB TI 1007 nm code (by omega) (by omega)
 have w5:=fun nm=>VU SB 1007 1022 nm 0 code (by decide)
 have w6:=fun nm=>Ln SB 1007 1022 nm 0 code (by decide) (by omega) (by omega)
 have hd1: ∀ _:True,decide ((0:Int)<(b.length:Int)+8)=true:=fun _=>by simp;omega
 refine eW Tryz.call193 Tryz.func193 ?_;repeat' first|simp only[go_sem,seval,hbb]|refine cP hv ?_|refine sB ?_|(first|apply pX|apply bX)<;>intro hc|refine⟨oD,?_⟩|exact oD|fail
 refine ae ?_;repeat' first|simp only[go_sem,seval,hbb,hd1 trivial]|(refine br (w1 _) (by simp[ar,bF]) ?_)|(refine br (w2 _) (by simp[ar,bF]) ?_)|(refine br (w3 _) (by simp[ar]) ?_)|(refine br (w4 _) (by simp[ar,bF]) ?_)|refine cP hp ?_|refine sB ?_|(first|apply pX|apply bX)<;>intro hc|refine⟨oD,?_⟩|exact oD|fail
 refine ae ?_;have hd2: ∀ _:True,decide ((32:Int)<(b.length:Int)+8)=false:=fun _=>by simp;omega
 have ht8: ∀ _:True,((b.length:Int)+8).toNat=b.length+8:=fun _=>by omega
 rw[hcl]at w5;repeat' first|simp only[go_sem,seval,hcl,hd2 trivial,ht8 trivial]|(refine br (w5 _) (by simp[ar]) ?_)|(refine br (w6 _) (by simp[ar]) ?_)|refine sB ?_|(first|apply pX|apply bX)<;>intro hc|refine⟨oD,?_⟩|exact oD|fail
 have hll:(code.take (b.length+8)).length≤32:=by rw[cG];omega
 generalize code.take (b.length+8)=l at hll⊢;have hm:=ep lb;have hm0:0<num b:=by
  rcases jR (num b)with h|h
  ·exact absurd (by have:=fq vb;rw[h]at this;injection this with h1;exact h1.symm) b0
  ·exact h
 have hN:(.s b:PV)=N (num b):=(fq vb).symm;rw[hN];generalize num b=m at*;have h256:aD Tryz.prog 31 [.i .u64 256] (N 256):=jT 256 (by decide)
 clear w1 w2 w3 w4 w5 w6 hp hd1 hd2 ht8 hv;refine aj (α:=Nat) (fun i=>l.length-i) (fun i=>⟨[(1, .v (N m)),(9, .v (N (num (l.take i)%m))),(37, .v (.sl (l.map u8))),(38,E' l.length),(39,E' i)],[],_⟩) (fun i=>i≤l.length) 0 (fun _=>au _) (aL _) ?_ ?_
 ·(refine AS.Le.of (by first|decide|omega) ?_ ?_<;>simp[cl,cj,aF,ar,AV.bd,AV.bd.bdL,u8,ah,ai,aq])
  all_goals (rw[show num []=0 from rfl,Nat.zero_mod];rfl)
 ·intro i hi R hR
  by_cases hit:i<l.length
  ·have e2:=getD_map u8 l 0 hit;have hgo:=hR (i+1) (by omega) (by omega)
   rw[jM hit]at hgo;have hc:(l.getD i 0).toNat<256:=(l.getD i 0).toNat_lt;have hou:aD Tryz.prog 31 [.i .u64 ((l.getD i 0).toNat:Nat)] (N (l.getD i 0).toNat):=jT _ (by omega)
   have w1: ∀ _:True,IntKind.u64.wrap (((l.getD i 0).toNat:Nat):Int)=(((l.getD i 0).toNat:Nat):Int):=fun _=>by rw[C5];omega
   generalize (l.getD i 0)=y at*;generalize num (l.take i)=x at*;have hx:x%m<m:=aG _ hm0;have hx2:x%m*256%m<m:=aG _ hm0;have h1:=nX (a:=x%m) (b:=256) (m:=m) (by omega) (by decide) hm hm0
   have h2:=yB (a:=x%m*256%m) (b:=y.toNat) (m:=m) (by omega) (by omega) hm hm0
   have e:(x%m*256%m+y.toNat)%m=(x*256+y.toNat)%m:=by
    rw[jA,dt,←jA,jA (x%m*256),iV,←jA]
   rw[e]at h2;clear hR hi e;repeat' first|simp only[go_sem,seval,e2,w1 trivial]|refine cP h256 ?_|refine cP h1 ?_|refine cP h2 ?_|refine cP hou ?_|refine sB ?_|(first|apply pX|apply bX)<;>intro hc|refine⟨oD,?_⟩|exact oD|fail
   all_goals (refine hgo _ ?_)
   (refine AS.Le.of (by first|decide|omega) ?_ ?_<;>simp[cl,cj,aF,ar,AV.bd,AV.bd.bdL,u8,ah,ai,aq])
   all_goals first|omega|skip
  ·have h:i=l.length:=by omega
   rw[h,cM];repeat' first|simp only[go_sem,seval]|refine sB ?_|(first|apply pX|apply bX)<;>intro hc|refine⟨oD,?_⟩|exact oD|fail
end Go.Proofs.YtmobkhegihemeaaGreatDoor
namespace Go.Proofs.YtmobkhegihemeaaGreatDoor
open Go Go.Dom Go.Num
set_option maxRecDepth 100000
set_option maxHeartbeats 16000000
theorem Ui {a b m:Nat} (h0:0<m):(((a:Int)-b)%m).toNat=if b%m=0 then a%m else(a%m+(m-b%m))%m:=by
 have h1:((a:Int)-b)%m=(((a%m:Nat):Int)-((b%m:Nat):Int))%m:=by rw[Int.natCast_emod,Int.natCast_emod,←Int.sub_emod]
 have hb:=aG b h0;rw[h1];split
 ·rename_i h;rw[h,show(((a%m:Nat):Int)-((0:Nat):Int))=((a%m:Nat):Int) by omega,←Int.natCast_emod,Int.toNat_natCast,dt]
 ·rw[←Int.add_emod_right,show(((a%m:Nat):Int)-((b%m:Nat):Int)+(m:Int))=((a%m+(m-b%m):Nat):Int) by omega,←Int.natCast_emod,Int.toNat_natCast]
theorem FA {a b m:Nat} (ha:a<18446744073709551616) (hb:b<18446744073709551616) (hm:m<18446744073709551616) (h0:0<m):aD Tryz.prog 219 [N a,N b,N m] (.tup [N (((a:Int)-b)%m).toNat,E 0]):=by
 have hW:=jI;have hc:=fun nm=>za nm (aP a) (aP b) (aP m)
 rw[sT ha (vN hb) hm h0]at hc;have r1:=j8 ha hm h0;have r2:=j8 hb hm h0;have hlb:=aG b h0;rw[Ui h0]
 by_cases hz:b%m=0
 ·rw[if_pos hz];rw[hz]at r2;have z0:(aP 0==([]:Bytes))=true:=by decide
  refine eW Tryz.call219 Tryz.func219 ?_;repeat' first|simp only[go_sem,seval,z0]|(refine br (hc _) (by simp) ?_)|refine cP r1 ?_|refine cP r2 ?_|refine sB ?_|(first|apply pX|apply bX)<;>intro hc|refine⟨oD,?_⟩|exact oD|fail
 ·rw[if_neg hz];have hs:=tF (a:=m) (b:=b%m) (by omega) (by omega)
  have hp:=Pw (a:=a%m) (b:=m-b%m) (m:=m) (aG _ h0) (by omega) hm
  have en:(aP (b%m)==([]:Bytes))=false:=qz (by omega)
  refine eW Tryz.call219 Tryz.func219 ?_;repeat' first|simp only[go_sem,seval,en]|(refine br (hc _) (by simp) ?_)|refine cP r1 ?_|refine cP r2 ?_|refine cP hs ?_|refine cP hp ?_|refine sB ?_|(first|apply pX|apply bX)<;>intro hc|refine⟨oD,?_⟩|exact oD|fail
end Go.Proofs.YtmobkhegihemeaaGreatDoor
namespace Go.Proofs.YtmobkhegihemeaaGreatDoor
open Go Go.Dom
set_option maxRecDepth 100000
set_option maxHeartbeats 16000000
def xY (b:Bytes) (i:Nat):fR:=⟨b,i,false,[1]⟩
structure WK (s:dy):Prop where
 l:s.eqs.length=s.vars.length
 t: ∀i,i<s.eqs.length→ ∃b,(s.eqs.getD i ku).terms=[xY b i]

end Go.Proofs.YtmobkhegihemeaaGreatDoor
namespace Go.Proofs.YtmobkhegihemeaaGreatDoor
open Go Go.Dom Go.Num
set_option maxRecDepth 100000
set_option maxHeartbeats 16000000
theorem vn (vs:List Bytes) (sd:Bytes) (at':Int) (a:Nat):aD Tryz.prog 247 [T vs sd at', .i .i64 a] (.fc 313 [] [.pt (T vs sd at') 0, .pt (.agg [.i .i64 a]) 0]):=by
 refine eW Tryz.call247 Tryz.func247 ?_;repeat' first|simp only[go_sem,seval]|refine sB ?_|(first|apply pX|apply bX)<;>intro hc|refine⟨oD,?_⟩|exact oD|fail
theorem IX (sd:Bytes) (at' a:Nat): ∀(k b:Nat),∀y∈Gy sd at' a b k,y.length=1:=by
 intro k
 induction k with
 |zero=>intro b y hy;cases hy
 |succ k ih=>
  intro b y hy
  cases hy with
  |head=>rfl
  |tail _ h=>exact ih _ _ h
def nh (size:Nat):Nat:=max 1 ((size+31)/32)
def qf (sd:Bytes) (at' a:Nat):Nat→Bytes
 |0=>[]
 |k+1=>qf sd at' a k++y8 sd at' a k
def FB:Bytes→Nat→Bytes
 |[],_=>[]
 |x::r,d=>UInt8.ofNat (x.toNat%2^(8-d))::r
theorem NG: ∀(d:Fin 8) (x:Fin 256),kR .u8 (x.val:Int) (Int.fdiv 255 (2^d.val))=((UInt8.ofNat (x.val%2^(8-d.val))).toNat:Int):=by decide+kernel
theorem lz (c:UInt8) (r:Bytes):aC (c::r)= .v (.i .u8 (c.toNat:Int))::aC r:=rfl
def iw:Bytes→Bytes
 |[]=>[]
 |x::r=>if x=0 then iw r else x::r
def Dh (sd:Bytes) (at' a len:Nat):Bytes:=iw (FB ((qf sd at' a (nh ((len+7)/8))).take ((len+7)/8)) (8*((len+7)/8)-len))
theorem yC {S:Nat} (h:1≤S) (x:UInt8) (r:Bytes) (d:Nat):FB (List.take S (x::r)) d=List.take S (UInt8.ofNat (x.toNat%2^(8-d))::r):=by
 obtain⟨S,rfl⟩: ∃m,S=m+1:=⟨S-1,by omega⟩
 rfl
theorem Jl {q:Bytes} {S i:Nat} (h:i<S) (hS:S≤q.length):(q.take S).drop i=q.getD i 0::(q.take S).drop (i+1):=by
 rw[ig (by rw[cG];omega),List.getElem_take,aX,aU (by omega)];rfl
theorem Fb (q:Bytes) (S i:Nat):List.take (S-i) (List.drop i (aC q))=aC ((q.take S).drop i):=by
 rw[aC,aC,qZ,ua,uK]
theorem uY (l:Bytes): ∀y∈aC l,y.isByte:=by
 intro y hy;obtain⟨c,_,rfl⟩:=a5.1 hy;exact trivial
theorem Di {vs:List Bytes} {sd:Bytes} {at' a len:Nat} (hv:vs.length<1000000) (hsd:sd.length<1000000) (ha:at'<4294967296) (ha2:a<4294967296) (hl0:0<len) (hl:len<100000):aD Tryz.prog 166 [T vs sd at', .i .i64 a, .i .i64 len] (.s (Dh sd at' a len)):=by
 have hb:=vn vs sd at' a;have hit:=GA (vs:= .sl (vs.map .s)) (sd:=sd) (at':=at') (a:=a) (k:=nh ((len+7)/8)) hsd (by unfold nh;omega) ha ha2
 have hsz: ∀ _:True,IntKind.i64.wrap (((len:Int)+7).tdiv 8)=(((len+7)/8:Nat):Int):=by
  intro _;rw[Int.tdiv_eq_ediv_of_nonneg (by omega),IntWalk.i64_in _ (by omega)];omega
 have hs1:1≤(len+7)/8∧(len+7)/8≤13000:=by omega
 have hlen: ∀b,(y8 sd at' a b).length=32:=fun b=>by unfold y8 J2;rw[gY]
 have hcat: ∀k,(qf sd at' a k).length=32*k:=by
  intro k
  induction k with
  |zero=>rfl
  |succ k ih=>rw[qf,bC,ih,hlen];omega
 have hR: ∀k,k<nh ((len+7)/8)→ ¬(len+7)/8≤32*k∨k=0:=by intro k h;unfold nh at h;omega
 refine eW Tryz.call166 Tryz.func166 ?_;repeat' first|simp only[go_sem,seval,hsz trivial]|refine cP hb ?_|refine sB ?_|(first|apply pX|apply bX)<;>intro hc|refine⟨oD,?_⟩|exact oD|fail
 unfold Dh;generalize hS:(len+7)/8=S at*;refine Ie hit rfl ?_ ?_
 ·intro y hy;exact IX _ _ _ _ _ y hy
 refine Ok (α:=Nat) (fun k=>match k with|0=>⟨[(7, .p 1005 0 0),(8, .p 1007 0 0),(2, .v (.i .i64 len))],[(1005,⟨0,[.v (.i .i64 S)],false,some 3⟩),(1007,⟨0,[.sn],false,some 140⟩)],1011⟩|k+1=>⟨[(7, .p 1005 0 0),(8, .p 1007 0 0),(2, .v (.i .i64 len))],[(1005,⟨0,[.v (.i .i64 S)],false,some 3⟩),(1007,⟨0,[.rs 1014 k 0 (32*(k+1)) 1],false,some 140⟩),(1014,⟨k,aC (qf sd at' a (k+1)),true,some 5⟩)],1020⟩) (fun xs k=>k<nh S∧xs=Gy sd at' a k (nh S-k)) 0 ?_ ⟨by unfold nh;omega,rfl⟩ ?_ ?_ ?_
 ·intro k;cases k
  ·exact au _
  ·show 1011≤1020;decide
 ·refine AS.Le.of (by decide) ?_ ?_<;>simp[cl,cj,aF,ar,AV.bd,AV.bd.bdL]
 ·rintro k ⟨h1,h2⟩;obtain⟨m,hm⟩: ∃m,nh S-k=m+1:=⟨nh S-k-1,by omega⟩
  rw[hm]at h2;cases h2
 ·rintro y ys k ⟨h1,h2⟩ R hRR;obtain⟨m,hm⟩: ∃m,nh S-k=m+1:=⟨nh S-k-1,by omega⟩
  rw[hm]at h2;injection h2 with e1 e2
  subst e1 e2;have hkb:k<1000:=by unfold nh at h1;omega
  have hx:=hlen k;have hc:=hcat k;have ho:=hcat (k+1);have hc1:qf sd at' a k++y8 sd at' a k=qf sd at' a (k+1):=rfl;have hgo:k+1<nh S→ _:=fun h=>hRR (k+1) ⟨h,by rw[show nh S-(k+1)=m from by omega]⟩
  clear hRR hit hb hcat hlen
  by_cases hf:S≤32*(k+1)
  ·have hk:nh S=k+1:=by unfold nh at h1⊢;omega
   rw[hk];clear hgo hR;have hd1: ∀ _:True,(8*(S:Int)-len).toNat=8*S-len:=fun _=>by omega
   have hd2:8*S-len<8:=by omega
   have hd3:(if 8*S-len≤8 then 8*S-len else 8)=8*S-len:=by rw[if_pos];omega
   have hmask:=fun x:UInt8=>NG ⟨8*S-len,hd2⟩ ⟨x.toNat,x.toNat_lt⟩
   simp only at hmask;generalize hd:8*S-len=d at*;generalize hcc:qf sd at' a (k+1)=o at*;obtain⟨x0,r,rfl⟩: ∃x0 r,o=x0::r:=by
    cases o with
    |nil=>simp at ho
    |cons x0 r=>exact⟨_,_,rfl⟩
   cases k with
   |zero=>
    generalize y8 sd at' a 0=x at*;generalize qf sd at' a 0=c at*;obtain rfl:c=[]:=jG hc;obtain rfl:x=x0::r:=hc1;repeat' first|simp only[go_sem,seval,hx,lz,hd1 trivial,hd3,hmask]|refine sB ?_|(first|apply pX|apply bX)<;>intro hc|refine⟨oD,?_⟩|exact oD|fail
    rw[yC hs1.1];simp only[←lz];generalize hq:UInt8.ofNat (x0.toNat%2^(8-d))::r=q at*;have hql:q.length=32*(0+1):=by rw[←hq];simpa using ho
    refine aj (α:=Nat) (fun i=>S-i) (fun i=>⟨[(8, .p 1007 0 0)],[(1007,⟨0,[.rs 1014 0 i (S-i) 1],false,some 140⟩),(1014,⟨0,aC q,true,some 5⟩)],1037⟩) (fun i=>i≤S∧iw ((q.take S).drop i)=iw (q.take S)) 0 (fun _=>au _) ⟨aL _,rfl⟩ ?_ ?_
    ·refine AS.Le.of (by decide) ?_ ?_<;>simp[cl,cj,aF,ar,AV.bd,AV.bd.bdL,ai]
    ·rintro i ⟨hi,hst⟩ R2 hR2;rw[←hst]
     by_cases hlt:i<S
     ·have e1:=Jl (q:=q) hlt (by omega)
      have e2:=iC (l:=q) (i:=i) (by omega)
      have e3: ∀ _:True,((S-i:Nat):Int)=(S:Int)-i:=fun _=>by omega
      have e4:=Fb q S i
      by_cases hz:q.getD i 0=0
      ·have hgo2:=hR2 (i+1) ⟨hlt,by rw[←hst,e1,iw,if_pos hz]⟩ (by omega)
       clear hR2;repeat' first|simp only[go_sem,seval,e2,hz]|refine sB ?_|(first|apply pX|apply bX)<;>intro hc|refine⟨oD,?_⟩|exact oD|fail
       refine hgo2 _ ?_;refine AS.Le.of (by omega) ?_ ?_<;>simp[cl,cj,aF,ar,AV.bd,AV.bd.bdL,ai,Nat.sub_sub]
      ·rw[e1,iw,if_neg hz,←e1];have hz2: ∀ _:True,(((q.getD i 0).toNat:Int)==0)=false:=fun _=>by
        rw[beq_eq_false_iff_ne];intro h;exact hz (jd.1 (by exact_mod_cast h))
       repeat' first|simp only[go_sem,seval,e2,hz2 trivial]|refine sB ?_|(first|apply pX|apply bX)<;>intro hc|refine⟨oD,?_⟩|exact oD|fail
       rw[e4];exact⟨⟨by omega,uY _⟩,by rw[jV]⟩
     ·obtain rfl:i=S:=by omega
      repeat' first|simp only[go_sem,seval]|refine sB ?_|(first|apply pX|apply bX)<;>intro hc|refine⟨oD,?_⟩|exact oD|fail
      rw[fh,List.take_zero,gS (by rw[cG];omega)]
      exact⟨⟨by omega,fun y hy=>by cases hy⟩,rfl⟩
   |succ k=>
    dsimp only;generalize y8 sd at' a (k+1)=x at*;generalize qf sd at' a (k+1)=c at*;have htk:List.take (32*(k+1)) (aC c)=aC c:=by rw[←hc];exact iD _
    repeat' first|simp only[go_sem,seval,hx,hc1,htk,lz,hd1 trivial,hd3,hmask]|refine sB ?_|(first|apply pX|apply bX)<;>intro hc|refine⟨oD,?_⟩|exact oD|fail
    rw[yC hs1.1];simp only[←lz];generalize hq:UInt8.ofNat (x0.toNat%2^(8-d))::r=q at*;have hql:q.length=32*(k+1+1):=by rw[←hq];simpa using ho
    refine aj (α:=Nat) (fun i=>S-i) (fun i=>⟨[(8, .p 1007 0 0)],[(1007,⟨0,[.rs 1014 (k+1) i (S-i) 1],false,some 140⟩),(1014,⟨(k+1),aC q,true,some 5⟩)],1046⟩) (fun i=>i≤S∧iw ((q.take S).drop i)=iw (q.take S)) 0 (fun _=>au _) ⟨aL _,rfl⟩ ?_ ?_
    ·refine AS.Le.of (by decide) ?_ ?_<;>simp[cl,cj,aF,ar,AV.bd,AV.bd.bdL,ai]
    ·rintro i ⟨hi,hst⟩ R2 hR2;rw[←hst]
     by_cases hlt:i<S
     ·have e1:=Jl (q:=q) hlt (by omega)
      have e2:=iC (l:=q) (i:=i) (by omega)
      have e3: ∀ _:True,((S-i:Nat):Int)=(S:Int)-i:=fun _=>by omega
      have e4:=Fb q S i
      by_cases hz:q.getD i 0=0
      ·have hgo2:=hR2 (i+1) ⟨hlt,by rw[←hst,e1,iw,if_pos hz]⟩ (by omega)
       clear hR2;repeat' first|simp only[go_sem,seval,e2,hz]|refine sB ?_|(first|apply pX|apply bX)<;>intro hc|refine⟨oD,?_⟩|exact oD|fail
       refine hgo2 _ ?_;refine AS.Le.of (by omega) ?_ ?_<;>simp[cl,cj,aF,ar,AV.bd,AV.bd.bdL,ai,Nat.sub_sub]
      ·rw[e1,iw,if_neg hz,←e1];have hz2: ∀ _:True,(((q.getD i 0).toNat:Int)==0)=false:=fun _=>by
        rw[beq_eq_false_iff_ne];intro h;exact hz (jd.1 (by exact_mod_cast h))
       repeat' first|simp only[go_sem,seval,e2,hz2 trivial]|refine sB ?_|(first|apply pX|apply bX)<;>intro hc|refine⟨oD,?_⟩|exact oD|fail
       rw[e4];exact⟨⟨by omega,uY _⟩,by rw[jV]⟩
     ·obtain rfl:i=S:=by omega
      repeat' first|simp only[go_sem,seval]|refine sB ?_|(first|apply pX|apply bX)<;>intro hc|refine⟨oD,?_⟩|exact oD|fail
      rw[fh,List.take_zero,gS (by rw[cG];omega)]
      exact⟨⟨by omega,fun y hy=>by cases hy⟩,rfl⟩
  ·have hgo:=hgo (by unfold nh;omega)
   cases k with
   |zero=>
    generalize y8 sd at' a 0=x at*;repeat' first|simp only[go_sem,seval,hx]|refine sB ?_|(first|apply pX|apply bX)<;>intro hc|refine⟨oD,?_⟩|exact oD|fail
    refine hgo _ ?_;have hx1:qf sd at' a 1=x:=hc1.symm;refine AS.Le.of (by decide) ?_ ?_<;>simp[cl,cj,aF,ar,AV.bd,AV.bd.bdL,hx1,ai]
   |succ k=>
    have htk:List.take (32*(k+1)) (aC (qf sd at' a (k+1)))=aC (qf sd at' a (k+1)):=by rw[←hc];exact iD _
    generalize y8 sd at' a (k+1)=x at*;repeat' first|simp only[go_sem,seval,hx,hc1]|refine sB ?_|(first|apply pX|apply bX)<;>intro hc|refine⟨oD,?_⟩|exact oD|fail
    all_goals first
     |omega
     |skip
    refine hgo _ ?_;refine AS.Le.of (by decide) ?_ ?_<;>simp[cl,cj,aF,ar,AV.bd,AV.bd.bdL,htk,jj,hc1,ai]
    omega
theorem xp: ∀l:Bytes,(iw l).length≤l.length
 |[]=>au _
 |x::r=>by
  rw[iw];split
  ·have:=xp r;rw[List.length_cons];omega
  ·exact au _
theorem ti: ∀l:Bytes,((iw l).length==0||(iw l).headD 0 !=0)=true
 |[]=>rfl
 |x::r=>by
  rw[iw];split
  ·exact ti r
  ·rename_i h;simp[h]
theorem Hi (l:Bytes) (d:Nat):(FB l d).length=l.length:=by cases l<;>rfl
theorem uW (sd:Bytes) (at' a:Nat) {len:Nat} (h:len≤1024):aa (Dh sd at' a len)=true:=by
 unfold aa;rw[aZ];refine⟨decide_eq_true ?_,ti _⟩;have:=xp (FB ((qf sd at' a (nh ((len+7)/8))).take ((len+7)/8)) (8*((len+7)/8)-len));rw[Hi,cG]at this;unfold Dh;omega
def CB (f:Nat→Bytes) (n a:Nat):Nat→Option Bytes
 |0=>none
 |k+1=>if num (f a)<n then some (f a)else CB f n (a+1) k
def gT (vs:List Bytes) (sd:Bytes) (i:Nat) (n:Bytes):Except Int Bytes:=
 if i<vs.length then(if num n≤num (vs.getD i [])then .error 2 else .ok (vs.getD i []))
 else if sd=[]∨i=2147483647 then .error 14
 else match CB (fun a=>Dh sd i a (cd (num n))) (num n) 0 256 with
  |some x=> .ok x
  |none=> .error 14
def nK (vs:List Bytes) (sd:Bytes) (i:Nat):Except Int Bytes→PV
 | .ok x=> .tup [.s x,T vs sd (i+1:Nat),E 0]
 | .error e=> .tup [.s [],T [] [] 0,E e]
theorem Bk {n:Bytes} (hn:aa n=true):cd (num n)≤1024:=by
 have h1:=bV n;have h2:n.length≤128:=by
  unfold aa at hn;rw[aZ]at hn;exact of_decide_eq_true hn.1
 have h3:num n<2^1024:=a9 h1 (by rw[show(2:Nat)^1024=256^128 by decide+kernel];exact cQ (by decide) h2)
 unfold cd;split
 ·omega
 ·rename_i h;have:=(ur h).2 h3;omega
theorem Jb (x y:Nat):decide (a6 x y<0)=decide (x<y):=by
 have e:=vk x y;rw[eq_iff_iff]at e;rw[decide_eq_decide];omega
theorem Pk (x y:Nat):decide (a6 x y≥0)= !decide (x<y):=by
 have e:=vk x y;rw[eq_iff_iff]at e
 by_cases h:x<y
 ·rw[decide_eq_true h,decide_eq_false (fun g=>by have:=e.1 g;omega)];rfl
 ·rw[decide_eq_false h,decide_eq_true (e.2 (by omega))];rfl
theorem vE {vs:List Bytes} {sd:Bytes} {i:Nat} {n:Bytes} (hv:vs.all aa=true) (hn:aa n=true) (h0:num n≠0) (hi:i≤2147483647) (hl:vs.length<1000000) (hsd:sd.length<1000000):aD Tryz.prog 111 [T vs sd i, .s n] (nK vs sd i (gT vs sd i n)):=by
 by_cases hiv:i<vs.length
 ·have h:=MW sd hv hn hiv hl;unfold Jk at h;unfold gT;rw[if_pos hiv];split
  ·rename_i hle;rw[if_pos hle]at h;exact h
  ·rename_i hle;rw[if_neg hle]at h;exact h
 unfold gT;rw[if_neg hiv]
 by_cases hs:sd=[]∨i=2147483647
 ·rw[if_pos hs];have hnl: ∀ _:True,(([]:Bytes)==[])=true:=fun _=>rfl
  have h47: ∀ _:True,((2147483647:Int)==2147483647)=true:=fun _=>rfl
  rcases hs with rfl|rfl
  ·refine eW Tryz.call111 Tryz.func111 ?_;repeat' first|simp only[go_sem,seval,hnl trivial]|refine sB ?_|(first|apply pX|apply bX)<;>intro hc|refine⟨oD,?_⟩|exact oD|fail
   all_goals rfl
  ·cases hsb:sd==[]with
   |true=>
    refine eW Tryz.call111 Tryz.func111 ?_;repeat' first|simp only[go_sem,seval,hsb]|refine sB ?_|(first|apply pX|apply bX)<;>intro hc|refine⟨oD,?_⟩|exact oD|fail
    all_goals rfl
   |false=>
    refine eW Tryz.call111 Tryz.func111 ?_;repeat' first|simp only[go_sem,seval,hsb,h47 trivial]|refine sB ?_|(first|apply pX|apply bX)<;>intro hc|refine⟨oD,?_⟩|exact oD|fail
    all_goals rfl
 rw[if_neg hs];have hs1:sd≠[]:=fun h=>hs (.inl h)
 have hs2:i≠2147483647:=fun h=>hs (.inr h)
 have hbl:=Bk hn;have hb0:0<cd (num n):=by unfold cd;rw[if_neg h0];omega
 have hB:=tH hn;have hA:=fun a (ha:a<256)=>Di (vs:=vs) (sd:=sd) (at':=i) (a:=a) (len:=cd (num n)) hl hsd (by omega) (by omega) hb0 (by omega)
 have hC:=fun a=>kL (Dh sd i a (cd (num n))) n
 have hV:=fun a=>uW sd i a hbl
 obtain⟨r1,r2,r3,r4⟩:=Om vs;have hsb:(sd==[])=false:=by rw[beq_eq_false_iff_ne];exact hs1
 have hi47: ∀ _:True,((i:Int)==2147483647)=false:=fun _=>by rw[beq_eq_false_iff_ne];omega
 generalize hf:(fun a=>Dh sd i a (cd (num n)))=f
 have hA: ∀a:Nat,a<256→aD Tryz.prog 166 [T vs sd i, .i .i64 a, .i .i64 (cd (num n))] (.s (f a)):=by rw[←hf];exact hA
 have hC: ∀a,aD Tryz.prog 30 [.s (f a), .s n] (E (a6 (num (f a)) (num n))):=by
  intro a;have h:=hC a;rw[hV,hn]at h;rw[←hf];exact h
 refine eW Tryz.call111 Tryz.func111 ?_;repeat' first|simp only[go_sem,seval,hsb,hi47 trivial]|refine sB ?_|(first|apply pX|apply bX)<;>intro hc|refine⟨oD,?_⟩|exact oD|fail
 refine⟨⟨fun x hx=>y9 hx,fun y hy=>Kr hy,by rw[kQ];exact au _⟩,?_⟩
 refine aj (α:=Nat) (fun a=>256-a) (fun a=>⟨[(73, .v (.i .i64 a)),(1, .v (.s n)),(2, .p 1000 0 0),(5, .p 1002 0 0),(7, .p 1047 0 0)],[(1000,⟨0,[.v (.sl (vs.map .s)), .v (.s sd), .v (.i .i64 i)],false,none⟩),(1002,⟨0,[.sn, .v (.s []), .v (.i .i64 0)],false,some 40⟩),(1040,⟨0,List.map AV.v (vs.map .s),false,none⟩),(1047,⟨0,[.rs 1040 0 0 vs.length 1, .v (.s sd), .v (.i .i64 ((i:Int)+1))],false,some 40⟩)],1061⟩) (fun a=>a≤256∧CB f (num n) a (256-a)=CB f (num n) 0 256) 0 (fun _=>au _) ⟨aL _,rfl⟩ ?_ ?_
 ·refine AS.Le.of (by decide) ?_ ?_<;>simp[cl,cj,aF,ar,AV.bd,AV.bd.bdL,vH,r1,r3]
  rw[bM (by simp)]
 ·rintro a ⟨ha,hst⟩ R hR;rw[←hst]
  by_cases hlt:a<256
  ·obtain⟨m,hm⟩: ∃m,256-a=m+1:=⟨255-a,by omega⟩
   have hAa:=hA a hlt;have hCa:=hC a;have hgo:=hR (a+1);rw[hm,CB]
   by_cases hle:num (f a)<num n
   ·rw[if_pos hle];have hcm: ∀ _:True,decide (a6 (num (f a)) (num n)<0)=true:=fun _=>by rw[Jb];exact decide_eq_true hle
    generalize a6 (num (f a)) (num n)=cm at*;repeat' first|simp only[go_sem,seval,hcm trivial,r1,r2,r3,r4,vH,eF]|refine cP hB ?_|refine cP hAa ?_|refine cP hCa ?_|refine sB ?_|(first|apply pX|apply bX)<;>intro hc|refine⟨oD,?_⟩|exact oD|fail
    rfl
   ·rw[if_neg hle];have hgo:=hgo ⟨hlt,by rw[←hst,hm,CB,if_neg hle,show 256-(a+1)=m from by omega]⟩ (by omega)
    have hcm: ∀ _:True,decide (a6 (num (f a)) (num n)<0)=false:=fun _=>by rw[Jb];exact decide_eq_false hle
    generalize a6 (num (f a)) (num n)=cm at*;repeat' first|simp only[go_sem,seval,hcm trivial]|refine cP hB ?_|refine cP hAa ?_|refine cP hCa ?_|refine sB ?_|(first|apply pX|apply bX)<;>intro hc|refine⟨oD,?_⟩|exact oD|fail
    refine hgo _ ?_;refine AS.Le.of (by decide) ?_ ?_<;>simp[cl,cj,aF,ar,AV.bd,AV.bd.bdL]
  ·obtain rfl:a=256:=by omega
   repeat' first|simp only[go_sem,seval]|refine sB ?_|(first|apply pX|apply bX)<;>intro hc|refine⟨oD,?_⟩|exact oD|fail
   all_goals rfl
theorem D8 {vs:List Bytes} {i:Nat} {n:Bytes} (hv:vs.all aa=true) (hn:aa n=true) (h0:n≠[]) (hi:i≤2147483647):sF vs i n=0:=by
 have h1:(vs.any fun x=> !aa x)=false:=by
  rw[fj];intro g;obtain⟨x,hx,h⟩:=List.any_eq_true.1 g;simp[bc.1 hv x hx]at h
 have h2:eU vs i=true:=by
  unfold eU;rw[h1,decide_eq_true (show(i:Int)≥0 by omega),decide_eq_true (show(i:Int)≤2147483647 by omega)];rfl
 simp[sF,h2,hn,h0]
theorem zQ {n:Bytes} (hn:aa n=true) (h0:n≠[]):num n≠0:=fun h=>h0 ((qB hn).1 h)
theorem rD {vs:List Bytes} {sd:Bytes} {i:Nat} {n:Bytes} (hv:vs.all aa=true) (hn:aa n=true) (h0:n≠[]) (hi:i≤2147483647) (hl:vs.length<1000000) (hsd:sd.length<1000000):aD Tryz.prog 61 [T vs sd i, .s n] (nK vs sd i (gT vs sd i n)):=by
 have h1:=qI vs sd i n (by omega)
 rw[D8 hv hn h0 hi]at h1;have h2:=vE (sd:=sd) hv hn (zQ hn h0) hi hl hsd;generalize gT vs sd i n=r at*
 cases r with
 |ok x=>
  unfold nK at*;refine eW Tryz.call61 Tryz.func61 ?_;repeat' first|simp only[go_sem,seval]|refine cP h1 ?_|refine cP h2 ?_|refine sB ?_|(first|apply pX|apply bX)<;>intro hc|refine⟨oD,?_⟩|exact oD|fail
  all_goals rfl
 |error e=>
  unfold nK at*;refine eW Tryz.call61 Tryz.func61 ?_;repeat' first|simp only[go_sem,seval]|refine cP h1 ?_|refine cP h2 ?_|refine sB ?_|(first|apply pX|apply bX)<;>intro hc|refine⟨oD,?_⟩|exact oD|fail
  all_goals rfl
theorem ot {n i:Nat} {p:Nat→Bool} (hi:i<n) (h:p i=false):(List.range n).all p=false:=by
 rw[fj];intro g;have:=bc.1 g i (dk.2 hi);rw[h]at this;cases this
theorem nT {n:Nat} {p:Nat→Bool} (h: ∀i,i<n→p i=true):(List.range n).all p=true:=by
 rw[bc];intro i hi;exact h i (dk.1 hi)
theorem Na {L:List Bytes} {es:List eE} (hl:L.length=es.length) (h: ∀j,j<es.length→L.getD j []=(es.getD j ku).tgt):L=es.map (·.tgt):=by
 refine ry (by simpa using hl) fun j h1 h2=> ?_
 have h2:j<es.length:=by simpa using h2
 have:=h j h2;rw[aX,aX,aU h1,aU h2]at this;simpa using this
end Go.Proofs.YtmobkhegihemeaaGreatDoor
namespace Go.Proofs.YtmobkhegihemeaaGreatDoor
open Go Go.Dom
set_option maxRecDepth 100000
set_option maxHeartbeats 16000000
theorem w0:IntKind.u32.wrap 0=0:=rfl
def m8 (x c:Nat):Nat:=(x*256+c)%4294967296



abbrev Ow:Bytes:=[118,97,114,105,97,98,108,101]
abbrev K2:Bytes:=[98,97,115,101]
abbrev PB:Bytes:=[99,111,101,102,102,105,99,105,101,110,116]
abbrev K3:Bytes:=[101,113,117,97,116,105,111,110]
abbrev Ov:Bytes:=[116,97,114,103,101,116]
abbrev Cw:Bytes:=[103,114,111,117,112,115]
abbrev F5:Bytes:=[98,111,117,110,100,115]
def yf (st:Bytes) (t:fR):Bytes:=Es (jt (ji st Ow (mW t.var.toNat)) K2 [t.base]) PB [(t.neg,t.abs)]
def yd (st:Bytes) (q:eE):Bytes:=q.terms.foldl yf (jt (ji st K3 (mW q.lF.toNat)) Ov [q.tgt])
def pY (st:Bytes) (s:dy):Bytes:=s.eqs.foldl yd (jt (jt st Cw (s.groups.flatMap fun g=>[g.1,g.2])) F5 s.vars)
structure Xy (s:dy):Prop where
 g: ∃m o,s.groups=[(m,o)]∧m.length≤1000∧o.length≤1000
 v0:s.vars≠[]
 nv:s.vars.length≤64
 v: ∀b∈s.vars,b.length≤1000
 ne:s.eqs.length≤64
 q: ∀q∈s.eqs,0≤q.lF∧q.lF<100∧q.tgt.length≤1000∧ ∃t,q.terms=[t]∧0≤t.var∧t.var<100∧t.base.length≤1000∧t.abs.length≤1000
theorem vJ {α β:Type} (f:β→α→β) (b:β) {l:List α} {i:Nat} (d:α) (h:i<l.length):(l.take (i+1)).foldl f b=f ((l.take i).foldl f b) (l.getD i d):=by
 rw[bj d h,List.foldl_append];rfl
theorem Ic {P:Program} [bT P] {Q:AX→AS→Prop} {nx:Nat} {bf:Option (List Nat)} {nn:Nat} {d:Option Nat} {ops:List iK} {k:Nat} {s:AS} {tr:List (Nat×List Nat×List Nat)} {K:List Fr} {nm:Nat} {f:FuncId} {α:Type} {g:α→PV} {z n ver m:Nat} {l:List α} {gr:Bool} {el:Option TypeId} {x y r:PV}
  (he:aD P f [x,y, .sl (l.map g)] r) (hrow:eQ g z) (hr:r.flat=true) (hg:ar s.h n=some ⟨ver,bJ g l,gr,el⟩) (hm:m=l.length) (hK:RW P Q nx bf nn ops (k+1) (s.sM d (.v r) []) (yY bf k [n] [] tr) K):
  CR P Q nx bf nn nm (.v (.fn (.func f))) [.v x, .v y, .rs n ver 0 m z] d ops k s tr K:=by
 refine tJ he ?_ hr ?_
 ·simp[aQ,H5 hrow hm hg];rfl
 ·have:[AV.v x,AV.v y,AV.rs n ver 0 m z].flatMap (aN (ar s.h) 9)=[n]:=by simp[Ez hrow hm hg];rfl
  rw[this];exact hK

abbrev F0:PV:= .agg [.sl []]
abbrev C0:PV:= .agg [.sl [], .sl []]
theorem Fw:aD Tryz.prog 271 [F0] (.tup [E 0, .b true]):=by
 refine eW Tryz.call271 Tryz.func271 ?_;repeat' first|simp only[go_sem,seval]|refine sB ?_|(first|apply pX|apply bX)<;>intro hc|refine⟨oD,?_⟩|exact oD|fail
theorem Ff:aD Tryz.prog 248 [F0,E 0] (E 0):=by
 refine eW Tryz.call248 Tryz.func248 ?_;repeat' first|simp only[go_sem,seval]|refine cP Fw ?_|refine sB ?_|(first|apply pX|apply bX)<;>intro hc|refine⟨oD,?_⟩|exact oD|fail
theorem Q2:aD Tryz.prog 191 [F0] (.tup [.s [],E 0]):=by
 refine eW Tryz.call191 Tryz.func191 ?_;repeat' first|simp only[go_sem,seval]|refine cP Fw ?_|refine sB ?_|(first|apply pX|apply bX)<;>intro hc|refine⟨oD,?_⟩|exact oD|fail
theorem EM:aD Tryz.prog 169 [C0] (E 0):=by
 refine eW Tryz.call169 Tryz.func169 ?_;repeat' first|simp only[go_sem,seval]|refine cP Ff ?_|(refine ae ?_)|refine sB ?_|(first|apply pX|apply bX)<;>intro hc|refine⟨oD,?_⟩|exact oD|fail
end Go.Proofs.YtmobkhegihemeaaGreatDoor
namespace Go.Proofs.YtmobkhegihemeaaGreatDoor
open Go Go.Dom Go.Num
set_option maxRecDepth 100000
set_option maxHeartbeats 16000000
theorem Ny {c sl b:Bytes} (hr:pW c sl) (hb:b.length≤16):Rc c sl b<du:=dQ (Nat.sub_le _ _) (zJ hr hb)



end Go.Proofs.YtmobkhegihemeaaGreatDoor
namespace Go.Proofs.YtmobkhegihemeaaGreatDoor
open Go Go.Dom
set_option maxRecDepth 100000
set_option maxHeartbeats 16000000
def Fy (l:List (Bool×Bytes)):PV:= .sl (l.map eg)
theorem uT (l:List (Bytes)) (f:FuncId) (p:Bytes→Bool) (hl:l.length<4611686018427387904) (h: ∀x,aD Tryz.prog f [PV.s x] (.b (p x))):aD Tryz.prog 312 [.sl (l.map PV.s), .fn (.func f)] (E (dA p 0 l)):=by
 have hlm:(l.map PV.s).length=l.length:=aH ..;refine eW Tryz.call312 Tryz.func312 ?_;repeat' first|simp only[go_sem,seval,hlm]|refine sB ?_|(first|apply pX|apply bX)<;>intro hc|refine⟨oD,?_⟩|exact oD|fail
 refine aj (α:=Nat) (fun i=>l.length-i) (fun i=>⟨[(0, .v (.sl (l.map PV.s))),(1, .v (.fn (.func f))),(7, .v (.i .i64 l.length)),(8, .v (.i .i64 (i:Nat)))],[],_⟩) (fun i=>i≤l.length∧dA p i (l.drop i)=dA p 0 l) 0 (fun _=>au _) ⟨aL _,rfl⟩ ?_ ?_
 ·exact lE
 ·rintro i ⟨hi,hx⟩ R hR;rw[←hx]
  by_cases hlt:i<l.length
  ·have e1:=getD_map PV.s l [] hlt;have hf:=h (l.getD i []);have hgo:=hR (i+1);rw[←hx,aR [] hlt]at hgo;rw[aR [] hlt];simp only[dA]at hgo⊢;clear hx hR h;generalize p (l.getD i [])=b at*;generalize l.getD i []=x at*;cases b
   ·have hgo:=hgo ⟨by omega,rfl⟩ (by omega)
    repeat' first|simp only[go_sem,seval,hlm,e1]|refine cP hf ?_|refine sB ?_|(first|apply pX|apply bX)<;>intro hc|refine⟨oD,?_⟩|exact oD|fail
    refine hgo _ ?_;exact lE
   ·repeat' first|simp only[go_sem,seval,hlm,e1]|refine cP hf ?_|refine sB ?_|(first|apply pX|apply bX)<;>intro hc|refine⟨oD,?_⟩|exact oD|fail
    all_goals rfl
  ·obtain rfl:i=l.length:=by omega
   rw[cY];repeat' first|simp only[go_sem,seval,hlm]|refine sB ?_|(first|apply pX|apply bX)<;>intro hc|refine⟨oD,?_⟩|exact oD|fail
   all_goals simp[dA]
theorem lh (l:List (Bytes)) (f:FuncId) (p:Bytes→Bool) (hl:l.length<4611686018427387904) (h: ∀x,aD Tryz.prog f [PV.s x] (.b (p x))):aD Tryz.prog 245 [.sl (l.map PV.s), .fn (.func f)] (.b (l.any p)):=by
 have hi:=uT l f p hl h;have e:decide (dA p 0 l≥0)=l.any p:=by
  rw[dx,decide_eq_true_iff];exact gW
 refine eW Tryz.call245 Tryz.func245 ?_;repeat' first|simp only[go_sem,seval,e]|refine cP hi ?_|refine sB ?_|(first|apply pX|apply bX)<;>intro hc|refine⟨oD,?_⟩|exact oD|fail
theorem xG (l:List (List (Bool×Bytes))) (f:FuncId) (c:List PV) (p:List (Bool×Bytes)→Bool) (hl:l.length<4611686018427387904) (h: ∀x∈l,aD Tryz.prog f (Fy x::c) (.b (p x))):aD Tryz.prog 252 [.sl (l.map Fy), .fc f [] c] (E (dA p 0 l)):=by
 have hlm:(l.map Fy).length=l.length:=aH ..;refine eW Tryz.call252 Tryz.func252 ?_;repeat' first|simp only[go_sem,seval,hlm]|refine sB ?_|(first|apply pX|apply bX)<;>intro hc|refine⟨oD,?_⟩|exact oD|fail
 refine aj (α:=Nat) (fun i=>l.length-i) (fun i=>⟨[(0, .v (.sl (l.map Fy))),(1, .v (.fc f [] c)),(7, .v (.i .i64 l.length)),(8, .v (.i .i64 (i:Nat)))],[],_⟩) (fun i=>i≤l.length∧dA p i (l.drop i)=dA p 0 l) 0 (fun _=>au _) ⟨aL _,rfl⟩ ?_ ?_
 ·exact lE
 ·rintro i ⟨hi,hx⟩ R hR;rw[←hx]
  by_cases hlt:i<l.length
  ·have e1:=getD_map Fy l [] hlt;have hf:=h (l.getD i []) (ay [] hlt);have hgo:=hR (i+1);rw[←hx,aR [] hlt]at hgo;rw[aR [] hlt];simp only[dA]at hgo⊢;clear hx hR h;generalize p (l.getD i [])=b at*;generalize l.getD i []=x at*;simp only[Fy]at e1 hf;cases b
   ·have hgo:=hgo ⟨by omega,rfl⟩ (by omega)
    repeat' first|simp only[go_sem,seval,hlm,e1]|(refine dF hf (lT _ _) ?_)|refine sB ?_|(first|apply pX|apply bX)<;>intro hc|refine⟨oD,?_⟩|exact oD|fail
    refine hgo _ ?_;exact lE
   ·repeat' first|simp only[go_sem,seval,hlm,e1]|(refine dF hf (lT _ _) ?_)|refine sB ?_|(first|apply pX|apply bX)<;>intro hc|refine⟨oD,?_⟩|exact oD|fail
    all_goals rfl
  ·obtain rfl:i=l.length:=by omega
   rw[cY];repeat' first|simp only[go_sem,seval,hlm]|refine sB ?_|(first|apply pX|apply bX)<;>intro hc|refine⟨oD,?_⟩|exact oD|fail
   all_goals simp[dA]
theorem mC (l:List (List (Bool×Bytes))) (f:FuncId) (c:List PV) (p:List (Bool×Bytes)→Bool) (hl:l.length<4611686018427387904) (h: ∀x∈l,aD Tryz.prog f (Fy x::c) (.b (p x))):aD Tryz.prog 173 [.sl (l.map Fy), .fc f [] c] (.b (l.any p)):=by
 have hi:=xG l f c p hl h;have e:decide (dA p 0 l≥0)=l.any p:=by
  rw[dx,decide_eq_true_iff];exact gW
 refine eW Tryz.call173 Tryz.func173 ?_;repeat' first|simp only[go_sem,seval,e]|refine cP hi ?_|refine sB ?_|(first|apply pX|apply bX)<;>intro hc|refine⟨oD,?_⟩|exact oD|fail
theorem JA (x:Bool×Bytes):aD Tryz.prog 344 [eg x] (.b (!db x)):=by
 obtain⟨n,a⟩:=x;have hv:=fJ n a;have e:db (n,a)=(aa a&& !(n&&a==[])):=rfl;rw[e];generalize (aa a&& !(n&&a==[]))=b at*;simp only[eg];refine eW Tryz.call344 Tryz.func344 ?_;repeat' first|simp only[go_sem,seval]|refine cP hv ?_|refine sB ?_|(first|apply pX|apply bX)<;>intro hc|refine⟨oD,?_⟩|exact oD|fail
abbrev Ts:PV:= .pt (.agg [.fn (.func 344)]) 0
theorem BG (l:List (Bool×Bytes)) (hl:l.length<4611686018427387904):aD Tryz.prog 345 [Fy l,Ts] (.b (!l.all db)):=by
 have h1:=fp l _ _ hl JA;rw[lr]at h1;unfold Fy;refine eW Tryz.call345 Tryz.func345 ?_;repeat' first|simp only[go_sem,seval]|refine cP h1 ?_|refine sB ?_|(first|apply pX|apply bX)<;>intro hc|refine⟨oD,?_⟩|exact oD|fail
theorem JB (a:Bytes):aD Tryz.prog 346 [.s a] (.b (!aa a)):=by
 have hv:=aM a;generalize aa a=b at*;refine eW Tryz.call346 Tryz.func346 ?_;repeat' first|simp only[go_sem,seval]|refine cP hv ?_|refine sB ?_|(first|apply pX|apply bX)<;>intro hc|refine⟨oD,?_⟩|exact oD|fail
theorem U3 (f:FuncId) (c:List PV):aD Tryz.prog 245 [.sl [], .fc f [] c] (.b false):=by
 have hi:aD Tryz.prog 312 [.sl [], .fc f [] c] (E (-1)):=by
  refine eW Tryz.call312 Tryz.func312 ?_;repeat' first|simp only[go_sem,seval]|(refine ae ?_)|refine sB ?_|(first|apply pX|apply bX)<;>intro hc|refine⟨oD,?_⟩|exact oD|fail
 refine eW Tryz.call245 Tryz.func245 ?_;repeat' first|simp only[go_sem,seval]|refine cP hi ?_|refine sB ?_|(first|apply pX|apply bX)<;>intro hc|refine⟨oD,?_⟩|exact oD|fail
end Go.Proofs.YtmobkhegihemeaaGreatDoor
namespace Go.Proofs.YtmobkhegihemeaaGreatDoor
open Go Go.Dom Go.Num
set_option maxRecDepth 100000
set_option maxHeartbeats 16000000
theorem Dg {α:Type} (l:List α) (p:α→Bool):(l.any fun x=> !p x)= !l.all p:=by
 induction l with
 |nil=>rfl
 |cons x l ih=>rw[List.any_cons,List.all_cons,ih];cases p x<;>simp
theorem vP {vs:List Bytes} {a:Int} (h:eU vs a=true):vs.all aa=true∧0≤a∧a≤2147483647:=by
 unfold eU at h;rw[Dg,ui]at h;simp only[aZ,decide_eq_true_eq]at h;exact⟨h.2,h.1.1,h.1.2⟩
theorem vO {vs:List Bytes} {i:Nat} (h:vs.all aa=true) (hi:i≤2147483647):eU vs i=true:=by
 unfold eU;rw[Dg,h,decide_eq_true (show(i:Int)≥0 by omega),decide_eq_true (show(i:Int)≤2147483647 by omega)];rfl
end Go.Proofs.YtmobkhegihemeaaGreatDoor
namespace Go.Proofs.YtmobkhegihemeaaGreatDoor
open Go Go.Dom
set_option maxRecDepth 100000
set_option maxHeartbeats 16000000
theorem yV (l:List (Bool×Bytes)) (hl:l.length<1000000):aD Tryz.prog 194 [.sl (l.map eg)] (.b (l.all db)):=by
 have l5:(l.map eg).length=l.length:=aH ..;refine eW Tryz.call194 Tryz.func194 ?_;repeat' first|simp only[go_sem,seval,l5]|refine sB ?_|(first|apply pX|apply bX)<;>intro hc|refine⟨oD,?_⟩|exact oD|fail
 refine aj (α:=Nat) (fun i=>l.length-i) (fun i=>⟨[(5, .v (.sl (l.map eg))),(6,E' l.length),(7,E' i)],[],_⟩) (fun i=>i≤l.length∧(l.drop i).all db=l.all db) 0 (fun _=>au _) ⟨aL _,rfl⟩ ?_ ?_
 ·exact lE
 ·rintro i ⟨hi,hf⟩ R hR;rw[←hf]
  by_cases hlt:i<l.length
  ·have e1:=getD_map eg l kZ hlt;have hgo:=hR (i+1);rw[←hf]at hgo;rw[aR kZ hlt,List.all_cons]at hgo⊢;obtain⟨x,hx⟩: ∃x,x=l.getD i kZ:=⟨_,rfl⟩;rw[←hx]at e1 hgo⊢;clear hx hf hR;obtain⟨n,a⟩:=x;have hv:=fJ n a;have e:db (n,a)=(aa a&& !(n&&a==[])):=rfl;rw[e]at hgo⊢;clear e;simp only[eg]at e1;generalize (aa a&& !(n&&a==[]))=b at*;cases b
   ·repeat' first|simp only[go_sem,seval,l5,e1]|refine cP hv ?_|refine sB ?_|(first|apply pX|apply bX)<;>intro hc|refine⟨oD,?_⟩|exact oD|fail
    all_goals simp
   ·have hgo:=hgo ⟨by omega,by simp⟩ (by omega)
    repeat' first|simp only[go_sem,seval,l5,e1]|refine cP hv ?_|refine sB ?_|(first|apply pX|apply bX)<;>intro hc|refine⟨oD,?_⟩|exact oD|fail
    refine hgo _ ?_;exact lE
  ·obtain rfl:i=l.length:=by omega
   rw[cY];repeat' first|simp only[go_sem,seval,l5]|refine sB ?_|(first|apply pX|apply bX)<;>intro hc|refine⟨oD,?_⟩|exact oD|fail
   all_goals rfl


end Go.Proofs.YtmobkhegihemeaaGreatDoor
namespace Go.Proofs.YtmobkhegihemeaaGreatDoor
open Go Go.Dom Go.Num
set_option maxRecDepth 100000
set_option maxHeartbeats 16000000

end Go.Proofs.YtmobkhegihemeaaGreatDoor
