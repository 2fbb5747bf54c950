/- Part of the proof. -/
import Derived.Test.YtipbhapfacgabaaGreatDoorUH41
import Derived.Test.YtipbhapfacgabaaGreatDoorUH42
set_option linter.all false
set_option maxHeartbeats 16000000
set_option maxRecDepth 100000
namespace Go.Proofs.Tryz
open Go Go.Dom Go.Num
variable {a e:Int} {c ch ctx sd sl:Bytes} {vs:List Bytes}
theorem OT {s:cY} {w:List Int}: ∀{n i:Nat},qM c sl ctx s w vs sd n i= .error e->e≠0
 |0,i,h=>by injection h with h;omega
 |n+1,i,h=>by
  rw[qM]at h
  split at h
  ·rename_i hm;injection h with h;have:=yL hm;omega
  ·split at h
   ·cases h
   ·exact OT h
theorem VF {s:cY} {w:List Int} (h:qL c sl ctx s w vs sd a= .error e):e≠0:=by
 unfold qL at h
 split at h
 ·rename_i h0;injection h with h;rw[<-h];exact h0
 ·exact OT h
theorem Ou {s:cY} {w:List Int} {rs:List Int} {j:Nat}: ∀{n i:Nat},qM c sl ctx s w vs sd n i= .ok (ch,rs,j)->rs.length=s.vars.length
 |0,i,h=>by cases h
 |n+1,i,h=>by
  rw[qM]at h
  split at h
  ·cases h
  ·split at h
   ·simp only[Except.ok.injEq,dJ]at h;obtain⟨-,rfl,-⟩:=h;exact sS ..
   ·exact Ou h
theorem N3 {s:cY} {w:List Int} {rs:List Int} {j:Nat} (h:qL c sl ctx s w vs sd a= .ok (ch,rs,j)):rs.length=s.vars.length:=by
 unfold qL at h
 split at h
 ·cases h
 ·exact Ou h
noncomputable def iB (k:Key) (b x:Bytes):Nat:=CC (num k.m) [(num k.s,(false,b)),(num (k.r.getD 0 []),(false,x))]
def uR (p:cz) (k:Key) (x n:Bytes) (vs:List Bytes) (a:Int):Int:=if fK (fB p) k≠0 then fK (fB p) k else if !aa x|| !fA vs a then 3 else if decide (64<n.length)then 5 else if decide (num p.se<=num x)then 2 else 0
def VW {α β:Type} (f:α->Except Int β):Except Int α->Except Int β
 | .error e=> .error e
 | .ok b=>f b
def VZ (c b:Bytes):Except Int (Bytes×List Int×Nat)->Except Int (Bytes×Bytes×Bytes×List Int×Nat)
 | .error e=> .error e
 | .ok r=> .ok (c,b,r.1,r.2.1,r.2.2)
theorem VX {α β:Type} (f:α->Except Int β) (e:Int):VW f (.error e)= .error e:=rfl
theorem G7 {α β:Type} (f:α->Except Int β) (b:α):VW f (.ok b)=f b:=rfl
theorem Og (c b:Bytes) (e:Int):VZ c b (.error e)= .error e:=rfl
theorem G8 (c b ch:Bytes) (rs:List Int) (j:Nat):VZ c b (.ok (ch,rs,j))= .ok (c,b,ch,rs,j):=rfl
noncomputable def Fj (p:cz) (k:Key) (x n:Bytes) (vs:List Bytes) (sd:Bytes) (a:Int):Except Int (Bytes×Bytes×Bytes×List Int×Nat):=
 if uR p k x n vs a≠0 then .error (uR p k x n vs a)
 else VW (fun b=>VZ (aZ (iB k b x)) b (qL p.c p.sl (oz k n) (fz p k (aZ (iB k b x))) [(num b:Int),(num x:Int)] vs sd ((a.toNat+1:Nat):Int))) (jc vs sd a.toNat p.bl)
def Ai (x n:Bytes) (vs:List Bytes) (sd:Bytes):Except Int (Bytes×Bytes×Bytes×List Int×Nat)->PV
 | .ok (c,b,ch,rs,j)=> .tup [.agg [.s c, .s n, .s ch, .sl (rs.map Zp), .sl [], .sl []], .agg [.s x, .s b],T vs sd (j:Nat),E 0]
 | .error e=> .tup [.agg [.s [], .s [], .s [], .sl [], .sl [], .sl []], .agg [.s [], .s []],T [] [] 0,E e]
theorem Hb (e:Int):aF 29 [E e] (.tup [.agg [.s [], .s [], .s [], .sl [], .sl [], .sl []], .agg [.s [], .s []],T [] [] 0,E e]):=by
 refine eW call29 func29 ?_;exact z0
theorem V4 {p:cz} {k:Key} (h:aF 32 [p.pv,k.pv] (E e)):aF 31 [.pt p.pv 0, .pt k.pv 0] (E e):=by
 unfold cz.pv Key.pv at*;refine eW call31 func31 ?_;exact z1 @h
theorem V5 (x:Bytes) (vs:List Bytes) (sd:Bytes) (a:Int) (hl:vs.length<1000000):aF 34 [.pt (.agg [.s x]) 0, .pt (T vs sd a) 0] (.b (!aa x|| !fA vs a)):=by
 have h1:=aD x;have h2:=Eb vs sd a hl;generalize aa x=b1 at*;generalize fA vs a=b2 at*;refine eW call34 func34 ?_;exact O5 @h1 @h2
theorem V6 (n:Bytes):aF 37 [.pt (.agg [.s n]) 0] (.b (decide (64<n.length))):=by
 refine eW call37 func37 ?_;repeat' first|simp only[go_sem,seval]|refine oE ?_|apply xX<;>intro hc
 all_goals (refine congrArg PV.b ?_;rw[jm];omega)
theorem V7 (p:cz) (x:Bytes) (vx:aa x=true) (vs:aa p.se=true):aF 38 [.pt (.agg [.s x]) 0, .pt p.pv 0] (.b (decide (num p.se<=num x))):=by
 have h:=jZ vx vs;have hg:=O9 (num x) (num p.se);have hd:decide (num p.se<=num x)= !decide (num x<num p.se):=by rw[cI];simp
 rw[hd];generalize bK (num x) (num p.se)=cm at*;generalize decide (num x<num p.se)=bb at*;unfold cz.pv;refine eW call38 func38 ?_;exact Wl @hg @h
theorem mR {f:FuncId} {cs:List PV} {b:Bool} {E0 E1:Int} {r:List (FuncId×List PV)} (h:aF f cs (.b b)) (h0:e≠0) (g:b=false->EA r E0) (he:E1=if b then e else E0):EA ((86,[.pt (.agg [.fc f [] cs]) 0, .pt (.agg [E e]) 0])::r) E1:=by
 have hw:=zQ (e:=e) h;cases b
 ·subst he;exact Cc hw (g rfl)
 ·subst he;exact MX hw h0
abbrev rqL (p:cz) (k:Key) (x n:Bytes) (vs:List Bytes) (sd:Bytes) (a:Int):List (FuncId×List PV):=
 [(31,[.pt p.pv 0, .pt k.pv 0]),(86,[.pt (.agg [.fc 34 [] [.pt (.agg [.s x]) 0, .pt (T vs sd a) 0]]) 0, .pt (.agg [E 3]) 0]),(86,[.pt (.agg [.fc 37 [] [.pt (.agg [.s n]) 0]]) 0, .pt (.agg [E 5]) 0]),(86,[.pt (.agg [.fc 38 [] [.pt (.agg [.s x]) 0, .pt p.pv 0]]) 0, .pt (.agg [E 2]) 0])]
theorem RI {p:cz} {k:Key} (hp:p.short) (lm:k.m.length<=8) (ln:k.name.length<=60) (lr:k.r.length<=20) (x n:Bytes) (vs:List Bytes) (sd:Bytes) (a:Int) (hl:vs.length<1000000):aF 30 [.sl ((rqL p k x n vs sd a).map Mu)] (E (uR p k x n vs a)):=by
 have hck:=V4 (mT p k _ (nV p hp) lm ln lr);refine uq _ (by simp) ⟨_,hck,fun h=>ah h,fun h=> ?_⟩
 unfold uR;rw[af (by simpa using h)]
 refine mR (V5 x vs sd a hl) oC (fun hb=> ?_) rfl
 refine mR (V6 n) oC (fun _=> ?_) rfl
 simp only[DB,xo]at hb;exact mR (V7 p x hb.1 ((Bj (mU h).1).1 _ (by simp[cz.eA]))) oC (fun _=>rfl) rfl
theorem IX (k:Key) (b x:Bytes) (h:0<num k.m):iB k b x<num k.m:=aL _ h
theorem IY {k:Key} (hk:ui k) (lm:k.m.length<=8) (h0:0<k.r.length) {b x:Bytes} (vb:aa b=true) (vx:aa x=true):aF 42 [G k.m k.o, .sl [.s k.s, .s (k.r.getD 0 [])], .sl [.agg [.b false, .s b], .agg [.b false, .s x]]] (.tup [N (iB k b x),E 0])/\cL k.m [] (aZ (iB k b x))=true:=by
 have hE:=AZ hk;have lo:k.o.length<=8:=by rw[hk.o];simp
 obtain⟨vs,gs⟩:=(eY hE).1 (nE hk hk.s);obtain⟨vr,gr⟩:=(eY hE).1 (nE hk (hk.t _ (Gy h0)));obtain⟨vm,-,m1,-,-⟩:=qJ hE;have hn:=cU lm;have h:=sD lm lo hE (xs:=[num k.s,num (k.r.getD 0 [])]) (es:=[(false,b),(false,x)]) (by intro y hy;simp only[bV,iu,or_false]at hy;rcases hy with rfl|rfl<;>assumption) (by intro y hy;simp only[bV,iu,or_false]at hy;rcases hy with rfl|rfl<;>simp[dh,vb,vx]) rfl (by simp)
 simp only[br,bH,vW,eT vs,eT vr]at h;refine⟨h,?_⟩;have hl:=IX k b x oO;have hg:lf k.m k.o (aZ (iB k b x))=true:=(eY hE).2 ⟨vN oO,by
  rw[aP];show GP k.m k.o (CC (num k.m) _);rw[pW,II];exact(gs.dU m1 _ _).mul (gr.dU m1 _ _)⟩
 rw[hk.o]at hg;unfold lf at hg
 rwa[ah (by simp)]at hg
theorem zw {p:cz} {k:Key} (hp:p.short) (lm:k.m.length<=8) (ln:k.name.length<=60) (lr:k.r.length<=20) (x n:Bytes) (hl:vs.length<1000000) (hsd:sd.length<1000000):
  aF 10 [p.pv,k.pv, .s x, .s n,T vs sd a] (Ai x n vs sd (Fj p k x n vs sd a)):=by
 have hf:=RI hp lm ln lr x n vs sd a hl;have h3:=fun n1 k1 nm h=>zR n1 k1 nm h 34 [.s x] [.sl (vs.map .s), .s sd, .i .i64 a] none none 3
 have h4:=fun n1 nm=>Ht n1 nm 37 [.s n] none 5
 have h5:=fun n1 k1 nm h=>zR n1 k1 nm h 38 [.s x] p.pv.cells none none 2
 unfold cz.pv PV.cells at h5;simp only[br,bH]at h3 h4 h5;simp only[rqL,br,bH,Mu]at hf;unfold Fj
 by_cases hE:uR p k x n vs a=0
 case neg=>
  rw[ah hE];simp only[Ai];have h1:=Hb (uR p k x n vs a);have hb2:(uR p k x n vs a !=0)=true:=by simpa using hE
  generalize uR p k x n vs a=e at*;unfold cz.pv Key.pv at*;refine eW call10 func10 ?_;repeat' first|simp only[go_sem,seval,hb2]|(refine aW (h3 _ _ _ oC) (by simp[hget]) ?_)|(refine aW (h4 _ _) (by simp[hget]) ?_)|(refine aW (h5 _ _ _ oC) (by simp[hget]) ?_)|(refine gp hf (by simp[aU,view,hget,AV.one,PV.one,pU,chunk]) rfl ?_)|refine cP h1 ?_|refine oE ?_|apply xX<;>intro hc
  all_goals rfl
 rw[af (by simpa using hE)]
 rw[hE]at hf;unfold uR at hE
 split at hE
 ·rename_i h;exact aJ hE h
 rename_i hke
 split at hE
 ·cases hE
 rename_i hb
 split at hE
 ·cases hE
 rename_i hn64
 split at hE
 ·cases hE
 rename_i hse;clear hE;simp only[qz,dC,not_or,xk,bc,Nat.not_le,Nat.not_lt,ne_eq,Decidable.not_not]at hb hn64 hse hke;obtain⟨vx,hg⟩:=hb;obtain⟨hv,a0,a1⟩:=ED hg;obtain⟨hpe,hkf⟩:=mU hke;have hr2:=Cn hke;obtain⟨hpv,hpt⟩:=Bj hpe;have vbl:=hpv p.bl (by simp[cz.eA])
 have lbl:=hp p.bl (by simp[cz.eA])
 have lse:=hp p.se (by simp[cz.eA])
 have nbl:=Cw (hpt p.bl (by simp[cz.rO]))
 obtain⟨i,rfl⟩: ∃i:Nat,a=i:=⟨a.toNat,oO⟩;rw[Int.toNat_natCast];have dB:=nI (vs:=vs) (sd:=sd) (i:=i) (n:=p.bl) hv vbl nbl oO hl hsd
 cases hd:jc vs sd i p.bl with
 |error e=>
  rw[hd]at dB;rw[VX];have he:=qg hd;have h1:=Hb e;simp only[vg,Ai]at dB⊢;clear hd hkf;unfold cz.pv Key.pv at*;refine eW call10 func10 ?_;repeat' first|simp only[go_sem,seval]|(refine aW (h3 _ _ _ oC) (by simp[hget]) ?_)|(refine aW (h4 _ _) (by simp[hget]) ?_)|(refine aW (h5 _ _ _ oC) (by simp[hget]) ?_)|(refine gp hf (by simp[aU,view,hget,AV.one,PV.one,pU,chunk]) rfl ?_)|refine cP dB ?_|refine cP h1 ?_|refine oE ?_|apply xX<;>intro hc
  all_goals rfl
 |ok b=>
  rw[hd]at dB;rw[G7];obtain⟨vb,b2,b3⟩:=nQ hv vbl hl oO hd;simp only[vg]at dB;obtain⟨c1,c2⟩:=IY hkf lm oO vb vx;have f1:=mJ vb;have f2:=mJ vx;have w1:=HL k n oO oO;have w2:=HN p k (aZ (iB k b x)) oO oO;have hS:=xQ hp hpe hkf lm oO c2;have hB:=Ea hp hkf lm oO c2;have q1:=cU lbl;have q2:=cU lse;have w64:=oY;have w3:=LH hS hB (by simp[fz]) rfl (ctx:=oz k n) (by simp[oz];omega) (w:=[(num b:Int),(num x:Int)]) (by simp) (fun z hz=>by simp at hz;rcases hz with rfl|rfl<;>omega) (fun _=>Qc p k _ oO oO) (vs:=vs) (sd:=sd) (a:=((i+1:Nat):Int)) hl hsd
  simp only[br,bH]at w3;rw[show Zp (num b:Int)= .agg [.b false, .s b] by show fw (jB (num b:Int))= _;rw[sH vb];rfl,show Zp (num x:Int)= .agg [.b false, .s x] by show fw (jB (num x:Int))= _;rw[sH vx];rfl]at w3
  have h0: ∀e,qL p.c p.sl (oz k n) (fz p k (aZ (iB k b x))) [(num b:Int),(num x:Int)] vs sd ((i+1:Nat):Int)= .error e->e≠0:=fun e h=>VF h
  have h1:=fun e=>Hb e
  generalize qL p.c p.sl (oz k n) (fz p k (aZ (iB k b x))) [(num b:Int),(num x:Int)] vs sd ((i+1:Nat):Int)=R at*;have e1:=nB (l:=k.r) (x:=0) oO;have l1:(k.r.map PV.s).length=k.r.length:=aR ..;have hpos: ∀ _:True,(0:Int)<(k.r.length:Int):=fun _=>oO
  generalize k.r.getD 0 []=r0 at*;generalize oz k n=cx at*;generalize fz p k (aZ (iB k b x))=S at*;generalize iB k b x=cc at*;clear hS hB hkf hd c2;obtain⟨sg,sv,se⟩:=S;unfold cz.pv Key.pv cY.pv at*;rcases R with e|⟨ch,rs,j⟩
  all_goals
   first|have h0:=h0 _ rfl|skip
   first|rw[Og]|rw[G8]
   simp only[XQ,Ai]at w3⊢;refine eW call10 func10 ?_;repeat' first|simp only[go_sem,seval,l1,e1,hpos oT]|(refine aW (h3 _ _ _ oC) (by simp[hget]) ?_)|(refine aW (h4 _ _) (by simp[hget]) ?_)|(refine aW (h5 _ _ _ oC) (by simp[hget]) ?_)|(refine gp hf (by simp[aU,view,hget,AV.one,PV.one,pU,chunk]) rfl ?_)|refine cP dB ?_|refine cP f1 ?_|refine cP f2 ?_|refine cP c1 ?_|refine cP w1 ?_|refine cP w2 ?_|refine cP w3 ?_|refine cP (h1 _) ?_|refine oE ?_|apply xX<;>intro hc
   all_goals rfl
end Go.Proofs.Tryz
namespace Go.Proofs.Tryz
open Go Go.Dom Go.Num
variable {P Q a bl c sd sl:Bytes} {vs:List Bytes}
theorem EF {P S d:Nat} (hs:fD P=true) (hlt:P<13108) (hE:S^(P/2)%P=1) (h1:S%P≠1) (hd:S^d%P=1):P/2∣d:=by
 have h5:=fQ hs;have hm:eZ P=true/\eZ ((P-1)/2)=true:=by simpa[fD]using hs
 have hpr:=rZ hm.1 hlt;have hodd:P%2=1:=by
  rcases Nat.mod_two_eq_zero_or_one P with h|h
  ·rcases hpr.2 2 (Dv h)with h|h
   ·omega
   ·omega
  ·exact h
 have e:P/2=(P-1)/2:=oO;have hq:=rZ hm.2 oO;rw[<-e]at hq;have hg:=IE (a:=S) (p:=P) oO d (P/2) hd hE;rcases hq.2 _ (DG d (P/2))with h|h
 ·rw[h,Nat.pow_one]at hg;exact aJ hg h1
 ·rw[<-h];exact Dc d (P/2)
theorem pV {x N P:Nat} (h:P∣N):x%N%P=x%P:=tQ x h
theorem IG {P Q N S X b c:Nat} (hN:N=P*Q) (hP:fD P=true) (hQ:fD Q=true) (hne:P≠Q) (lP:P<13108) (lQ:Q<13108) (eP:S^(P/2)%P=1) (eQ:S^(Q/2)%Q=1) (gP:S%P≠1) (gQ:S%Q≠1) (hS:Nat.Coprime S N) (hX:Nat.Coprime X N) (hbc:b<=c) (hc:c<P/2*(Q/2)) (h:S^b*X%N=S^c*X%N):b=c:=by
 have hN1:1<N:=by
  have:=fQ hP;have:=fQ hQ;rw[hN];exact ba oO (jq (fQ hP) (fQ hQ))
 obtain⟨d,rfl⟩: ∃d,c=b+d:=⟨c-b,oO⟩;have hcop:Nat.Coprime (S^b*X) N:=Nat.Coprime.mul_left (Df b hS) hX;have h1:S^d%N=1%N:=by
  refine Cv (a:=S^b*X) hcop ?_;rw[eH,show S^b*X*S^d=S^(b+d)*X by rw[cF];ac_rfl]
  exact h.symm
 rw[bM hN1]at h1;have d1:=EF hP lP eP gP (by rw[<-pV (N:=N) ⟨Q,hN⟩,h1];exact bM (by have:=fQ hP;omega))
 have d2:=EF hQ lQ eQ gQ (by rw[<-pV (N:=N) ⟨P,by rw[hN,bw]⟩,h1];exact bM (by have:=fQ hQ;omega))
 have prim: ∀{P:Nat},fD P=true->P<13108->Pr (P/2)/\P%2=1:=fun{P} hs hl=>by
  have hm:eZ P=true/\eZ ((P-1)/2)=true:=by simpa[fD]using hs
  have hpr:=rZ hm.1 hl;have h5:=fQ hs;have hodd:P%2=1:=by
   rcases Nat.mod_two_eq_zero_or_one P with h|h
   ·rcases hpr.2 2 (Dv h)with h|h<;>omega
   ·exact h
  have hq:=rZ hm.2 oO;exact⟨by rw[show P/2=(P-1)/2 by omega];exact hq,hodd⟩
 obtain⟨p1,o1⟩:=prim hP lP;obtain⟨p2,o2⟩:=prim hQ lQ;have hco:=GV p1 p2 oO;have hdv:=Nat.Coprime.mul_dvd_of_dvd_of_dvd hco d1 d2;rcases kQ d with h0|h0
 ·omega
 ·have:=Nat.le_of_dvd h0 hdv;omega
theorem I8 {P N S X b a:Nat} (hd:P∣N) (h1:1<P) (eS:S^(P/2)%P=1) (eX:X^(P/2)%P=1):(S^b*X^a%N)^(P/2)%P=1:=by
 rw[gL,pV hd,<-gL,pq,<-gX,<-gX,bw b,bw a,gX,gX,cd,gL,eS,gL (X^(P/2)),eX,lO,lO,bM h1];exact bM h1
theorem Eu {m o P Q:Bytes} {l:List Bytes} (h:Gq m o P Q l=true) {i:Nat} (hi:i<l.length):Gv m o P Q (l.getD i [])=true/\(i=0->UJ m o P Q (l.getD i [])=true):=by
 have:=bJ.1 h i (fE.2 hi);unfold okF at this
 split at this
 ·refine⟨?_,fun _=>this⟩
  unfold UJ at this;rw[aV]at this;exact this.1
 ·rename_i hn;exact⟨this,fun e=>aJ (by rw[e];rfl) hn⟩
theorem El {i:Nat} {n:Bytes} {e:Int} (hi:vs.length<=i) (h:jc vs sd i n= .error e):e=14:=by
 unfold jc at h;rw[af oO]at h
 split at h
 ·injection h with h;exact h.symm
 ·split at h
  ·cases h
  ·injection h with h;exact h.symm
theorem Q5 {o:Bytes} {e:Int}: ∀{us:List Bytes} {i:Nat} {acc:List Int},vs.length<=i->mA o c sl vs sd us i acc= .error e->e=14:=by
 intro us
 induction us with
 |nil=>intro i acc _ h;cases h
 |cons b us ih=>
  intro i acc hi h;rw[mA]at h
  split at h
  ·rename_i e' he;injection h with h
   subst h;unfold nR at he
   split at he
   ·split at he
    ·rename_i e'' he';injection he with he
     subst he;exact El hi he'
    ·cases he
   ·unfold vK at he
    split at he
    ·rename_i e'' he';injection he with he
     subst he;exact El hi he'
    ·cases he
  ·exact ih oO h
theorem Ja {ctx:Bytes} {s:cY} {w:List Int} {e:Int}: ∀{n i:Nat},vs.length<=i->qM c sl ctx s w vs sd n i= .error e->e=15\/e=14
 |0,i,_,h=>by injection h with h;exact .inl h.symm
 |n+1,i,hi,h=>by
  rw[qM]at h
  split at h
  ·rename_i hm;injection h with h
   subst h;exact .inr (Q5 hi hm)
  ·split at h
   ·cases h
   ·exact Ja oO h
def nD (p:cz) (bl:Bytes):cz:=⟨p.c,[200],p.mm,p.mo,p.mg,p.mh,p.wm,p.wo,p.wg,p.wh,p.se,p.at',p.ha,p.el,p.es,bl,p.ma⟩
theorem GN {p:cz} (h:p.short) (hl:bl.length<=8):(nD p bl).short:=by
 intro x hx;simp only[cz.eA,nD,bV,iu,or_false]at hx;rcases hx with rfl|rfl|rfl|rfl|rfl|rfl|rfl|rfl|rfl|rfl|rfl|rfl|rfl|rfl|rfl|rfl|rfl
 all_goals first|assumption|decide|exact h _ (by simp[cz.eA])
theorem Vz {p:cz} (h:fB p=0) (vb:aa bl=true) (h2:2<=num bl):fB (nD p bl)=0:=by
 unfold fB at h
 split at h
 case isFalse=>exact aJ h oC
 rename_i ha
 split at h
 ·exact aJ h oC
 rename_i h1
 split at h
 ·exact aJ h oC
 rename_i ht
 split at h
 ·exact aJ h oC
 rename_i h3;have ha':(nD p bl).eA.all aa=true:=by
  refine bJ.2 fun x hx=> ?_
  simp only[cz.eA,nD,bV,iu,or_false]at hx;have hv:=bJ.1 ha;rcases hx with rfl|rfl|rfl|rfl|rfl|rfl|rfl|rfl|rfl|rfl|rfl|rfl|rfl|rfl|rfl|rfl|rfl
  all_goals first|assumption|decide|exact hv _ (by simp[cz.eA])
 have ht': ¬(nD p bl).rO.any (fun x=>decide (num x<2))=true:=by
  intro g;obtain⟨x,hx,hx2⟩:=nj.1 g;have hn: ∀y∈p.rO,¬num y<2:=fun y hy e=>ht (nj.2 ⟨y,hy,by simpa using e⟩)
  simp only[bc]at hx2;simp only[cz.rO,nD,bV,iu,or_false]at hx;rcases hx with rfl|rfl|rfl|rfl|rfl|rfl|rfl|rfl|rfl
  all_goals first|omega|exact aJ hx2 oC|exact hn _ (by simp[cz.rO]) hx2
 unfold fB;exact(ah ha').trans ((af h1).trans ((af ht').trans (af h3)))
theorem Xx (p:cz) (k:Key) (c:Bytes) {b x:Bytes} (vb:aa b=true) (vx:aa x=true):sG (fz p k c) [(num b:Int),(num x:Int)]=[aZ (iB k b x)]:=by
 have ht: ∀(y:Bytes) (i:Nat),tz [(num b:Int),(num x:Int)] (wj y i)=[(num b:Int),(num x:Int)].getD i 0:=fun y i=>by
  unfold tz wj;have e:DS (false,([1]:Bytes))=1:=rfl;simp only[e,tD,Int.toNat_natCast]
 unfold sG Lu fz iB;simp only[br,bH,ht,show((0:Int)).toNat=0 from rfl,iq,iW,sH vb,sH vx]
 rfl
theorem Nh {p:cz} {k:Key} (hp:p.short) (hke:fK (fB p) k=0) (lm:k.m.length<=8) {n b:Nat} (h2:2<=n) (h60:n<=60) (hb:b<n) (va:aa a=true) (ha:num a<num p.se) (sd:Bytes):
  (∃ch rs j,rs.length=2/\Fj (nD p (aZ n)) k a [] [aZ b] sd 0= .ok (aZ (iB k (aZ b) a),aZ b,ch,rs,j))\/ ∃e,(e=15\/e=14)/\Fj (nD p (aZ n)) k a [] [aZ b] sd 0= .error e:=by
 have hpe:=(mU hke).1;have vb:aa (aZ b)=true:=vN (gj (by omega:b<64) oC)
 have vn:aa (aZ n)=true:=vN (gj (by omega:n<64) oC)
 have hpE:=Vz hpe vn (by rw[aP];exact h2)
 have hke':fK (fB (nD p (aZ n))) k=0:=by rw[hpE];rw[hpe]at hke;exact hke
 have hg0:fA [aZ b] 0=true:=by unfold fA;simp[vb]
 have hg1:fA [aZ b] 1=true:=by unfold fA;simp[vb]
 have hE:uR (nD p (aZ n)) k a [] [aZ b] 0=0:=by
  unfold uR;rw[af (by rw[hke'];decide),af (by rw[va,hg0];decide),af oC,af (by
   simp only[bc];show¬num p.se<=num a;omega)]
 have hd:jc [aZ b] sd 0 (aZ n)= .ok (aZ b):=by
  unfold jc;rw[ah (by simp),af (by simp only[iq,aP];omega)]
  rfl
 have hw:tw (fz (nD p (aZ n)) k (aZ (iB k (aZ b) a))) [(num (aZ b):Int),(num a:Int)] [aZ b] 1=0:=by
  have hi:Ag (bZ (fz (nD p (aZ n)) k (aZ (iB k (aZ b) a))).groups) (fz (nD p (aZ n)) k (aZ (iB k (aZ b) a))).vars [(num (aZ b):Int),(num a:Int)]=true:=by
   have nb:aZ n≠[]:=Cw (by rw[aP];exact h2)
   have ns:p.se≠[]:=fun e=>by rw[e]at ha;exact aJ ha (by simp[num])
   unfold Ag;refine bJ.2 fun i hi=> ?_
   have hi:=fE.1 hi;have hi:i<2:=hi;rcases ij i 1 with h|h
   ·obtain rfl:i=0:=oO;show je (aZ n) (num (aZ b):Int) (fH _ (aZ n))=true;unfold je fH;rw[af nb,b9 nb];simp only[fp,db,js,bc,Int.natAbs_natCast,aP];exact hb
   ·obtain rfl:i=1:=oO;show je p.se (num a:Int) (fH _ p.se)=true;unfold je fH;rw[af ns,b9 ns];simp only[fp,db,js,bc,Int.natAbs_natCast];exact ha
  have hh:yn (fz (nD p (aZ n)) k (aZ (iB k (aZ b) a))) [(num (aZ b):Int),(num a:Int)]=true:=by
   unfold yn;rw[Xx _ _ _ vb va];exact aS rfl
  unfold tw;rw[af (by rw[hg1];decide),af (by simp[fz]),af (by rw[hi];decide),af (by rw[hh];decide)]
 unfold Fj;rw[hE,af oC,show(nD p (aZ n)).bl=aZ n from rfl,show(0:Int).toNat=0 from rfl,hd,G7]
 cases hz:qL (nD p (aZ n)).c (nD p (aZ n)).sl (oz k []) (fz (nD p (aZ n)) k (aZ (iB k (aZ b) a))) [(num (aZ b):Int),(num a:Int)] [aZ b] sd ((0+1:Nat):Int)with
 |error e=>
  rw[Og];refine .inr ⟨e,?_,rfl⟩;unfold qL at hz;rw[show((0+1:Nat):Int)=1 from rfl,hw,af oC]at hz
  exact Ja (by simp) hz
 |ok r=>
  obtain⟨ch,rs,j⟩:=r;rw[G8];exact .inl ⟨ch,rs,j,N3 hz,rfl⟩
structure Tt (k:Key) (P Q:Bytes):Prop where
 e:num P*num Q=num k.m
 sP:fD (num P)=true
 sQ:fD (num Q)=true
 ne:num P≠num Q
 hS:cL k.m [] k.s=true
 hR:cL k.m [] (k.r.getD 0 [])=true
 eS:(num k.s)^(num P/2)%num P=1/\(num k.s)^(num Q/2)%num Q=1
 eR:(num (k.r.getD 0 []))^(num P/2)%num P=1/\(num (k.r.getD 0 []))^(num Q/2)%num Q=1
 gS:num k.s%num P≠1/\num k.s%num Q≠1
theorem Fe {m x:Bytes} (h:cL m [] x=true):Nat.gcd (num x) (num m)=1:=by
 simp only[cL,aV,bc]at h;exact h.2
theorem Ns {m o P Q x:Bytes} (h:Gv m o P Q x=true):cL m o x=true/\num x^(num P/2)%num P=1/\num x^(num Q/2)%num Q=1:=by
 unfold Gv OK at h;simp only[aV,bc]at h;exact⟨(B3 h.1).2.2,h.2.1,h.2.2⟩
theorem QK {pe:Int} {k:Key} (h:vk pe k P Q=0):fK pe k=0/\jF k.m k.o P Q=0/\Tt k P Q:=by
 unfold vk at h
 split at h
 ·rename_i g;exact aJ h g
 rename_i h1
 split at h
 ·rename_i g;exact aJ h g
 rename_i h2
 split at h
 case isFalse=>exact aJ h oC
 rename_i h3;have h1:=Classical.not_not.1 h1;have h2:=Classical.not_not.1 h2;have hk:=(mU h1).2;have hr:=Cn h1;obtain⟨vP,vQ,-,e,sP,sQ,ne⟩:=wA h2;have f0:=Eu h3 (i:=0) (by simp)
 have f4:=Eu h3 (i:=4) (by simp[Key.rb];omega)
 have e4:(k.s::k.rb).getD 4 []=k.r.getD 0 []:=by simp[Key.rb,bR]
 rw[e4,hk.o]at f4;rw[iq,hk.o]at f0;obtain⟨a1,a2,a3⟩:=Ns f0.1;obtain⟨b1,b2,b3⟩:=Ns f4.1;have hg:=f0.2 rfl;unfold UJ at hg;simp only[aV,dC,kS]at hg;exact⟨h1,h2,e,sP,sQ,fun he=>ne (by rw[<-eU vP,<-eU vQ,he]),a1,b1,⟨a2,a3⟩,⟨b2,b3⟩,hg.2⟩
theorem zu (k:Key) {b:Nat}:iB k (aZ b) a=(num k.s)^b*(num (k.r.getD 0 []))^num a%num k.m:=by
 unfold iB;rw[pW,II];unfold dU;simp only[bQ,ak,aP];exact(cd ..).symm
theorem QL {k:Key} (hf:Tt k P Q) (hn:num P/2*(num Q/2)<=60) {b c:Nat} (hb:b<num P/2*(num Q/2)) (hc:c<num P/2*(num Q/2)) (h:iB k (aZ b) a=iB k (aZ c) a):b=c:=by
 have p5:=fQ hf.sP;have q5:=fQ hf.sQ;have lP:num P<13108:=by
  have:num P/2*2<=num P/2*(num Q/2):=lu _ oO;omega
 have lQ:num Q<13108:=by
  have:2*(num Q/2)<=num P/2*(num Q/2):=cK _ oO;omega
 have cS:Nat.Coprime (num k.s) (num k.m):=Fe hf.hS;have cR:Nat.Coprime (num (k.r.getD 0 [])^num a) (num k.m):=Df _ (Fe hf.hR);rw[zu,zu]at h;rcases xq b c with hl|hl
 ·exact IG hf.e.symm hf.sP hf.sQ hf.ne lP lQ hf.eS.1 hf.eS.2 hf.gS.1 hf.gS.2 cS cR hl hc h
 ·exact(IG hf.e.symm hf.sP hf.sQ hf.ne lP lQ hf.eS.1 hf.eS.2 hf.gS.1 hf.gS.2 cS cR hl hb h.symm).symm
theorem UH {k:Key} (hf:Tt k P Q) (b:Nat) (a:Bytes):OK (iB k (aZ b) a) (num P)=true/\OK (iB k (aZ b) a) (num Q)=true:=by
 have p5:=fQ hf.sP;have q5:=fQ hf.sQ;rw[zu];unfold OK;exact⟨aS (I8 ⟨num Q,hf.e.symm⟩ oO hf.eS.1 hf.eR.1),aS (I8 ⟨num P,by rw[bw];exact hf.e.symm⟩ oO hf.eS.2 hf.eR.2)⟩
