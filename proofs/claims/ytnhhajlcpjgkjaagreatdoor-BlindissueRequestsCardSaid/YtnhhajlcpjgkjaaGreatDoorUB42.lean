/- Part of the proof. -/
import Derived.Test.YtnhhajlcpjgkjaaGreatDoorUB41
set_option linter.all false
set_option maxHeartbeats 16000000
set_option maxRecDepth 100000
namespace Go.Proofs.Tryz
open Go Go.Dom Go.Num
variable {a e:Int} {b c ch ctx n sd sl x:Bytes} {d:Except Int (Bytes×List Int×Nat)} {k:Key} {p:cA} {rs:List Int} {vs:List Bytes}
theorem PK {s:cG} {w:List Int}: ∀{n i:Nat},qg c sl ctx s w vs sd n i= .error e->e≠0
 |0,i,h=>by injection h with h;omega
 |n+1,i,h=>by
  rw[qg]at h
  split at h
  ·rename_i hm;injection h with h;have:=uf hm;omega
  ·split at h
   ·cases h
   ·exact PK h
theorem HC {s:cG} {w:List Int} (h:qd c sl ctx s w vs sd a= .error e):e≠0:=by
 unfold qd at h
 split at h
 ·rename_i h0;injection h with h;rw[<-h];exact h0
 ·exact PK h
theorem Pl {s:cG} {w:List Int} {j:Nat}: ∀{n i:Nat},qg c sl ctx s w vs sd n i= .ok (ch,rs,j)->rs.length=s.vars.length
 |0,i,h=>by cases h
 |n+1,i,h=>by
  rw[qg]at h
  split at h
  ·cases h
  ·split at h
   ·simp only[Eb,dZ]at h;obtain⟨-,rfl,-⟩:=h;exact qO ..
   ·exact Pl h
theorem OK {s:cG} {w:List Int} {j:Nat} (h:qd c sl ctx s w vs sd a= .ok (ch,rs,j)):rs.length=s.vars.length:=by
 unfold qd at h
 split at h
 ·cases h
 ·exact Pl h
noncomputable def qe (k:Key) (b x:Bytes):Nat:=wc (num k.m) [(num k.s,(false,b)),(num (k.r.getD 0 []),(false,x))]
def oi (p:cA) (k:Key) (x n:Bytes) (vs:List Bytes) (a:Int):Int:=if fb (eN p) k≠0 then fb (eN p) k else if !aa x|| !eT vs a then 3 else if decide (64<n.length)then 5 else if decide (num p.se<=num x)then 2 else 0
def O0 {α β:Type} (f:α->Except Int β):Except Int α->Except Int β
 | .error e=> .error e
 | .ok b=>f b
def O4 (c b:Bytes):Except Int (Bytes×List Int×Nat)->Except Int (Bytes×Bytes×Bytes×List Int×Nat)
 | .error e=> .error e
 | .ok r=> .ok (c,b,r.1,r.2.1,r.2.2)
theorem Dr {α β:Type} (f:α->Except Int β) (e:Int):O0 f (.error e)= .error e:=rfl
theorem Ar {α β:Type} (f:α->Except Int β) (b:α):O0 f (.ok b)=f b:=rfl
theorem Dt (c b:Bytes) (e:Int):O4 c b (.error e)= .error e:=rfl
theorem At (c b ch:Bytes) (rs:List Int) (j:Nat):O4 c b (.ok (ch,rs,j))= .ok (c,b,ch,rs,j):=rfl
noncomputable def wB (p:cA) (k:Key) (x n:Bytes) (vs:List Bytes) (sd:Bytes) (a:Int):Except Int (Bytes×Bytes×Bytes×List Int×Nat):=
 if oi p k x n vs a≠0 then .error (oi p k x n vs a)
 else O0 (fun b=>O4 (bQ (qe k b x)) b (qd p.c p.sl (jH k n) (e9 p k (bQ (qe k b x))) [(num b:Int),(num x:Int)] vs sd ((a.toNat+1:Nat):Int))) (ij vs sd a.toNat p.bl)
theorem O1 {α β:Type} {f:α->Except Int β} {d:Except Int α} (h:O0 f d= .error e):d= .error e\/ ∃b,d= .ok b/\f b= .error e:=by
 cases d with
 |error e'=>rw[Dr]at h;exact .inl (by injection h with h;rw[h])
 |ok b=>rw[Ar]at h;exact .inr ⟨b,rfl,h⟩
theorem O2 {α β:Type} {f:α->Except Int β} {d:Except Int α} {r:β} (h:O0 f d= .ok r): ∃b,d= .ok b/\f b= .ok r:=by
 cases d with
 |error e'=>rw[Dr]at h;cases h
 |ok b=>rw[Ar]at h;exact⟨b,rfl,h⟩
theorem O5 (h:O4 c b d= .error e):d= .error e:=by
 cases d with
 |error e'=>rw[Dt]at h;exact(by injection h with h;rw[h])
 |ok r=>obtain⟨ch,rs,j⟩:=r;rw[At]at h;cases h
theorem O6 {c' b':Bytes} {j:Nat} (h:O4 c b d= .ok (c',b',ch,rs,j)):d= .ok (ch,rs,j):=by
 cases d with
 |error e'=>rw[Dt]at h;cases h
 |ok r=>
  obtain⟨ch',rs',j'⟩:=r;rw[At]at h;simp only[Eb,dZ]at h;obtain⟨-,-,rfl,rfl,rfl⟩:=h;rfl
theorem WQ (h:wB p k x n vs sd a= .error e):e≠0:=by
 unfold wB at h
 by_cases h0:oi p k x n vs a=0
 ·rw[af (by simpa using h0)]at h
  rcases O1 h with hd|⟨b,-,hm⟩
  ·have:=kq hd;omega
  ·exact HC (O5 hm)
 ·rw[ah h0]at h;injection h with h
  rw[<-h];exact h0
theorem O7 {j:Nat} (h:wB p k x n vs sd a= .ok (c,b,ch,rs,j)):rs.length=2:=by
 unfold wB at h
 by_cases h0:oi p k x n vs a=0
 ·rw[af (by simpa using h0)]at h
  obtain⟨b',-,hm⟩:=O2 h;exact OK (O6 hm)
 ·rw[ah h0]at h;cases h
def uo (x n:Bytes) (vs:List Bytes) (sd:Bytes):Except Int (Bytes×Bytes×Bytes×List Int×Nat)->PV
 | .ok (c,b,ch,rs,j)=> .tup [.agg [.s c, .s n, .s ch, .sl (rs.map Zp), .sl [], .sl []], .agg [.s x, .s b],T vs sd (j:Nat),E 0]
 | .error e=> .tup [.agg [.s [], .s [], .s [], .sl [], .sl [], .sl []], .agg [.s [], .s []],T [] [] 0,E e]
theorem H2 (e:Int):aE 26 [E e] (.tup [.agg [.s [], .s [], .s [], .sl [], .sl [], .sl []], .agg [.s [], .s []],T [] [] 0,E e]):=by
 refine eW call26 func26 ?_;exact z0
theorem WY (h:aE 29 [p.pv,k.pv] (E e)):aE 28 [.pt p.pv 0, .pt k.pv 0] (E e):=by
 unfold cA.pv Key.pv at*;refine eW call28 func28 ?_;exact z1 @h
theorem WZ (x:Bytes) (vs:List Bytes) (sd:Bytes) (a:Int) (hl:vs.length<1000000):aE 31 [.pt (.agg [.s x]) 0, .pt (T vs sd a) 0] (.b (!aa x|| !eT vs a)):=by
 have h1:=aI x;have h2:=ES vs sd a hl;generalize aa x=b1 at*;generalize eT vs a=b2 at*;refine eW call31 func31 ?_;exact Qb @h1 @h2
theorem W0 (n:Bytes):aE 34 [.pt (.agg [.s n]) 0] (.b (decide (64<n.length))):=by
 refine eW call34 func34 ?_;repeat' first|simp only[go_sem,seval]|refine oE ?_|apply xX<;>intro hc
 all_goals (refine congrArg PV.b ?_;rw[fh];omega)
theorem W6 (p:cA) (x:Bytes) (vx:aa x=true) (vs:aa p.se=true):aE 35 [.pt (.agg [.s x]) 0, .pt p.pv 0] (.b (decide (num p.se<=num x))):=by
 have h:=j6 vx vs;have hg:=Fm (num x) (num p.se);have hd:decide (num p.se<=num x)= !decide (num x<num p.se):=by rw[cX];simp
 rw[hd];generalize aW (num x) (num p.se)=cm at*;generalize decide (num x<num p.se)=bb at*;unfold cA.pv;refine eW call35 func35 ?_;exact P9 @hg @h
theorem nq {f:FuncId} {cs:List PV} {b:Bool} {E0 E1:Int} {r:List (FuncId×List PV)} (h:aE f cs (.b b)) (h0:e≠0) (g:b=false->Fk r E0) (he:E1=if b then e else E0):Fk ((87,[.pt (.agg [.fc f [] cs]) 0, .pt (.agg [E e]) 0])::r) E1:=by
 have hw:=AP (e:=e) h;cases b
 ·subst he;exact CU hw (g rfl)
 ·subst he;exact Nv hw h0
abbrev rqL (p:cA) (k:Key) (x n:Bytes) (vs:List Bytes) (sd:Bytes) (a:Int):List (FuncId×List PV):=
 [(28,[.pt p.pv 0, .pt k.pv 0]),(87,[.pt (.agg [.fc 31 [] [.pt (.agg [.s x]) 0, .pt (T vs sd a) 0]]) 0, .pt (.agg [E 3]) 0]),(87,[.pt (.agg [.fc 34 [] [.pt (.agg [.s n]) 0]]) 0, .pt (.agg [E 5]) 0]),(87,[.pt (.agg [.fc 35 [] [.pt (.agg [.s x]) 0, .pt p.pv 0]]) 0, .pt (.agg [E 2]) 0])]
theorem SP (hp:p.short) (lm:k.m.length<=8) (ln:k.name.length<=60) (lr:k.r.length<=20) (x n:Bytes) (vs:List Bytes) (sd:Bytes) (a:Int) (hl:vs.length<1000000):aE 27 [.sl ((rqL p k x n vs sd a).map Kr)] (E (oi p k x n vs a)):=by
 have hck:=WY (lF p k _ (mB p hp) lm ln lr);refine qZ _ (by simp) ⟨_,hck,fun h=>ah h,fun h=> ?_⟩
 unfold oi;rw[af (by simpa using h)]
 refine nq (WZ x vs sd a hl) oC (fun hb=> ?_) rfl
 refine nq (W0 n) oC (fun _=> ?_) rfl
 simp only[Ep,yD]at hb;exact nq (W6 p x hb.1 ((xd (nu h).1).1 _ (by simp[cA.eL]))) oC (fun _=>rfl) rfl
theorem SN (k:Key) (b x:Bytes) (h:0<num k.m):qe k b x<num k.m:=aQ _ h
theorem JB (hk:pY k) (lm:k.m.length<=8) (h0:0<k.r.length) (vb:aa b=true) (vx:aa x=true):aE 39 [G k.m k.o, .sl [.s k.s, .s (k.r.getD 0 [])], .sl [.agg [.b false, .s b], .agg [.b false, .s x]]] (.tup [N (qe k b x),E 0])/\dK k.m [] (bQ (qe k b x))=true:=by
 have hE:=qz hk;have lo:k.o.length<=8:=by rw[hk.o];simp
 obtain⟨vs,gs⟩:=(cJ hE).1 (iU hk hk.s);obtain⟨vr,gr⟩:=(cJ hE).1 (iU hk (hk.t _ (C7 h0)));obtain⟨vm,-,m1,-,-⟩:=lO hE;have hn:=dS lm;have h:=tS lm lo hE (xs:=[num k.s,num (k.r.getD 0 [])]) (es:=[(false,b),(false,x)]) (by intro y hy;simp only[cu,ir,or_false]at hy;rcases hy with rfl|rfl<;>assumption) (by intro y hy;simp only[cu,ir,or_false]at hy;rcases hy with rfl|rfl<;>simp[cg,vb,vx]) rfl (by simp)
 simp only[bV,ca,GK,dN vs,dN vr]at h;refine⟨h,?_⟩;have hl:=SN k b x oO;have hg:jJ k.m k.o (bQ (qe k b x))=true:=(cJ hE).2 ⟨vN oO,by
  rw[ba];show GP k.m k.o (wc (num k.m) _);rw[qF,Sn];exact(gs.dJ m1 _ _).mul (gr.dJ m1 _ _)⟩
 rw[hk.o]at hg;unfold jJ at hg
 rwa[ah (by simp)]at hg
theorem Au (hp:p.short) (lm:k.m.length<=8) (ln:k.name.length<=60) (lr:k.r.length<=20) (x n:Bytes) (hl:vs.length<1000000) (hsd:sd.length<1000000):
  aE 9 [p.pv,k.pv, .s x, .s n,T vs sd a] (uo x n vs sd (wB p k x n vs sd a)):=by
 have hf:=SP hp lm ln lr x n vs sd a hl;have h3:=fun n1 k1 nm h=>AQ n1 k1 nm h 31 [.s x] [.sl (vs.map .s), .s sd, .i .i64 a] none none 3
 have h4:=fun n1 nm=>Ih n1 nm 34 [.s n] none 5
 have h5:=fun n1 k1 nm h=>AQ n1 k1 nm h 35 [.s x] p.pv.cells none none 2
 unfold cA.pv PV.cells at h5;simp only[bV,ca]at h3 h4 h5;simp only[rqL,bV,ca,Kr]at hf;unfold wB
 by_cases hE:oi p k x n vs a=0
 case neg=>
  rw[ah hE];simp only[uo];have h1:=H2 (oi p k x n vs a);have hb2:(oi p k x n vs a !=0)=true:=by simpa using hE
  generalize oi p k x n vs a=e at*;unfold cA.pv Key.pv at*;refine eW call9 func9 ?_;repeat' first|simp only[go_sem,seval,hb2]|(refine bK (h3 _ _ _ oC) (by simp[aC]) ?_)|(refine bK (h4 _ _) (by simp[aC]) ?_)|(refine bK (h5 _ _ _ oC) (by simp[aC]) ?_)|(refine fw hf (by simp[bc,view,aC,AV.one,PV.one,qc,chunk]) rfl ?_)|refine cP h1 ?_|refine oE ?_|apply xX<;>intro hc
  all_goals rfl
 rw[af (by simpa using hE)]
 rw[hE]at hf;unfold oi at hE
 split at hE
 ·rename_i h;exact aP hE h
 rename_i hke
 split at hE
 ·cases hE
 rename_i hb
 split at hE
 ·cases hE
 rename_i hn64
 split at hE
 ·cases hE
 rename_i hse;clear hE;simp only[mf,ey,not_or,x9,bw,Nat.not_le,Nat.not_lt,ne_eq,Decidable.not_not]at hb hn64 hse hke;obtain⟨vx,hg⟩:=hb;obtain⟨hv,a0,a1⟩:=tW hg;obtain⟨hpe,hkf⟩:=nu hke;have hr2:=vP hke;obtain⟨hpv,hpt⟩:=xd hpe;have vbl:=hpv p.bl (by simp[cA.eL])
 have lbl:=hp p.bl (by simp[cA.eL])
 have lse:=hp p.se (by simp[cA.eL])
 have nbl:=Da (hpt p.bl (by simp[cA.AG]))
 obtain⟨i,rfl⟩: ∃i:Nat,a=i:=⟨a.toNat,oO⟩;rw[Int.toNat_natCast];have dB:=ou (vs:=vs) (sd:=sd) (i:=i) (n:=p.bl) hv vbl nbl oO hl hsd
 cases hd:ij vs sd i p.bl with
 |error e=>
  rw[hd]at dB;rw[Dr];have he:=kq hd;have h1:=H2 e;simp only[lB,uo]at dB⊢;clear hd hkf;unfold cA.pv Key.pv at*;refine eW call9 func9 ?_;repeat' first|simp only[go_sem,seval]|(refine bK (h3 _ _ _ oC) (by simp[aC]) ?_)|(refine bK (h4 _ _) (by simp[aC]) ?_)|(refine bK (h5 _ _ _ oC) (by simp[aC]) ?_)|(refine fw hf (by simp[bc,view,aC,AV.one,PV.one,qc,chunk]) rfl ?_)|refine cP dB ?_|refine cP h1 ?_|refine oE ?_|apply xX<;>intro hc
  all_goals rfl
 |ok b=>
  rw[hd]at dB;rw[Ar];obtain⟨vb,b2,b3⟩:=iX hv vbl hl oO hd;simp only[lB]at dB;obtain⟨c1,c2⟩:=JB hkf lm oO vb vx;have f1:=nc vb;have f2:=nc vx;have w1:=IB k n oO oO;have w2:=IE p k (bQ (qe k b x)) oO oO;have hS:=qt hp hpe hkf lm oO c2;have hB:=tM hp hkf lm oO c2;have q1:=dS lbl;have q2:=dS lse;have w64:=kW;have w3:=Md hS hB (by simp[e9]) rfl (ctx:=jH k n) (by simp[jH];omega) (w:=[(num b:Int),(num x:Int)]) (by simp) (fun z hz=>by simp at hz;rcases hz with rfl|rfl<;>omega) (fun _=>ID p k _ oO oO) (vs:=vs) (sd:=sd) (a:=((i+1:Nat):Int)) hl hsd
  simp only[bV,ca]at w3;rw[show Zp (num b:Int)= .agg [.b false, .s b] by show cI (fQ (num b:Int))= _;rw[tZ vb];rfl,show Zp (num x:Int)= .agg [.b false, .s x] by show cI (fQ (num x:Int))= _;rw[tZ vx];rfl]at w3
  have h0: ∀e,qd p.c p.sl (jH k n) (e9 p k (bQ (qe k b x))) [(num b:Int),(num x:Int)] vs sd ((i+1:Nat):Int)= .error e->e≠0:=fun e h=>HC h
  have h1:=fun e=>H2 e
  generalize qd p.c p.sl (jH k n) (e9 p k (bQ (qe k b x))) [(num b:Int),(num x:Int)] vs sd ((i+1:Nat):Int)=R at*;have e1:=gU (l:=k.r) (x:=0) oO;have l1:(k.r.map PV.s).length=k.r.length:=aG ..;have hpos: ∀ _:True,(0:Int)<(k.r.length:Int):=fun _=>oO
  generalize k.r.getD 0 []=r0 at*;generalize jH k n=cx at*;generalize e9 p k (bQ (qe k b x))=S at*;generalize qe k b x=cc at*;clear hS hB hkf hd c2;obtain⟨sg,sv,se⟩:=S;unfold cA.pv Key.pv cG.pv at*;rcases R with e|⟨ch,rs,j⟩
  all_goals
   first|have h0:=h0 _ rfl|skip
   first|rw[Dt]|rw[At]
   simp only[Sp,uo]at w3⊢;refine eW call9 func9 ?_;repeat' first|simp only[go_sem,seval,l1,e1,hpos oT]|(refine bK (h3 _ _ _ oC) (by simp[aC]) ?_)|(refine bK (h4 _ _) (by simp[aC]) ?_)|(refine bK (h5 _ _ _ oC) (by simp[aC]) ?_)|(refine fw hf (by simp[bc,view,aC,AV.one,PV.one,qc,chunk]) rfl ?_)|refine cP dB ?_|refine cP f1 ?_|refine cP f2 ?_|refine cP c1 ?_|refine cP w1 ?_|refine cP w2 ?_|refine cP w3 ?_|refine cP (h1 _) ?_|refine oE ?_|apply xX<;>intro hc
   all_goals rfl
theorem F5 (k:Key) (n:Bytes) (hk:k.name.length<=1000) (hn:n.length<=1000):aE 51 [k.pv, .s n] (.s (jH k n)):=by
 unfold Key.pv jH;refine eW call51 func51 ?_;repeat' first|simp only[go_sem,seval,bU]|refine oE ?_|apply xX<;>intro hc
 all_goals rfl
theorem F6 (p:cA) (k:Key) (c:Bytes) (h0:0<k.r.length) (hl:k.r.length<1000000):aE 52 [p.pv,k.pv, .s c] (e9 p k c).pv:=by
 have e1:=gU (l:=k.r) (x:=0) h0;have l1:(k.r.map PV.s).length=k.r.length:=aG ..;have hp: ∀ _:True,(0:Int)<(k.r.length:Int):=fun _=>oO
 have c1:aE 129 [E 1] (.agg [.b false, .s [1]]):=WL;unfold e9 Key.pv cA.pv cG.pv;generalize k.r.getD 0 []=r0 at*;simp only[c9.pv,bV,ca,dM.pv,xC];refine eW call52 func52 ?_;exact jE (aN @l1 (aN @e1 (hp oT))) @c1
theorem Ca {a:Bytes} (h:aa a=true):aE 48 [.s a] (.agg [.b false, .s a]):=by
 have hm:=FV false a;have hv:=aH a;rw[h]at hv;refine eW call48 func48 ?_;exact z2 @hv @hm
theorem Pj (hk:pY k) (lm:k.m.length<=8) (h0:0<k.r.length) (vb:aa b=true) (vx:aa x=true):aE 49 [G k.m k.o, .sl [.s k.s, .s (k.r.getD 0 [])], .sl [.agg [.b false, .s b], .agg [.b false, .s x]]] (.tup [N (qe k b x),E 0]):=by
 have hE:=qz hk;have lo:k.o.length<=8:=by rw[hk.o];simp
 obtain⟨vs,gs⟩:=(cJ hE).1 (iU hk hk.s);obtain⟨vr,gr⟩:=(cJ hE).1 (iU hk (hk.t _ (C7 h0)));obtain⟨vm,-,m1,-,-⟩:=lO hE;have h:=im lm lo hE [(num k.s,false,b),(num (k.r.getD 0 []),false,x)] (by simp) (by intro y hy;simp only[cu,ir,or_false]at hy;rcases hy with rfl|rfl<;>exact⟨by assumption,by assumption,rfl⟩)
 rw[oP _ _ m1,ie,bE (show wc (num k.m) _<num k.m from aQ _ oO)]at h
 simp only[bV,ca,sJ,dN vs,dN vr]at h;exact h
theorem Gg (hp:p.short) (lm:k.m.length<=8) (ln:k.name.length<=60) (lr:k.r.length<=20) (x n:Bytes) (hl:vs.length<1000000) (hsd:sd.length<1000000):
  aE 10 [p.pv,k.pv, .s x, .s n,T vs sd a] (uo x n vs sd (wB p k x n vs sd a)):=by
 have hck:=nI p k _ (nF p hp) lm ln lr;have u1:=aH x;have u2:=qI vs sd a hl;unfold wB
 by_cases hke:fb (eN p) k=0
 case neg=>
  have hE:oi p k x n vs a=fb (eN p) k:=by unfold oi;rw[ah hke]
  rw[hE,ah hke];simp only[uo];have hb2:(fb (eN p) k !=0)=true:=by simpa using hke
  generalize fb (eN p) k=e at*;unfold cA.pv Key.pv at*;refine eW call10 func10 ?_;exact jE @hb2 @hck
 rw[hke]at hck;have hE1:oi p k x n vs a=if !aa x|| !eT vs a then 3 else if decide (64<n.length)then 5 else if decide (num p.se<=num x)then 2 else 0:=by unfold oi;rw[af (by simpa using hke)]
 by_cases hb:aa x=true/\eT vs a=true
 case neg=>
  have hE:oi p k x n vs a=3:=by rw[hE1,ah];cases h1:aa x<;>cases h2:eT vs a<;>simp_all
  rw[hE,ah oC];simp only[uo];clear hE hE1;generalize aa x=b1 at*;generalize eT vs a=b2 at*;unfold cA.pv Key.pv at*;refine eW call10 func10 ?_;repeat' first|simp only[go_sem,seval]|refine cP hck ?_|refine cP u1 ?_|refine cP u2 ?_|refine oE ?_|apply xX<;>intro hc
  all_goals first|rfl|(exfalso;simp_all)
 obtain⟨vx,hg⟩:=hb;rw[vx]at u1;rw[hg]at u2;rw[vx,hg]at hE1;simp only[cr,Bool.or_self,bM,az,bw]at hE1
 by_cases h64:64<n.length
 ·have hE:oi p k x n vs a=5:=by rw[hE1,ah h64]
  rw[hE,ah oC];simp only[uo];clear hE hE1;unfold cA.pv Key.pv at*;refine eW call10 func10 ?_;exact z4 @hck @u1 @u2 oT
 obtain⟨hpe,hkf⟩:=nu hke;have hr2:=vP hke;obtain⟨hpv,hpt⟩:=xd hpe;have vbl:=hpv p.bl (by simp[cA.eL])
 have vse:=hpv p.se (by simp[cA.eL])
 have lbl:=hp p.bl (by simp[cA.eL])
 have lse:=hp p.se (by simp[cA.eL])
 have nbl:=Da (hpt p.bl (by simp[cA.AG]))
 have c0:=gF x p.se;rw[vx,vse]at c0;simp only[cT,aB]at c0;have hcg:=Fm (num x) (num p.se)
 by_cases hse:num p.se<=num x
 ·have hE:oi p k x n vs a=2:=by rw[hE1,af h64,ah hse]
  rw[hE,ah oC];rw[bu (show¬num x<num p.se by omega)]at hcg
  simp only[uo];clear hE hE1 hkf;generalize aW (num x) (num p.se)=cm at*;unfold cA.pv Key.pv at*;refine eW call10 func10 ?_;exact wO @hcg @hck @u1 @u2 @c0
 have hE:oi p k x n vs a=0:=by rw[hE1,af h64,af hse]
 rw[hE,af oC];rw[aU (show num x<num p.se by omega)]at hcg
 clear hE hE1;obtain⟨hv,a0,a1⟩:=tW hg;obtain⟨i,rfl⟩: ∃i:Nat,a=i:=⟨a.toNat,oO⟩;rw[Int.toNat_natCast];have dB:=Di (vs:=vs) (sd:=sd) (i:=i) (n:=p.bl) hv vbl nbl oO hl hsd;generalize aW (num x) (num p.se)=cm at*
 cases hd:ij vs sd i p.bl with
 |error e=>
  rw[hd]at dB;rw[Dr];have he:=kq hd;simp only[lB,uo]at dB⊢;clear hd hkf;unfold cA.pv Key.pv at*;refine eW call10 func10 ?_;exact P7 @hcg @hck @u1 @u2 @c0 @dB oT oT
 |ok b=>
  rw[hd]at dB;rw[Ar];obtain⟨vb,b2,b3⟩:=iX hv vbl hl oO hd;simp only[lB]at dB;obtain⟨-,c2⟩:=JB hkf lm oO vb vx;have c1:=Pj hkf lm oO vb vx;have f1:=Ca vb;have f2:=Ca vx;have w1:=F5 k n oO oO;have w2:=F6 p k (bQ (qe k b x)) oO oO;have hS:=qt hp hpe hkf lm oO c2;have hB:=tM hp hkf lm oO c2;have q1:=dS lbl;have q2:=dS lse;have w64:=kW;have w3:=LB hS hB (by simp[e9]) (by intro q hq;simp only[e9,fz]at hq;subst hq;simp) rfl (ctx:=jH k n) (by simp[jH];omega) (w:=[(num b:Int),(num x:Int)]) (by simp) (fun z hz=>by simp at hz;rcases hz with rfl|rfl<;>omega) (fun _=>ID p k _ oO oO) (vs:=vs) (sd:=sd) (a:=((i+1:Nat):Int)) hl hsd
  simp only[bV,ca]at w3;rw[show Zp (num b:Int)= .agg [.b false, .s b] by show cI (fQ (num b:Int))= _;rw[tZ vb];rfl,show Zp (num x:Int)= .agg [.b false, .s x] by show cI (fQ (num x:Int))= _;rw[tZ vx];rfl]at w3
  have h0: ∀e,qd p.c p.sl (jH k n) (e9 p k (bQ (qe k b x))) [(num b:Int),(num x:Int)] vs sd ((i+1:Nat):Int)= .error e->e≠0:=fun e h=>HC h
  generalize qd p.c p.sl (jH k n) (e9 p k (bQ (qe k b x))) [(num b:Int),(num x:Int)] vs sd ((i+1:Nat):Int)=R at*;have e1:=gU (l:=k.r) (x:=0) oO;have l1:(k.r.map PV.s).length=k.r.length:=aG ..;have hpos: ∀ _:True,(0:Int)<(k.r.length:Int):=fun _=>oO
  generalize k.r.getD 0 []=r0 at*;generalize jH k n=cx at*;generalize e9 p k (bQ (qe k b x))=S at*;generalize qe k b x=cc at*;clear hS hB hkf hd c2;obtain⟨sg,sv,se⟩:=S;unfold cA.pv Key.pv cG.pv at*;rcases R with e|⟨ch,rs,j⟩
  all_goals
   first|have h0:=h0 _ rfl|skip
   first|rw[Dt]|rw[At]
   simp only[Sp,uo]at w3⊢;refine eW call10 func10 ?_;exact Ex (aN @l1 (aN @e1 (aN (hpos oT) @hcg))) @hck @u1 @u2 @c0 @dB @f1 @f2 @c1 @w1 @w2 @w3 oT
