/- Part of the proof. -/
import Derived.Test.YtnhhajlcpjgkjaaGreatDoorUC40
set_option linter.all false
set_option maxHeartbeats 16000000
set_option maxRecDepth 100000
namespace Go.Proofs.Tryz
open Go Go.Dom Go.Num
variable {a e:Int} {c ch ctx sd sl:Bytes} {vs:List Bytes}
theorem NZ {s:cK} {w:List Int}: ∀{n i:Nat},sZ c sl ctx s w vs sd n i= .error e->e≠0
 |0,i,h=>by injection h with h;omega
 |n+1,i,h=>by
  rw[sZ]at h
  split at h
  ·rename_i hm;injection h with h;have:=yk hm;omega
  ·split at h
   ·cases h
   ·exact NZ h
theorem U4 {s:cK} {w:List Int} (h:sN c sl ctx s w vs sd a= .error e):e≠0:=by
 unfold sN at h
 split at h
 ·rename_i h0;injection h with h;rw[<-h];exact h0
 ·exact NZ h
theorem NA {s:cK} {w:List Int} {rs:List Int} {j:Nat}: ∀{n i:Nat},sZ c sl ctx s w vs sd n i= .ok (ch,rs,j)->rs.length=s.vars.length
 |0,i,h=>by cases h
 |n+1,i,h=>by
  rw[sZ]at h
  split at h
  ·cases h
  ·split at h
   ·simp only[Except.ok.injEq,dP]at h;obtain⟨-,rfl,-⟩:=h;exact sS ..
   ·exact NA h
theorem U5 {s:cK} {w:List Int} {rs:List Int} {j:Nat} (h:sN c sl ctx s w vs sd a= .ok (ch,rs,j)):rs.length=s.vars.length:=by
 unfold sN at h
 split at h
 ·cases h
 ·exact NA h
noncomputable def vI (k:Key) (b x:Bytes):Nat:=yE (num k.m) [(num k.s,(false,b)),(num (k.r.getD 0 []),(false,x))]
def yT (p:cq) (k:Key) (x n:Bytes) (vs:List Bytes) (a:Int):Int:=if fa (eQ p) k≠0 then fa (eQ p) k else if !aa x|| !fK vs a then 3 else if decide (64<n.length)then 5 else if decide (num p.se<=num x)then 2 else 0
def Vt {α β:Type} (f:α->Except Int β):Except Int α->Except Int β
 | .error e=> .error e
 | .ok b=>f b
def Vw (c b:Bytes):Except Int (Bytes×List Int×Nat)->Except Int (Bytes×Bytes×Bytes×List Int×Nat)
 | .error e=> .error e
 | .ok r=> .ok (c,b,r.1,r.2.1,r.2.2)
theorem Vu {α β:Type} (f:α->Except Int β) (e:Int):Vt f (.error e)= .error e:=rfl
theorem Nk {α β:Type} (f:α->Except Int β) (b:α):Vt f (.ok b)=f b:=rfl
theorem Vx (c b:Bytes) (e:Int):Vw c b (.error e)= .error e:=rfl
theorem Nn (c b ch:Bytes) (rs:List Int) (j:Nat):Vw c b (.ok (ch,rs,j))= .ok (c,b,ch,rs,j):=rfl
noncomputable def QS (p:cq) (k:Key) (x n:Bytes) (vs:List Bytes) (sd:Bytes) (a:Int):Except Int (Bytes×Bytes×Bytes×List Int×Nat):=
 if yT p k x n vs a≠0 then .error (yT p k x n vs a)
 else Vt (fun b=>Vw (bR (vI k b x)) b (sN p.c p.sl (kY k n) (e9 p k (bR (vI k b x))) [(num b:Int),(num x:Int)] vs sd ((a.toNat+1:Nat):Int))) (kK vs sd a.toNat p.bl)
def No (x n:Bytes) (vs:List Bytes) (sd:Bytes):Except Int (Bytes×Bytes×Bytes×List Int×Nat)->PV
 | .ok (c,b,ch,rs,j)=> .tup [.agg [.s c, .s n, .s ch, .sl (rs.map Zp), .sl [], .sl []], .agg [.s x, .s b],T vs sd (j:Nat),E 0]
 | .error e=> .tup [.agg [.s [], .s [], .s [], .sl [], .sl [], .sl []], .agg [.s [], .s []],T [] [] 0,E e]
theorem GI (e:Int):aE 26 [E e] (.tup [.agg [.s [], .s [], .s [], .sl [], .sl [], .sl []], .agg [.s [], .s []],T [] [] 0,E e]):=by
 refine eW call26 func26 ?_;exact z0
theorem VE {p:cq} {k:Key} (h:aE 29 [p.pv,k.pv] (E e)):aE 28 [.pt p.pv 0, .pt k.pv 0] (E e):=by
 unfold cq.pv Key.pv at*;refine eW call28 func28 ?_;exact z1 @h
theorem VF (x:Bytes) (vs:List Bytes) (sd:Bytes) (a:Int) (hl:vs.length<1000000):aE 31 [.pt (.agg [.s x]) 0, .pt (T vs sd a) 0] (.b (!aa x|| !fK vs a)):=by
 have h1:=aG x;have h2:=DD vs sd a hl;generalize aa x=b1 at*;generalize fK vs a=b2 at*;refine eW call31 func31 ?_;exact Og @h1 @h2
theorem VG (n:Bytes):aE 34 [.pt (.agg [.s n]) 0] (.b (decide (64<n.length))):=by
 refine eW call34 func34 ?_;repeat' first|simp only[go_sem,seval]|refine oE ?_|apply xX<;>intro hc
 all_goals (refine congrArg PV.b ?_;rw[fz];omega)
theorem VH (p:cq) (x:Bytes) (vx:aa x=true) (vs:aa p.se=true):aE 35 [.pt (.agg [.s x]) 0, .pt p.pv 0] (.b (decide (num p.se<=num x))):=by
 have h:=jH vx vs;have hg:=Jy (num x) (num p.se);have hd:decide (num p.se<=num x)= !decide (num x<num p.se):=by rw[dk];simp
 rw[hd];generalize aZ (num x) (num p.se)=cm at*;generalize decide (num x<num p.se)=bb at*;unfold cq.pv;refine eW call35 func35 ?_;exact VY @hg @h
theorem mN {f:FuncId} {cs:List PV} {b:Bool} {E0 E1:Int} {r:List (FuncId×List PV)} (h:aE f cs (.b b)) (h0:e≠0) (g:b=false->D0 r E0) (he:E1=if b then e else E0):D0 ((87,[.pt (.agg [.fc f [] cs]) 0, .pt (.agg [E e]) 0])::r) E1:=by
 have hw:=zr (e:=e) h;cases b
 ·subst he;exact BI hw (g rfl)
 ·subst he;exact L4 hw h0
abbrev rqL (p:cq) (k:Key) (x n:Bytes) (vs:List Bytes) (sd:Bytes) (a:Int):List (FuncId×List PV):=
 [(28,[.pt p.pv 0, .pt k.pv 0]),(87,[.pt (.agg [.fc 31 [] [.pt (.agg [.s x]) 0, .pt (T vs sd a) 0]]) 0, .pt (.agg [E 3]) 0]),(87,[.pt (.agg [.fc 34 [] [.pt (.agg [.s n]) 0]]) 0, .pt (.agg [E 5]) 0]),(87,[.pt (.agg [.fc 35 [] [.pt (.agg [.s x]) 0, .pt p.pv 0]]) 0, .pt (.agg [E 2]) 0])]
theorem QR {p:cq} {k:Key} (hp:p.short) (lm:k.m.length<=8) (ln:k.name.length<=60) (lr:k.r.length<=20) (x n:Bytes) (vs:List Bytes) (sd:Bytes) (a:Int) (hl:vs.length<1000000):aE 27 [.sl ((rqL p k x n vs sd a).map Jd)] (E (yT p k x n vs a)):=by
 have hck:=VE (kN p k _ (lK p hp) lm ln lr);refine qd _ (by simp) ⟨_,hck,fun h=>ah h,fun h=> ?_⟩
 unfold yT;rw[af (by simpa using h)]
 refine mN (VF x vs sd a hl) oC (fun hb=> ?_) rfl
 refine mN (VG n) oC (fun _=> ?_) rfl
 simp only[C4,wS]at hb;exact mN (VH p x hb.1 ((yB (ot h).1).1 _ (by simp[cq.eP]))) oC (fun _=>rfl) rfl
theorem QP (k:Key) (b x:Bytes) (h:0<num k.m):vI k b x<num k.m:=aP _ h
theorem QQ {k:Key} (hk:py k) (lm:k.m.length<=8) (h0:0<k.r.length) {b x:Bytes} (vb:aa b=true) (vx:aa x=true):aE 39 [G k.m k.o, .sl [.s k.s, .s (k.r.getD 0 [])], .sl [.agg [.b false, .s b], .agg [.b false, .s x]]] (.tup [N (vI k b x),E 0])/\dx k.m [] (bR (vI k b x))=true:=by
 have hE:=qW hk;have lo:k.o.length<=8:=by rw[hk.o];simp
 obtain⟨vs,gs⟩:=(cL hE).1 (jr hk hk.s);obtain⟨vr,gr⟩:=(cL hE).1 (jr hk (hk.t _ (F4 h0)));obtain⟨vm,-,m1,-,-⟩:=mc hE;have hn:=dO lm;have h:=sF lm lo hE (xs:=[num k.s,num (k.r.getD 0 [])]) (es:=[(false,b),(false,x)]) (by intro y hy;simp only[cd,il,or_false]at hy;rcases hy with rfl|rfl<;>assumption) (by intro y hy;simp only[cd,il,or_false]at hy;rcases hy with rfl|rfl<;>simp[cr,vb,vx]) rfl (by simp)
 simp only[bV,bj,Fm,dZ vs,dZ vr]at h;refine⟨h,?_⟩;have hl:=QP k b x oO;have hg:jF k.m k.o (bR (vI k b x))=true:=(cL hE).2 ⟨vN oO,by
  rw[aY];show GP k.m k.o (yE (num k.m) _);rw[pL,Qu];exact(gs.dw m1 _ _).mul (gr.dw m1 _ _)⟩
 rw[hk.o]at hg;unfold jF at hg
 rwa[ah (by simp)]at hg
theorem GC {p:cq} {k:Key} (hp:p.short) (lm:k.m.length<=8) (ln:k.name.length<=60) (lr:k.r.length<=20) (x n:Bytes) (hl:vs.length<1000000) (hsd:sd.length<1000000):
  aE 9 [p.pv,k.pv, .s x, .s n,T vs sd a] (No x n vs sd (QS p k x n vs sd a)):=by
 have hf:=QR hp lm ln lr x n vs sd a hl;have h3:=fun n1 k1 nm h=>zt n1 k1 nm h 31 [.s x] [.sl (vs.map .s), .s sd, .i .i64 a] none none 3
 have h4:=fun n1 nm=>G0 n1 nm 34 [.s n] none 5
 have h5:=fun n1 k1 nm h=>zt n1 k1 nm h 35 [.s x] p.pv.cells none none 2
 unfold cq.pv PV.cells at h5;simp only[bV,bj]at h3 h4 h5;simp only[rqL,bV,bj,Jd]at hf;unfold QS
 by_cases hE:yT p k x n vs a=0
 case neg=>
  rw[ah hE];simp only[No];have h1:=GI (yT p k x n vs a);have hb2:(yT p k x n vs a !=0)=true:=by simpa using hE
  generalize yT p k x n vs a=e at*;unfold cq.pv Key.pv at*;refine eW call9 func9 ?_;repeat' first|simp only[go_sem,seval,hb2]|(refine bE (h3 _ _ _ oC) (by simp[aB]) ?_)|(refine bE (h4 _ _) (by simp[aB]) ?_)|(refine bE (h5 _ _ _ oC) (by simp[aB]) ?_)|(refine e7 hf (by simp[aW,view,aB,AV.one,PV.one,pk,chunk]) rfl ?_)|refine cP h1 ?_|refine oE ?_|apply xX<;>intro hc
  all_goals rfl
 rw[af (by simpa using hE)]
 rw[hE]at hf;unfold yT at hE
 split at hE
 ·rename_i h;exact aM hE h
 rename_i hke
 split at hE
 ·cases hE
 rename_i hb
 split at hE
 ·cases hE
 rename_i hn64
 split at hE
 ·cases hE
 rename_i hse;clear hE;simp only[qH,dW,not_or,wW,bM,Nat.not_le,Nat.not_lt,ne_eq,Decidable.not_not]at hb hn64 hse hke;obtain⟨vx,hg⟩:=hb;obtain⟨hv,a0,a1⟩:=D7 hg;obtain⟨hpe,hkf⟩:=ot hke;have hr2:=x7 hke;obtain⟨hpv,hpt⟩:=yB hpe;have vbl:=hpv p.bl (by simp[cq.eP])
 have lbl:=hp p.bl (by simp[cq.eP])
 have lse:=hp p.se (by simp[cq.eP])
 have nbl:=F9 (hpt p.bl (by simp[cq.zX]))
 obtain⟨i,rfl⟩: ∃i:Nat,a=i:=⟨a.toNat,oO⟩;rw[Int.toNat_natCast];have dB:=nD (vs:=vs) (sd:=sd) (i:=i) (n:=p.bl) hv vbl nbl oO hl hsd
 cases hd:kK vs sd i p.bl with
 |error e=>
  rw[hd]at dB;rw[Vu];have he:=qe hd;have h1:=GI e;simp only[u6,No]at dB⊢;clear hd hkf;unfold cq.pv Key.pv at*;refine eW call9 func9 ?_;repeat' first|simp only[go_sem,seval]|(refine bE (h3 _ _ _ oC) (by simp[aB]) ?_)|(refine bE (h4 _ _) (by simp[aB]) ?_)|(refine bE (h5 _ _ _ oC) (by simp[aB]) ?_)|(refine e7 hf (by simp[aW,view,aB,AV.one,PV.one,pk,chunk]) rfl ?_)|refine cP dB ?_|refine cP h1 ?_|refine oE ?_|apply xX<;>intro hc
  all_goals rfl
 |ok b=>
  rw[hd]at dB;rw[Nk];obtain⟨vb,b2,b3⟩:=nL hv vbl hl oO hd;simp only[u6]at dB;obtain⟨c1,c2⟩:=QQ hkf lm oO vb vx;have f1:=mG vb;have f2:=mG vx;have w1:=Hl k n oO oO;have w2:=Hn p k (bR (vI k b x)) oO oO;have hS:=sw hp hpe hkf lm oO c2;have hB:=xA hp hkf lm oO c2;have q1:=dO lbl;have q2:=dO lse;have w64:=m9;have w3:=KF hS hB (by simp[e9]) rfl (ctx:=kY k n) (by simp[kY];omega) (w:=[(num b:Int),(num x:Int)]) (by simp) (fun z hz=>by simp at hz;rcases hz with rfl|rfl<;>omega) (fun _=>Pn p k _ oO oO) (vs:=vs) (sd:=sd) (a:=((i+1:Nat):Int)) hl hsd
  simp only[bV,bj]at w3;rw[show Zp (num b:Int)= .agg [.b false, .s b] by show cU (je (num b:Int))= _;rw[BR vb];rfl,show Zp (num x:Int)= .agg [.b false, .s x] by show cU (je (num x:Int))= _;rw[BR vx];rfl]at w3
  have h0: ∀e,sN p.c p.sl (kY k n) (e9 p k (bR (vI k b x))) [(num b:Int),(num x:Int)] vs sd ((i+1:Nat):Int)= .error e->e≠0:=fun e h=>U4 h
  have h1:=fun e=>GI e
  generalize sN p.c p.sl (kY k n) (e9 p k (bR (vI k b x))) [(num b:Int),(num x:Int)] vs sd ((i+1:Nat):Int)=R at*;have e1:=jm (l:=k.r) (x:=0) oO;have l1:(k.r.map PV.s).length=k.r.length:=aL ..;have hpos: ∀ _:True,(0:Int)<(k.r.length:Int):=fun _=>oO
  generalize k.r.getD 0 []=r0 at*;generalize kY k n=cx at*;generalize e9 p k (bR (vI k b x))=S at*;generalize vI k b x=cc at*;clear hS hB hkf hd c2;obtain⟨sg,sv,se⟩:=S;unfold cq.pv Key.pv cK.pv at*;rcases R with e|⟨ch,rs,j⟩
  all_goals
   first|have h0:=h0 _ rfl|skip
   first|rw[Vx]|rw[Nn]
   simp only[Xt,No]at w3⊢;refine eW call9 func9 ?_;repeat' first|simp only[go_sem,seval,l1,e1,hpos oT]|(refine bE (h3 _ _ _ oC) (by simp[aB]) ?_)|(refine bE (h4 _ _) (by simp[aB]) ?_)|(refine bE (h5 _ _ _ oC) (by simp[aB]) ?_)|(refine e7 hf (by simp[aW,view,aB,AV.one,PV.one,pk,chunk]) rfl ?_)|refine cP dB ?_|refine cP f1 ?_|refine cP f2 ?_|refine cP c1 ?_|refine cP w1 ?_|refine cP w2 ?_|refine cP w3 ?_|refine cP (h1 _) ?_|refine oE ?_|apply xX<;>intro hc
   all_goals rfl
