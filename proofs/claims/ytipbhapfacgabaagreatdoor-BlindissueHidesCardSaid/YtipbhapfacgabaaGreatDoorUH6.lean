/- Part of the proof. -/
import Derived.Lib.Builder
import Derived.Lib.UnsafeStr
import Derived.Laws.StructEq
import Derived.Test.YtipbhapfacgabaaGreatDoorUH5
import Derived.MapKept
set_option linter.all false
namespace Go.Dom
open Go.RowKit
section
variable {P:Program} {C:Cx} {hf:Nat->Option aC} {wr:Nat->Prop} {base nm:Nat} {w:World} {tf:Nat->AV}
variable {ao:AO} {e t te tp ty:TypeId} {ng r:Bool} {v x y:Value} {vs:List Value} {vx vy:AV}
theorem mH {j:TypeInfo} (ox oy:Operand) (hp:P.underlying tp=some (.pointer te)) (hte:P.info? te=some j) {p q:Option Addr} (hpq:(p=q/\r=true)\/(p.isSome≠q.isSome/\r=false)) (w:World):
  (do eqGuard (if ng then .neq else .eql) tp ox oy (.pointer p) (.pointer q);binOp (if ng then .neq else .eql) tp (.pointer p) (.pointer q):Sem Value).run P w= .ok (.bool (if ng then !r else r)) w:=by
 have h: ∀d:Nat,(Op.equalIn (d+1) tp (.pointer p) (.pointer q)).run P w= .ok r w:=fun d=>by
  rcases hpq with⟨rfl,rfl⟩|⟨hne,rfl⟩
  ·cases p with
   |none=>simp[Op.equalIn,run_underlying hp]
   |some a=>
    simp only[Op.equalIn,bT,run_underlying hp,Result.andThen,sizeOf,typeInfo,hte];simp[hte,run_sameAddr_same]
  ·cases p<;>cases q<;>simp_all[Op.equalIn,run_underlying hp]
 have h':(Op.equal tp (.pointer p) (.pointer q)).run P w= .ok r w:=h 9999
 cases ng<;>simp[eqGuard,binOp,h']
theorem ko (ox oy:Operand) (hp:P.underlying t=some (.slice e)) (q:Option Addr) (l c:Nat) (w:World):
  (do eqGuard (if ng then .neq else .eql) t ox oy (.slice q l c) (.slice none 0 0);binOp (if ng then .neq else .eql) t (.slice q l c) (.slice none 0 0):Sem Value).run P w= .ok (.bool (if ng then !q.isNone else q.isNone)) w:=by
 have h: ∀d:Nat,(Op.equalIn (d+1) t (.slice q l c) (.slice none 0 0)).run P w= .ok q.isNone w:=fun d=>by
  cases q<;>simp[Op.equalIn,run_underlying hp]
 have h':(Op.equal t (.slice q l c) (.slice none 0 0)).run P w= .ok q.isNone w:=h 9999
 cases ng<;>simp[eqGuard,binOp,h']
theorem NR (h:HR C hf wr w) (ox oy:Operand) (hp:P.underlying t=some (.slice e)) {sx':SX} (hx:AR C (sx'.ev tf) x) (ha:fe nm (.snl ng sx') tf hf=some ao):
  dI P C hf wr base nm (vS (do eqGuard (if ng then .neq else .eql) t ox oy x (.slice none 0 0);binOp (if ng then .neq else .eql) t x (.slice none 0 0))) w ao.v ao.up:=by
 simp only[fe]at ha;generalize sx'.ev tf=vx at hx ha
 split at ha
 ·simp only[cM,ai]at ha;subst ha
  cases hx with|v hx=>cases hx<;>exact .val h (ko ox oy hp _ _ _ w) (.ub _)
 ·simp only[cM,ai]at ha;subst ha
  cases hx with|v hx=>cases hx;exact .val h (ko ox oy hp _ _ _ w) (by cases ng<;>exact .v (.b _))
 ·simp only[cM,ai]at ha;subst ha
  cases hx;exact .val h (ko ox oy hp _ _ _ w) (by cases ng<;>exact .v (.b _))
 ·simp only[cM,ai]at ha;subst ha
  cases hx;exact .val h (ko ox oy hp _ _ _ w) (.ub _)
 ·simp only[cM,ai]at ha;subst ha
  cases hx with|fs _ _ hx=>cases hx;exact .val h (ko ox oy hp _ _ _ w) (by cases ng<;>exact .v (.b _))
 ·simp only[cM,ai]at ha;subst ha
  cases hx;exact .val h (ko ox oy hp _ _ _ w) (by cases ng<;>exact .v (.b _))
 ·cases ha
theorem NQ (h:HR C hf wr w) {j:TypeInfo} (ox oy:Operand) (hp:P.underlying tp=some (.pointer te)) (hte:P.info? te=some j) (hx:AR C vx x) (hy:AR C vy y) (ha:LL hf ng vx vy=some ao) (hpre:ao.pre):
  dI P C hf wr base nm (vS (do eqGuard (if ng then .neq else .eql) tp ox oy x y;binOp (if ng then .neq else .eql) tp x y)) w ao.v ao.up:=by
 unfold LL at ha
 replace hx:=hx.nz
 generalize vx.nz=vx at hx ha
 split at ha
 ·simp only[cM,ai]at ha;subst ha
  cases hx with|v hx=>cases hx;cases hy with|v hy=>cases hy;exact .val h (mH ox oy hp hte (r:=true) (.inl ⟨rfl,rfl⟩) w) (by cases ng<;>exact .v (.b _))
 ·simp only[cM,ai]at ha;subst ha
  cases hx;cases hy with|v hy=>cases hy;exact .val h (mH ox oy hp hte (r:=false) (.inr ⟨by simp,rfl⟩) w) (by cases ng<;>exact .v (.b _))
 ·simp only[cM,ai]at ha;subst ha
  cases hy;cases hx with|v hx=>cases hx;exact .val h (mH ox oy hp hte (r:=false) (.inr ⟨by simp,rfl⟩) w) (by cases ng<;>exact .v (.b _))
 ·simp only[cM,ai]at ha;subst ha
  cases hx;cases hy with|v hy=>cases hy;exact .val h (mH ox oy hp hte (r:=false) (.inr ⟨by simp,rfl⟩) w) (by cases ng<;>exact .v (.b _))
 ·split at ha
  ·rename_i hc;obtain⟨rfl,rfl,rfl⟩:=hc
   split at ha
   ·rename_i ob hn;simp only[ai]at ha;subst ha;rw[vw hx h hn hpre,vw hy h hn hpre];exact .val h (mH ox oy hp hte (r:=true) (.inl ⟨rfl,rfl⟩) w) (by cases ng<;>exact .v (.b _))
   ·cases ha
  ·cases ha
 ·cases ha
theorem Bv {k:Nat} (hk:Ba P t k=true) {q:Nat} (hv:vs[q]?=some v) (w:World):(part t vs.toArray q).run P w= .ok v w:=by
 have h:(isAgg t).run P w= .ok false w:=by
  refine gi ?_ w;unfold Ba at hk;unfold kf
  cases hu:P.underlying t with
  |none=>rw[hu]at hk;cases hk
  |some d=>rw[hu]at hk;cases d<;>first|rfl|cases hk
 simp only[part,bT,h,Result.andThen,bQ,ak];simp[hv]
theorem KU {fs:Array Field} (hu:P.underlying t=some (.struct fs)) (vs:List Value) (q:Nat) (w:World):(part t vs.toArray q).run P w= .ok (.agg ((vs.drop q).take (P.cellsOf t)).toArray) w:=by
 have h:(isAgg t).run P w= .ok true w:=gi (by unfold kf;rw[hu]) w
 have hi: ∃i,P.info? t=some i:=by
  cases hi:P.info? t with
  |none=>simp[Program.underlying,hi]at hu
  |some i=>exact⟨i,rfl⟩
 obtain⟨i,hi⟩:=hi;have hs:(sizeOf t).run P w= .ok (P.cellsOf t) w:=by simp[sizeOf,typeInfo,hi,Program.cellsOf]
 simp only[part,bT,h,Result.andThen,aA,hs,Sem.run_pure];congr 2;apply fo;simp[List.extract_eq_take_drop]
theorem uA: ∀(a b:List Nat) (l m:List PV) (r:Bool),uc (a++b) l m=some r-> ∃r1 r2,uc a (l.take a.length) (m.take a.length)=some r1/\uc b (l.drop a.length) (m.drop a.length)=some r2/\r=(r1&&r2)
 |[],b,l,m,r,h=>⟨true,r,by simp[uc],by simpa using h,by simp⟩
 |k::a,b,l,m,r,h=>by
  rw[List.cons_append]at h;unfold uc at h
  split at h
  ·cases‹_:: _=[]›
  ·rename_i x l' y m' e;injection e with e0 e1;subst e0;subst e1
   cases hr:uc (a++b) l' m' with
   |none=>rw[hr]at h;cases h
   |some r'=>
    rw[hr]at h;simp only[Option.map_some,ai]at h;obtain⟨r1,r2,h1,h2,h3⟩:=uA a b l' m' r' hr;exact⟨x==y&&r1,r2,by simp[uc,h1],by simpa using h2,by rw[<-h,h3,Bool.and_assoc]⟩
  ·rename_i x l' y m' e;injection e with e0 e1;subst e0;subst e1
   cases hr:uc (a++b) l' m' with
   |none=>rw[hr]at h;cases h
   |some r'=>
    rw[hr]at h;simp only[Option.map_some,ai]at h;obtain⟨r1,r2,h1,h2,h3⟩:=uA a b l' m' r' hr;exact⟨x==y&&r1,r2,by simp[uc,h1],by simpa using h2,by rw[<-h,h3,Bool.and_assoc]⟩
  ·cases h
def Ls (rd:Rd) (l:List PV) (vs:List Value) (q:Nat):Prop:= ∀(k:Nat) (x:PV),l[k]?=some x-> ∃v,vs[q+k]?=some v/\PR rd x v
theorem Ls.sub {rd:Rd} {l:List PV} {q n c:Nat} (h:Ls rd l vs q) (hn:n<=c):Ls rd (l.take n) ((vs.drop q).take c) 0:=fun k x hk=>by
 have hkn:k<n:=by
  obtain⟨h1,-⟩:=cv.1 hk;rw[da]at h1;omega
 rw[fU,ah hkn]at hk;obtain⟨v,hv,hp⟩:=h k x hk;exact⟨v,by rw[fG,fU,ah (by omega),kM];exact hv,hp⟩
theorem Ls.drop {rd:Rd} {l:List PV} {q n c:Nat} (h:Ls rd l vs q) (hn:l.drop n≠[]->n=c):Ls rd (l.drop n) vs (q+c):=fun k x hk=>by
 have hnc:=hn fun e=>by rw[e]at hk;simp at hk
 rw[kM]at hk;obtain⟨v,hv,hp⟩:=h (n+k) x hk;exact⟨v,by rw[<-hnc,lk];exact hv,hp⟩
theorem wD: ∀(ks:List Nat) (l m:List PV) (r:Bool),uc ks l m=some r->l.length=ks.length/\m.length=ks.length
 |[],l,m,r,h=>by cases l<;>cases m<;>simp[uc]at h⊢
 |k::ks,l,m,r,h=>by
  unfold uc at h
  split at h
  ·cases‹_:: _=[]›
  ·rename_i x l' y m' e;injection e with e0 e1;subst e1
   cases hr:uc ks l' m' with
   |none=>rw[hr]at h;cases h
   |some r'=>have:=wD ks l' m' r' hr;simp[this.1,this.2]
  ·rename_i x l' y m' e;injection e with e0 e1;subst e1
   cases hr:uc ks l' m' with
   |none=>rw[hr]at h;cases h
   |some r'=>have:=wD ks l' m' r' hr;simp[this.1,this.2]
  ·cases h
theorem oQ {rd:Rd} (d:Nat) {sub:TypeId->List Nat->Bool} (hsub: ∀(t:TypeId) (ks:List Nat) (l m:List PV) (vs us:List Value) (r:Bool),sub t ks=true->uc ks l m=some r->Ls rd l vs 0->Ls rd m us 0-> ∀w:World,(∃fs,P.underlying t=some (.struct fs))/\(Op.equalIn (d+1) t (.agg vs.toArray) (.agg us.toArray)).run P w= .ok r w):
  ∀(fs:List Field) (ks:List Nat) (q:Nat) (l m:List PV) (vs us:List Value) (r:Bool),Mr P sub q fs ks=true->uc ks l m=some r->Ls rd l vs q->Ls rd m us q-> ∀w:World,
  (Op.eqFields (d+1) vs.toArray us.toArray fs).run P w= .ok r w
 |[],ks,q,l,m,vs,us,r,hf,hc,_,_,w=>by
  cases ks with
  |cons=>cases hf
  |nil=>
   cases l<;>cases m<;>simp[uc]at hc
   subst hc;simp[Op.eqFields]
 |f::fs,[],q,l,m,vs,us,r,hf,hc,_,_,w=>by cases hf
 |f::fs,k::ks,q,l,m,vs,us,r,hf,hc,hl,hm,w=>by
  simp only[Mr,aV,dZ,tZ,ne_eq]at hf;obtain⟨⟨h1,h2⟩,h3⟩:=hf
  by_cases hk:Ba P f.type k=true
  case neg=>
   rw[af hk,aV]at h3;obtain⟨h3,h4⟩:=h3;obtain⟨n,hn⟩: ∃n,n=P.cellsOf f.type:=⟨_,rfl⟩;rw[<-hn]at h3 h4;rw[<-tN n (k::ks)]at hc;obtain⟨r1,r2,c1,c2,rfl⟩:=uA _ _ _ _ _ hc;have hle:((k::ks).take n).length<=n:=by rw[da];omega
   have hdr: ∀{z:List PV} {r},uc ((k::ks).drop n) (z.drop ((k::ks).take n).length) r=some r2->z.drop ((k::ks).take n).length≠[]->((k::ks).take n).length=n:=fun{z r} h g=>by
    have:=(wD _ _ _ _ h).1;have g:=qy.2 g;rw[this,lJ]at g;rw[da];omega
   have hdr2:m.drop ((k::ks).take n).length≠[]->((k::ks).take n).length=n:=fun g=>by
    have:=(wD _ _ _ _ c2).2;have g:=qy.2 g;rw[this,lJ]at g;rw[da];omega
   obtain⟨⟨gs,hu⟩,e1⟩:=hsub f.type _ _ _ ((vs.drop q).take n) ((us.drop q).take n) r1 h3 c1 (hl.sub hle) (hm.sub hle) w;have ih:=oQ d hsub fs _ (q+n) _ _ vs us r2 h4 c2 (hl.drop (hdr c2)) (hm.drop hdr2) w;simp only[Op.eqFields,ne_eq,h1,DI,aA,bT,h2,KU hu,<-hn,Result.andThen,e1];cases r1
   ·simp
   ·simpa using ih
  rw[ah hk]at h3;have h4:=h3;have h3:=hk;have key: ∀(x y:PV) (l' m':List PV) (e r':Bool),l=x::l'->m=y::m'->uc ks l' m'=some r'->r=(e&&r')->
    (∀v u,PR rd x v->PR rd y u->(Op.equalIn (d+1) f.type v u).run P w= .ok e w)->(Op.eqFields (d+1) vs.toArray us.toArray (f::fs)).run P w= .ok r w:=by
   intro x y l' m' e r' e1 e2 hr' er hx;subst e1;subst e2;subst er;obtain⟨v,hv,hxv⟩:=hl 0 x rfl;obtain⟨u,hu,hyu⟩:=hm 0 y rfl;rw[Nat.add_zero]at hv hu;have ih:=oQ d hsub fs ks (q+1) l' m' vs us r' h4 hr'
    (fun k z hz=>by have:=hl (k+1) z (by simpa using hz);simpa[lk,gJ 1 k]using this)
    (fun k z hz=>by have:=hm (k+1) z (by simpa using hz);simpa[lk,gJ 1 k]using this) w
   simp only[Op.eqFields,ne_eq,h1,DI,aA,bT,h2,Bv h3 hv,Bv h3 hu,Result.andThen,hx v u hxv hyu];cases e
   ·simp
   ·simpa using ih
  unfold uc at hc
  split at hc
  ·cases‹_:: _=[]›
  ·rename_i a l' b m' e;injection e with e0 e1;subst e0;subst e1
   cases hr:uc ks l' m' with
   |none=>rw[hr]at hc;cases hc
   |some r'=>
    rw[hr]at hc;simp only[Option.map_some,ai]at hc;refine key _ _ l' m' (a==b) r' rfl rfl hr hc.symm fun v u hv hu=> ?_
    cases hv;cases hu
    unfold Ba at h3
    split at h3<;>first|(cases h3;done)|skip
    rename_i hb;exact run_equalIn_bool d hb _ _ w
  ·rename_i a l' b m' e;injection e with e0 e1;subst e0;subst e1
   cases hr:uc ks l' m' with
   |none=>rw[hr]at hc;cases hc
   |some r'=>
    rw[hr]at hc;simp only[Option.map_some,ai]at hc;refine key _ _ l' m' (a==b) r' rfl rfl hr hc.symm fun v u hv hu=> ?_
    cases hv;cases hu
    unfold Ba at h3
    split at h3<;>first|(cases h3;done)|skip
    rename_i hb;have:=run_equalIn_string (P:=P) w d f.type ⟨a.toArray⟩ ⟨b.toArray⟩ hb;simpa[ByteArray.toList_eq]using this
  ·cases hc
theorem Fk {rd:Rd}: ∀(d e:Nat) (t:TypeId) (ks:List Nat) (l m:List PV) (vs us:List Value) (r:Bool),Qg P d t ks=true->uc ks l m=some r->Ls rd l vs 0->Ls rd m us 0-> ∀w:World,(∃fs,P.underlying t=some (.struct fs))/\(Op.equalIn (e+d+1) t (.agg vs.toArray) (.agg us.toArray)).run P w= .ok r w
 |0,e,t,ks,l,m,vs,us,r,h,_,_,_,w=>by cases h
 |d+1,e,t,ks,l,m,vs,us,r,h,hc,hl,hm,w=>by
  simp only[Qg,aV,dC]at h;obtain⟨h1,h2⟩:=h
  split at h1
  case h_2=>cases h1
  rename_i fs hu;have hfo:P.fieldsOf t=fs:=by simp[Program.fieldsOf,hu]
  refine⟨⟨fs,hu⟩,?_⟩;rw[run_equalIn_struct (P:=P) w (e+(d+1)) t _ _ (by rw[hfo];exact hu) h2,hfo]
  exact oQ (rd:=rd) (e+d) (fun t ks l m vs us r=>Fk d e t ks l m vs us r) fs.toList ks 0 l m vs us r h1 hc hl hm w
theorem NN (h:HR C hf wr w) {fs:Array Field} (ox oy:Operand) (hu:P.underlying t=some (.struct fs)) {ks:List Nat} (hk:Ur P t ks=true) {l m:List PV} (hr:uc ks l m=some r) (hx:AR C (.v (.agg l)) x) (hy:AR C (.v (.agg m)) y):
  dI P C hf wr base nm (vS (do eqGuard (if ng then .neq else .eql) t ox oy x y;binOp (if ng then .neq else .eql) t x y)) w (.v (.b (if ng then !r else r))) []:=by
 cases hx with|v hx=>cases hx with|agg _ vs a1 a2 a3=>
 cases hy with|v hy=>cases hy with|agg _ us b1 b2 b3=>
 simp only[Ur,aV,dC]at hk;obtain⟨k1,k3⟩:=hk;have g:(Op.equalIn 10000 t (.agg vs.toArray) (.agg us.toArray)).run P w= .ok r w:=by
  refine(Fk (rd:=C.rd) 4 9995 t ks l m vs us r k1 hr (fun k x hx=> ?_) (fun k x hx=> ?_) w).2
  ·obtain⟨hk,_⟩:=cv.1 hx;rw[fG];exact⟨vs[k]'(by omega),by simp[show k<vs.length by omega],a3 k x _ hx (by simp[show k<vs.length by omega])⟩
  ·obtain⟨hk,_⟩:=cv.1 hx;rw[fG];exact⟨us[k]'(by omega),by simp[show k<us.length by omega],b3 k x _ hx (by simp[show k<us.length by omega])⟩
 refine .val h (val:= .bool (if ng then !r else r)) ?_ (.v (.b _))
 cases ng
 ·simp only[bQ,ak,bT,run_eqGuard_agg w .eql t ox oy _ _ k3,Result.andThen,run_eql_struct,g]
 ·simp only[aA,bT,run_eqGuard_agg w .neq t ox oy _ _ k3,Result.andThen,run_neq_struct,g]
theorem NP (h:HR C hf wr w) {s d:TypeId} {ok:TypeId->Nat->Nat->Bool} (hx:AR C vx x)
  (hrun: ∀(b o T n:Nat),w.shape? b=some (T,n)->o<n->ok T n o=true->(convert s d (.pointer (some ⟨b,o,none⟩))).run P w= .ok (.pointer (some ⟨b,o,none⟩)) w)
  (ha:LK hf ok vx=some ao) (hpre:ao.pre):dI P C hf wr base nm (vS (convert s d x)) w ao.v ao.up:=by
 unfold LK at ha
 split at ha
 ·rename_i n ver o
  split at ha
  ·rename_i ob hn
   split at ha
   ·rename_i T hT;simp only[ai]at ha;subst ha;obtain⟨p1,p2,p3,p4⟩:=hpre;have hm:=Ko hx;obtain⟨cs,el,g1,g2,g3,g4,g5⟩:=h.obj n ob hn hm;obtain⟨cs',g6⟩:=h.typ n ob hn hm T hT;rw[g1]at g6;injection g6 with g6;injection g6 with e1 e2 e3
    subst e1;subst e2;have hv:=vw hx h hn p1;subst hv;exact .val h (hrun (C.mu n) o el cs.size (by simp[World.shape?,g1]) (by rw[<-g4 p3];exact p2) (by rw[<-g4 p3];exact p4)) hx
   ·cases ha
  ·cases ha
 ·cases ha
theorem Vv (h:HR C hf wr w) {ts:Array TypeId} (hx:AR C vx x) (ha:PH vx=some ao) (hpre:ao.pre):
  dI P C hf wr base nm (vS (Builtin.unsafeSliceData_ ts ty #[x])) w ao.v ao.up:=by
 unfold PH at ha
 split at ha
 ·simp only[cM,ai]at ha;subst ha;cases hx;exact .val h (Lib.run_unsafeSliceData_nil w ts ty 0 0) (.v .p0)
 ·rename_i n ver o len z;simp only[dm,ai]at ha;subst ha
  cases hx with
  |rs _ _ _ _ _ b o' cap hal hm hcap ho hx=>
   have hpre:0<len:=hpre;have hc:cap≠0:=by omega
   have ho':o'=o:=by rcases ho with ho|ho;exact aJ ho hc;exact ho
   subst ho';exact .val h (Lib.run_unsafeSliceData_row w ts ty ⟨b,o',none⟩ len cap hc) (.p n ver o' b hal hm fun c hc=>⟨(hx c hc).1,fun e=>((hx c hc).2 e).1⟩)
 ·cases ha
theorem Kb {x:AV} (h:AR C x v) (hb:x= .v (u8 x.byte)):v= .int .u8 x.byte.toNat:=by
 rw[hb]at h
 cases h with|v h=>cases h;rfl
def Cx.kill (C:Cx) (nm n:Nat):Cx:={C with al:=fun k=>C.al k\/k=nm,cur:=fun k=>if k=n then none else C.cur k}
theorem Cx.Il (C:Cx) (nm n:Nat):C.Le (C.kill nm n):=by
 refine⟨fun _ _ _ h=>h,fun _ h=> .inl h,fun k _ d hd=> ?_,fun _ _=>⟨rfl,fun _=>rfl⟩⟩
 by_cases e:k=n
 ·simp[Cx.kill,e]at hd
 ·simp only[Cx.kill,e,ak]at hd;exact⟨d,hd,aB _,fun _=>⟨rfl,rfl⟩⟩
theorem HR.kill (h:HR C hf wr w) (nm:Nat) {n:Nat} {ob:aC} (hn:hf n=some ob) {w':World} (hoth: ∀b,b<w.heap.size->b≠C.mu n->w'.heap[b]?=w.heap[b]?):HR (C.kill nm n) (fun k=>if k=n then none else hf k) wr w':=by
 have hle:=C.Il nm n;have hold: ∀m oc,(if m=n then none else hf m)=some oc->m≠n/\hf m=some oc:=by
  intro m oc hm
  by_cases e:m=n
  ·simp[e]at hm
  ·simp only[e,ak]at hm;exact⟨e,hm⟩
 have hblk: ∀m oc,hf m=some oc->m≠n->w'.heap[C.mu m]?=w.heap[C.mu m]?:=fun m oc hm e=>hoth _ (h.fX hm) fun he=>e (h.inj _ _ _ _ hm hn he)
 refine⟨?_,?_,?_,?_,?_,?_,?_,?_,?_⟩
 ·intro b o v hv;have h1:=h.rdw b o v hv;have hne:b≠C.mu n:=fun e=>by have hv':C.rd b o=some v:=hv;rw[e,h.sep n ob hn]at hv';cases hv'
  rw[<-h1];exact kF (hoth b (jh h1) hne)
 ·intro m oc hm;obtain⟨e,hm⟩:=hold m oc hm;exact⟨.inl (h.live m oc hm).1,by simp[Cx.kill,e,(h.live m oc hm).2]⟩
 ·intro m hm
  by_cases e:m=n
  ·simp[Cx.kill,e]
  ·simp only[e,ak]at hm;simp[Cx.kill,e,h.dead m hm]
 ·intro m oc hm k;obtain⟨e,hm⟩:=hold m oc hm;exact h.sep m oc hm k
 ·intro m m' oc oc' hm hm' hmu;exact h.inj _ _ _ _ (hold m oc hm).2 (hold m' oc' hm').2 hmu
 ·intro m oc hm;exact h.wr m oc (hold m oc hm).2
 ·intro m oc hm hk;obtain⟨e,hm⟩:=hold m oc hm;obtain⟨cs,el',h1,h2,h3,h4,h5⟩:=h.obj m oc hm hk;exact⟨cs,el',(hblk m oc hm e).trans h1,h2,h3,h4,fun k x v hx hv=>(h5 k x v hx hv).mono hle⟩
 ·intro m oc hm hk t ht;obtain⟨e,hm⟩:=hold m oc hm;obtain⟨cs,h1⟩:=h.typ m oc hm hk t ht;exact⟨cs,(hblk m oc hm e).trans h1⟩
 ·intro m oc hm hk;obtain⟨e,hm⟩:=hold m oc hm;obtain⟨es,clk,h1,h2⟩:=h.mp m oc hm hk;exact⟨es,clk,(hblk m oc hm e).trans h1,h2⟩
theorem Wf.freeze (w:World) {a:Addr} (ha:wr a.block) (n:Nat):Wf wr w (w.freeze a n):=by
 unfold World.freeze;split
 ·exact Wf.refl _ _
 ·refine⟨rfl,rfl,rfl,by simp,fun b hb hn=> ?_⟩
  have hne:a.block≠b:=fun e=>hn (e▸ha)
  simp[tM,hne]
theorem Vw (h:HR C hf wr w) {pt it:TypeId} (hp:P.underlying pt=some (.pointer e)) (hce:P.cellsOf e=1) (hx:AR C vx x) (hy:AR C vy y) (ha:LM hf e vx vy=some ao) (hpre:ao.pre):
  dI P C hf wr base nm (vS (Builtin.unsafeString_ #[pt,it] ty #[x,y])) w ao.v ao.up:=by
 unfold LM at ha
 split at ha
 ·simp only[cM,ai]at ha;subst ha
  cases hx with|v hx=>cases hx;cases hy with|v hy=>cases hy;exact .val h (Lib.run_unsafeString_none w pt it ty none) (.v (.s []))
 ·rename_i n ver o len
  split at ha
  ·rename_i ob hn;simp only[ai]at ha;subst ha;obtain⟨p1,p2,p3,p4,p5,p6,p7⟩:=hpre;subst p2;have hm:=Ko hx;have hv:=vw hx h hn p1;subst hv;have hv:=fJ hy;subst hv;obtain⟨cs,el,g1,g2,g3,g4,g5⟩:=h.obj n ob hn hm;obtain⟨cs',g6⟩:=h.typ n ob hn hm e p3;rw[g1]at g6;injection g6 with g6;injection g6 with e1 e2 e3
   subst e1;subst e2;have hll:((ob.cells.take len.toNat).map AV.byte).length=len.toNat:=by simp;omega
   have hli:(len:Int)=(((ob.cells.take len.toNat).map AV.byte).length:Nat):=by rw[hll];omega
   have hne:(ob.cells.take len.toNat).map AV.byte≠[]:=by
    intro e0;rw[e0]at hll;simp at hll;omega
   have hrun:=Lib.run_unsafeString_row (P:=P) w pt it ty el hp hce (C.mu n) cs.size (by simp[World.shape?,g1]) ((ob.cells.take len.toNat).map AV.byte) hne (by rw[hll];omega) (by rw[hll];omega) (by
    intro j b hb;rw[fI,cell_of_heap g1,fG];rw[gY,dM]at hb;obtain⟨a,ha,rfl⟩:=hb;rw[fU]at ha
    split at ha
    ·have hj:j<cs.size:=by have:=(cv.1 ha).1;omega
     have har:=g5 j a cs[j] ha (by simp[hj])
     have hby:=p7 a (by
      have:(ob.cells.take len.toNat)[j]?=some a:=by rw[fU,ah (by assumption)];exact ha
      exact jb this)
     rw[<-Kb har hby];simp[hj]
    ·cases ha)
   rw[<-hli]at hrun;refine⟨_,_,C.kill nm n, .inl (by simp only[vS,bT,hrun,Result.andThen,Sem.run_pure];rfl), .v (.s _),?_,C.Il nm n,fun _=>iN,Wf.freeze w (h.wr n ob hn) _,fun _ _=>rfl, .one (.inl rfl) fun _ _=>rfl⟩
   rw[ia];refine h.kill nm hn fun b _ hb=> ?_
   unfold World.freeze;split
   ·rfl
   ·simp[tM,kA hb]
  ·cases ha
 ·cases ha
end
end Go.Dom
namespace Go.Dom
open Go.RowKit
def Cx.dz (C:Cx) (w:World) (nm:Nat):Cx:=
 {rd:=C.rd,al:=fun n=>C.al n\/n=nm,cur:=fun k=>if k=nm then some 0 else C.cur k,
  mu:=fun k=>if k=nm then w.heap.size else C.mu k,sz:=C.sz,mpn:=fun k=>if k=nm then true else C.mpn k}
def Qp:Bool->TypeDesc->Prop
 |true,d=>d= .string
 |false,d=> ∃q,d= .int q
section
variable {P:Program} {C:Cx} {hf:Nat->Option aC} {wr:Nat->Prop} {base nm:Nat} {w:World} {tf:Nat->AV}
variable {d:TypeDesc} {et kt t:TypeId} {k kv v x:Value} {key z:PV} {ob:aC} {st:Bool}
theorem Cx.Bb (w:World) (hnm: ¬C.al nm):C.Le (C.dz w nm):=by
 refine⟨fun _ _ _ h=>h,fun _ h=> .inl h,fun n hn d hd=> ?_,fun n hn=>by
  have hne:n≠nm:=fun e=>hnm (e▸hn)
  simp[Cx.dz,hne]⟩
 have hne:n≠nm:=fun e=>hnm (e▸hn)
 have hd':C.cur n=some d:=by simpa[Cx.dz,hne]using hd
 exact⟨d,hd',aB _,fun _=>⟨by simp[Cx.dz,hne],rfl⟩⟩
theorem HR.dz (h:HR C hf wr w) (hnm: ¬C.al nm) (hwr:wr w.heap.size):
  HR (C.dz w nm) (fun k=>if k=nm then some ⟨0,[],false,none⟩else hf k) wr (w.alloc (.map #[] 0)):=by
 have hle:=Cx.Bb w hnm;refine⟨?_,?_,?_,?_,?_,?_,?_,?_,?_⟩
 ·intro b o v hv;have h1:=h.rdw b o v hv;rw[<-h1];exact kF (heap_alloc_old _ _ _ (jh h1))
 ·intro n ob hn
  by_cases e:n=nm
  ·subst e;simp at hn;subst hn;exact⟨.inr rfl,by simp[Cx.dz]⟩
  ·simp only[e,ak]at hn;exact⟨.inl (h.live n ob hn).1,by simp[Cx.dz,e,(h.live n ob hn).2]⟩
 ·intro n hn
  by_cases e:n=nm
  ·subst e;simp at hn
  ·simp only[e,ak]at hn;simp[Cx.dz,e,h.dead n hn]
 ·intro n ob hn k
  by_cases e:n=nm
  ·subst e;simp only[Cx.dz,aA];exact h.IW k
  ·simp only[e,ak]at hn;simp only[Cx.dz,e,ak];exact h.sep n ob hn k
 ·intro n m ob oc hn hm hmu
  by_cases e:n=nm<;>by_cases f:m=nm
  ·rw[e,f]
  ·exfalso
   simp only[f,ak]at hm;simp only[Cx.dz,e,f,aA,ak]at hmu;have:=h.fX hm;omega
  ·exfalso
   simp only[e,ak]at hn;simp only[Cx.dz,e,f,aA,ak]at hmu;have:=h.fX hn;omega
  ·simp only[e,f,ak]at hn hm;simp only[Cx.dz,e,f,ak]at hmu;exact h.inj n m ob oc hn hm hmu
 ·intro n ob hn
  by_cases e:n=nm
  ·simp only[Cx.dz,e,aA];exact hwr
  ·simp only[e,ak]at hn;simp only[Cx.dz,e,ak];exact h.wr n ob hn
 ·intro n ob hn hk
  by_cases e:n=nm
  ·subst e;simp[Cx.dz]at hk
  ·simp only[e,ak]at hn;simp only[Cx.dz,e,ak]at hk;obtain⟨cs,el',h1,h2,h3,h4,h5⟩:=h.obj n ob hn hk;refine⟨cs,el',?_,h2,h3,h4,fun k x v hx hv=>(h5 k x v hx hv).mono hle⟩
   simp only[Cx.dz,e,ak];rw[heap_alloc_old _ _ _ (h.fX hn)];exact h1
 ·intro n ob hn hk t ht
  by_cases e:n=nm
  ·subst e;simp[Cx.dz]at hk
  ·simp only[e,ak]at hn;simp only[Cx.dz,e,ak]at hk;obtain⟨cs,h1⟩:=h.typ n ob hn hk t ht;exact⟨cs,by simp only[Cx.dz,e,ak];rw[heap_alloc_old _ _ _ (h.fX hn)];exact h1⟩
 ·intro n ob hn hk
  by_cases e:n=nm
  ·subst e;simp at hn;subst hn;exact⟨#[],0,by simp only[Cx.dz,aA];exact heap_alloc_new _ _, .nil⟩
  ·simp only[e,ak]at hn;simp only[Cx.dz,e,ak]at hk;obtain⟨es,clk,h1,h2⟩:=h.mp n ob hn hk;exact⟨es,clk,by simp only[Cx.dz,e,ak];rw[heap_alloc_old _ _ _ (h.fX hn)];exact h1,h2⟩
theorem Vo (h:HR C hf wr w) (hnm: ¬C.al nm) (hwr: ∀b,base<=b->wr b) (hbase:base<=w.heap.size) {s:Sem Next} (hrun:s.run P w= .ok (.value (.map (some w.heap.size))) (w.alloc (.map #[] 0))):
  dI P C hf wr base nm s w (.mp nm) [(nm,some ⟨0,[],false,none⟩)]:=by
 refine⟨_,_,C.dz w nm, .inl hrun, .mp nm _ (.inr rfl) (by simp[Cx.dz]) (fun c _=>by simp[Cx.dz]),?_,Cx.Bb w hnm,fun _=>iN,Wf.alloc _ _ _,fun _ _=>rfl, .one (.inr (.inr (by simpa[Cx.dz]using hbase))) fun k e=>by simp[Cx.dz,e]⟩
 rw[ia];exact h.dz hnm (hwr _ hbase)
theorem HR.O1 (h:HR C hf wr w) (nm:Nat) {n:Nat} (hn:hf n=some ob) (hk0:C.mpn n=true) (cells:List AV) {w':World} {es:Array MapEntry} {clk:Nat} (hw:w'.heap[C.mu n]?=some (.map es clk))
  (hmr:MR C.rd cells es.toList) (hoth: ∀b,b≠C.mu n->w'.heap[b]?=w.heap[b]?):
  HR (C.bump nm n ob.ver) (fun k=>if k=n then some ⟨ob.ver,cells,ob.gr,ob.el⟩else hf k) wr w':=by
 have hle:C.Le (C.bump nm n ob.ver):=Cx.mV nm (h.live n ob hn).2 (aB _);have ne: ∀m oc,hf m=some oc->m≠n->C.mu m≠C.mu n:=fun m oc hm e he=>e (h.inj _ _ _ _ hm hn he)
 refine⟨?_,?_,?_,?_,?_,?_,?_,?_,?_⟩
 ·intro b o v hv;have h1:=h.rdw b o v hv;have hne:b≠C.mu n:=fun e=>by have hv':C.rd b o=some v:=hv;rw[e,h.sep n ob hn]at hv';cases hv'
  rw[<-h1];exact kF (hoth b hne)
 ·intro m oc hm
  by_cases e:m=n
  ·subst e;simp at hm;subst hm;exact⟨.inl (h.live m ob hn).1,by simp[Cx.bump]⟩
  ·simp only[e,ak]at hm;exact⟨.inl (h.live m oc hm).1,by simp[Cx.bump,e,(h.live m oc hm).2]⟩
 ·intro m hm
  by_cases e:m=n
  ·subst e;simp at hm
  ·simp only[e,ak]at hm;simp[Cx.bump,e,h.dead m hm]
 ·intro m oc hm k
  by_cases e:m=n
  ·subst e;exact h.sep m ob hn k
  ·simp only[e,ak]at hm;exact h.sep m oc hm k
 ·intro m m' oc oc' hm hm' hmu
  by_cases e:m=n<;>by_cases f:m'=n
  ·rw[e,f]
  ·simp only[f,ak]at hm';subst e;exact h.inj _ _ _ _ hn hm' hmu
  ·simp only[e,ak]at hm;subst f;exact h.inj _ _ _ _ hm hn hmu
  ·simp only[e,f,ak]at hm hm';exact h.inj _ _ _ _ hm hm' hmu
 ·intro m oc hm
  by_cases e:m=n
  ·subst e;exact h.wr m ob hn
  ·simp only[e,ak]at hm;exact h.wr m oc hm
 ·intro m oc hm hk
  by_cases e:m=n
  ·subst e;exact aJ (hk0.symm.trans hk) (by simp)
  ·simp only[e,ak]at hm;obtain⟨cs,el',h1,h2,h3,h4,h5⟩:=h.obj m oc hm hk;exact⟨cs,el',(hoth _ (ne m oc hm e)).trans h1,h2,h3,h4,fun k x v hx hv=>(h5 k x v hx hv).mono hle⟩
 ·intro m oc hm hk t ht
  by_cases e:m=n
  ·subst e;exact aJ (hk0.symm.trans hk) (by simp)
  ·simp only[e,ak]at hm;obtain⟨cs,h1⟩:=h.typ m oc hm hk t ht;exact⟨cs,(hoth _ (ne m oc hm e)).trans h1⟩
 ·intro m oc hm hk
  by_cases e:m=n
  ·subst e;simp at hm;subst hm;exact⟨es,clk,hw,hmr⟩
  ·simp only[e,ak]at hm;obtain⟨es',clk',h1,h2⟩:=h.mp m oc hm hk;exact⟨es',clk',(hoth _ (ne m oc hm e)).trans h1,h2⟩
theorem Kf {rd:Rd} (hd:Qp st d) {x y:PV} {a b:Value} (hx:PR rd x a) (hy:PR rd y b) {r:Bool} (h:pE st x y=some r):Instr.sameNow d a b=some r/\(r=true->b=a):=by
 unfold pE at h
 split at h
 ·rename_i p q
  cases hx;cases hy
  simp only[Qp]at hd;subst hd;simp only[ai]at h;subst h;have e:((⟨p.toArray⟩:ByteArray)==⟨q.toArray⟩)=(p==q):=by
   by_cases e:p=q
   ·subst e;simp[(MapKept.bytes_beq _ _).2 rfl]
   ·have h1:(p==q)=false:=by simpa using e
    rw[h1]
    cases h2:((⟨p.toArray⟩:ByteArray)==⟨q.toArray⟩)
    ·rfl
    ·have:=(MapKept.bytes_beq _ _).1 h2;simp only[ByteArray.mk.injEq]at this;exact aJ (by simpa using congrArg Array.toList this) e
  refine⟨by simp only[Instr.sameNow,e],fun h=> ?_⟩
  have:p=q:=by simpa using h
  rw[this]
 ·rename_i k p k' q
  cases hx;cases hy
  obtain⟨j,rfl⟩:=hd
  split at h
  ·rename_i e;subst e;simp only[ai]at h;subst h;refine⟨by simp[Instr.sameNow],fun h=> ?_⟩
   have:p=q:=by simpa using h
   rw[this]
  ·cases h
 ·cases h
theorem H6 {rd:Rd} (hd:Qp st d) (hk:PR rd key kv) {l:List AV} {es:List MapEntry} (h:MR rd l es):U7 st key l-> ∀i,
  (Instr.findNow d kv es i=some none/\yG st key l=false/\(∀z,uI st z key l=z)/\ ∀val vv bn,PR rd val vv->MR rd (Ah st key val l) (es++[{key:=kv,val:=vv,born:=bn}]))\/
  ∃j e,Instr.findNow d kv es i=some (some (i+j,e.val))/\es[j]?=some e/\e.key=kv/\yG st key l=true/\(∀z,PR rd (uI st z key l) e.val)/\ ∀val vv,PR rd val vv->MR rd (Ah st key val l) (es.modify j fun e=>{e with key:=kv,val:=vv}):=by
 induction h with
 |nil=>exact fun _ i=> .inl ⟨rfl,rfl,fun _=>rfl,fun val vv bn hv=> .cons key val [] _ [] hk hv .nil⟩
 |cons a b l e es ha hb hr ih=>
  rintro⟨h1,h2⟩ i;obtain⟨r,hr1⟩:=tU.1 h1;obtain⟨g1,g2⟩:=Kf hd hk ha hr1
  cases r with
  |true=>exact .inr ⟨0,e,by simp[Instr.findNow,g1],rfl,g2 rfl,by simp[yG,hr1],fun z=>by simp[uI,hr1,hb],fun val vv hv=>by
    simp only[Ah,hr1,aA,List.modify_zero_cons];exact .cons key val l _ es hk hv hr⟩
  |false=>
   rcases ih h2 (i+1)with⟨k1,k2,k3,k4⟩|⟨j,e',k1,k2,k3,k4,k5,k6⟩
   ·refine .inl ⟨by simp[Instr.findNow,g1,k1],by simp[yG,hr1,k2],fun z=>by simp[uI,hr1,k3],fun val vv bn hv=> ?_⟩
    simp only[Ah,hr1,ai,bQ,ak,List.cons_append];exact .cons a b _ e _ ha hb (k4 val vv bn hv)
   ·refine .inr ⟨j+1,e',by simp[Instr.findNow,g1,k1];omega,by simpa using k2,k3,by simp[yG,hr1,k4],fun z=>by simpa[uI,hr1]using k5 z,fun val vv hv=> ?_⟩
    simp only[Ah,hr1,ai,bQ,ak,List.modify_succ_cons];exact .cons a b _ e _ ha hb (k6 val vv hv)
theorem wG: ∀{l:List AV},U7 st key l->(pE st key key).isSome=true
 |[],h=>h
 |[.v _],h=>h.elim
 | .v a:: .v b::r,h=>wG h.2
termination_by l=>l.length
theorem EK {rd:Rd} (hk:PR rd key kv) (h:(pE st key key).isSome=true):(st=true/\ ∃s,kv= .string s)\/(st=false/\ ∃k n,kv= .int k n):=by
 cases st<;>cases hk<;>simp[pE]at h⊢
theorem Bu (hd:P.underlying kt=some d) (h:Qp st d) {rd:Rd} (hk:PR rd key kv) (hm:(pE st key key).isSome=true) (em:Bool) (w:World):(Instr.checkKey em 10000 kt kv).run P w= .ok () w:=by
 show(Instr.checkKey em (9999+1) kt kv).run P w= .ok () w;unfold Instr.checkKey;simp only[bT,run_underlying hd,Result.andThen];rcases EK hk hm with⟨rfl,s,rfl⟩|⟨rfl,k,n,rfl⟩
 ·simp only[Qp]at h;subst h;simp
 ·obtain⟨q,rfl⟩:=h;simp
theorem KV {rd:Rd} (hk:PR rd key kv) (hm:(pE st key key).isSome=true) (w:World):(Instr.keyThatStays kv kv).run P w= .ok kv w:=by
 rcases EK hk hm with⟨-,s,rfl⟩|⟨-,k,n,rfl⟩
 ·exact MapKept.run_keyThatStays (d:= .string) trivial
 ·exact MapKept.run_keyThatStays (d:= .int k) rfl
theorem Nn {n:Nat} (h:AR C (.mp n) v) (hh:HR C hf wr w) (hn:hf n=some ob):v= .map (some (C.mu n))/\C.mpn n=true:=by
 cases h with
 |mp n b ha hk h=>rw[h _ (hh.live _ _ hn).2];exact⟨rfl,hk⟩
theorem Lp (h:FT P t=some z): ∃v:Value,(∀w,(zeroValue t).run P w= .ok v w)/\AR C (.v z) v:=by
 unfold FT at h;simp only[Option.bind_eq_bind,bu]at h;obtain⟨i,hi,v,hv,h⟩:=h
 split at h
 ·rename_i z' hz;simp only[ai]at h;subst h;exact⟨v,fun w=>by simp[zeroValue,typeInfo,hi,hv],BU hz⟩
 ·cases h
theorem Rc (h:HR C hf wr w) {c:Bool} (hu:P.underlying t=some (.map kt et)) (hkd:P.underlying kt=some d) (hd:Qp st d) (hz:FT P et=some z)
  {n:Nat} (hn:hf n=some ob) (hx:AR C (.mp n) x) (hk:AR C (.v key) k) (hp:U7 st key ob.cells):
  dI P C hf wr base nm (vS (Instr.lookup t x k c)) w (if c then .tup [.v (uI st z key ob.cells), .v (.b (yG st key ob.cells))]else .v (uI st z key ob.cells)) []:=by
 obtain⟨rfl,hm⟩:=Nn hx h hn;obtain⟨es,clk,hb,hmr⟩:=h.mp n ob hn hm
 cases hk with
 |v hk=>
  have hck:=Bu (P:=P) hkd hd hk (wG hp) es.isEmpty w;obtain⟨zv,hzv,hrz⟩:=Lp (C:=C) hz;have hone: ∀v:Value,AR C (.v (uI st z key ob.cells)) v->AR C (if c then .tup [.v (uI st z key ob.cells), .v (.b (yG st key ob.cells))]else .v (uI st z key ob.cells)) (if c then .tuple #[v, .bool (yG st key ob.cells)]else v):=by
   intro v hv;cases c
   ·exact hv
   ·refine .tup _ [v, .bool (yG st key ob.cells)] rfl fun k x u hx hu=> ?_
    match k with
    |0=>simp at hx hu;subst hx;subst hu;exact hv
    |1=>simp at hx hu;subst hx;subst hu;exact .v (.b _)
    |k+2=>simp at hx
  rcases H6 hd hk hmr hp 0 with⟨k1,k2,k3,-⟩|⟨j,e,k1,k2,k3,k4,k5,-⟩
  ·refine .val h ?_ (hone zv (by rw[k3];exact hrz))
   simp[Instr.lookup,run_underlying hu,xd hb,hck,xg hkd k1,hzv,Result.andThen,k2]
  ·refine .val h ?_ (hone e.val (.v (k5 z)));simp[Instr.lookup,run_underlying hu,xd hb,hck,xg hkd k1,Result.andThen,k4]
theorem Re (h:HR C hf wr w) {key val:PV} (hu:P.underlying t=some (.map kt et)) (hkd:P.underlying kt=some d) (hd:Qp st d)
  {n:Nat} (hn:hf n=some ob) (hx:AR C (.mp n) x) (hk:AR C (.v key) k) (hv:AR C (.v val) v) (hp:U7 st key ob.cells):
  dI P C hf wr base nm (do Instr.mapUpdate t x k v;pure .skip) w (.v (.tup [])) [(n,some ⟨ob.ver,Ah st key val ob.cells,ob.gr,ob.el⟩)]:=by
 obtain⟨rfl,hm⟩:=Nn hx h hn;obtain⟨es,clk,hb,hmr⟩:=h.mp n ob hn hm
 cases hk with
 |v hk=>
  cases hv with
  |v hv=>
   have hck:=Bu (P:=P) hkd hd hk (wG hp) false w;have hst:=KV (P:=P) hk (wG hp) w;have fin: ∀(es':Array MapEntry) (clk':Nat),(Instr.mapUpdate t (.map (some (C.mu n))) k v).run P w= .ok () {w with heap:=w.heap.setIfInBounds (C.mu n) (.map es' clk')}->MR C.rd (Ah st key val ob.cells) es'.toList->
     dI P C hf wr base nm (do Instr.mapUpdate t (.map (some (C.mu n))) k v;pure .skip) w (.v (.tup [])) [(n,some ⟨ob.ver,Ah st key val ob.cells,ob.gr,ob.el⟩)]:=by
    intro es' clk' hrun hmr';obtain⟨s1,s2⟩:=MapKept.heap_set (o':= .map es' clk') hb;refine⟨undef,{w with heap:=w.heap.setIfInBounds (C.mu n) (.map es' clk')},C.bump nm n ob.ver, .inr ⟨by simp only[bT,hrun,Result.andThen,Sem.run_pure],rfl⟩, .v (.tup [] [] rfl (fun k x v hx=>by simp at hx)),?_,Cx.mV nm (h.live n ob hn).2 (aB _),fun _=>iN,⟨rfl,rfl,rfl,by simp,fun b _ hn'=>s2 b fun e=>hn' (e▸h.wr n ob hn)⟩,fun _ _=>rfl, .one (.inr (.inl ⟨_,hn,rfl⟩)) fun _ _=>rfl⟩
    rw[ia];exact h.O1 nm hn hm _ s1 hmr' s2
   rcases H6 hd hk hmr hp 0 with⟨k1,-,-,k4⟩|⟨j,e,k1,k2,k3,-,-,k6⟩
   ·refine fin (es.push {key:=k,val:=v,born:=clk}) (clk+1) ?_ (by rw[Array.toList_push];exact k4 val v clk hv)
    simp[Instr.mapUpdate,run_underlying hu,xd hb,hck,xg hkd k1,MapKept.run_setObj_map _ hb,Result.andThen]
   ·refine fin (es.modify j fun e=>{e with key:=k,val:=v}) clk ?_ (by rw[Array.toList_modify];exact k6 val v hv)
    have k2':es[j]?=some e:=by simpa using k2
    rw[fG]at k1;simp[Instr.mapUpdate,run_underlying hu,xd hb,hck,xg hkd k1,k2',k3,hst,MapKept.run_setObj_map _ hb,Result.andThen]
end
