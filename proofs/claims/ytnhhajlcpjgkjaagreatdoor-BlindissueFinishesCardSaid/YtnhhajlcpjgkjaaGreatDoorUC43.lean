/- Part of the proof. -/
import Derived.Test.YtnhhajlcpjgkjaaGreatDoorUC41
import Derived.Test.YtnhhajlcpjgkjaaGreatDoorUC42
set_option linter.all false
set_option maxHeartbeats 16000000
set_option maxRecDepth 100000
namespace Go.Proofs.Tryz
open Go Go.Dom Go.Num
variable {e e1:Int} {k:Key} {p:cq}
structure nF where
 (c n ch:Bytes)
 rs:List (Bool×Bytes)
 gs:List Bytes
 ls:List (List (Bool×Bytes))
def nF.pv (r:nF):PV:= .agg [.s r.c, .s r.n, .s r.ch, .sl (r.rs.map cU), .sl (r.gs.map .s), .sl (r.ls.map qM)]
def nF.V8 (r:nF):Prop:=r.rs.length<1000000/\r.gs.length<=1000/\r.ls.length<=1000/\ ∀l∈r.ls,l.length<4611686018427387904
noncomputable def qU (p:cq) (k:Key) (r:nF):Int:=if !aa r.c then 3 else if decide (64<r.n.length)then 5 else if !dx k.m [] r.c then 13 else zo p.c p.sl (kY k r.n) (e9 p k r.c) r.ch r.rs r.gs r.ls
noncomputable def uW (p:cq) (k:Key) (r:nF):Int:=if fa (eQ p) k≠0 then fa (eQ p) k else qU p k r
theorem Tt (r:nF):aE 149 [.pt r.pv 0] (.b (!aa r.c)):=by
 have h:=aG r.c;generalize aa r.c=b at*;unfold nF.pv;refine eW call149 func149 ?_;exact z1 @h
theorem Tu (r:nF):aE 150 [.pt r.pv 0] (.b (decide (64<r.n.length))):=by
 unfold nF.pv;refine eW call150 func150 ?_;repeat' first|simp only[go_sem,seval]|refine oE ?_|apply xX<;>intro hc
 all_goals (refine congrArg PV.b ?_;rw[fz];omega)
theorem Tv (lm:k.m.length<=8) (ho:k.o=[]) (r:nF):aE 151 [.pt k.pv 0, .pt r.pv 0] (.b (!dx k.m [] r.c)):=by
 have h:=yJ lm r.c;generalize dx k.m [] r.c=b at*;obtain⟨name,m,o,z,s,l,u,hh⟩:=k;simp only at ho h;subst ho;unfold nF.pv Key.pv;refine eW call151 func151 ?_;exact z1 @h
theorem Tw (hp:p.short) (hpe:eQ p=0) (hk:py k) (lm:k.m.length<=8) (ln:k.name.length<=60) (lr:k.r.length<=20) (h0:0<k.r.length) {r:nF} (hr:r.V8) (hn:r.n.length<=64) (hc:dx k.m [] r.c=true):aE 152 [.pt p.pv 0, .pt k.pv 0, .pt r.pv 0] (E (zo p.c p.sl (kY k r.n) (e9 p k r.c) r.ch r.rs r.gs r.ls)):=by
 obtain⟨n1,n2,n3,n4⟩:=hr;have w1:=Hl k r.n oO oO;have w2:=Hn p k r.c h0 oO;have w3:=LS (sw hp hpe hk lm h0 hc) (xA hp hk lm h0 hc) (by simp[e9]) (ctx:=kY k r.n) (by simp[kY];omega) (ch:=r.ch) (rs:=r.rs) (gs:=r.gs) (ls:=r.ls) n1 n2 n3 n4
 generalize zo p.c p.sl (kY k r.n) (e9 p k r.c) r.ch r.rs r.gs r.ls=e at*;generalize kY k r.n=cx at*;generalize e9 p k r.c=S at*;clear hk hc;obtain⟨sg,sv,se⟩:=S;unfold nF.pv Key.pv cq.pv cK.pv uL at*;refine eW call152 func152 ?_;exact z4 @w1 @w2 @w3 oT
abbrev Z4 (p:cq) (k:Key) (r:nF):List (FuncId×List PV):=
 [(87,[.pt (.agg [.fc 149 [] [.pt r.pv 0]]) 0, .pt (.agg [E 3]) 0]),(87,[.pt (.agg [.fc 150 [] [.pt r.pv 0]]) 0, .pt (.agg [E 5]) 0]),(87,[.pt (.agg [.fc 151 [] [.pt k.pv 0, .pt r.pv 0]]) 0, .pt (.agg [E 13]) 0]),(152,[.pt p.pv 0, .pt k.pv 0, .pt r.pv 0])]
theorem Ak (hp:p.short) (hpe:eQ p=0) (hk:py k) (lm:k.m.length<=8) (ln:k.name.length<=60) (lr:k.r.length<=20) (h0:0<k.r.length) {r:nF} (hr:r.V8):aE 65 [p.pv,k.pv,r.pv] (E (qU p k r)):=by
 have hf:aE 27 [.sl ((Z4 p k r).map Jd)] (E (qU p k r)):=by
  refine qd _ (by simp) ?_
  unfold qU;refine mN (Tt r) oC (fun _=> ?_) rfl
  refine mN (Tu r) oC (fun hn=> ?_) rfl
  refine mN (Tv lm hk.o r) oC (fun hc=> ?_) rfl
  exact⟨_,Tw hp hpe hk lm ln lr h0 hr (by simpa using hn) (by simpa using hc),fun _=>rfl,fun h=>h⟩
 have h1:=fun n1 nm=>G0 n1 nm 149 r.pv.cells none 3
 have h2:=fun n1 nm=>G0 n1 nm 150 r.pv.cells none 5
 have h3:=fun n1 k1 nm h=>zt n1 k1 nm h 151 k.pv.cells r.pv.cells none none 13
 generalize qU p k r=e at*;simp only[Z4,bV,bj,Jd]at hf;unfold nF.pv Key.pv cq.pv PV.cells at*;simp only[bV,bj]at h1 h2 h3;refine eW call65 func65 ?_;repeat' first|simp only[go_sem,seval]|(refine bE (h1 _ _) (by simp[aB]) ?_)|(refine bE (h2 _ _) (by simp[aB]) ?_)|(refine bE (h3 _ _ _ oC) (by simp[aB]) ?_)|(refine e7 hf (by simp[aW,view,aB,AV.one,PV.one,pk,chunk]) rfl ?_)|refine oE ?_|apply xX<;>intro hc
 all_goals rfl
theorem Tp (h:aE 29 [p.pv,k.pv] (E e)):aE 63 [.pt p.pv 0, .pt k.pv 0] (E e):=by
 unfold cq.pv Key.pv at*;refine eW call63 func63 ?_;exact z1 @h
theorem Tq {r:nF} (h:aE 65 [p.pv,k.pv,r.pv] (E e)):aE 64 [.pt p.pv 0, .pt k.pv 0, .pt r.pv 0] (E e):=by
 unfold cq.pv Key.pv nF.pv at*;refine eW call64 func64 ?_;exact z1 @h
theorem FC (hp:p.short) (lm:k.m.length<=8) (ln:k.name.length<=60) (lr:k.r.length<=20) {r:nF} (hr:r.V8):aE 18 [p.pv,k.pv,r.pv] (E (uW p k r)):=by
 have hf:aE 27 [.sl (([(63,[.pt p.pv 0, .pt k.pv 0]),(64,[.pt p.pv 0, .pt k.pv 0, .pt r.pv 0])]:List (FuncId×List PV)).map Jd)] (E (uW p k r)):=by
  refine qd _ (by simp) ?_
  unfold uW;refine⟨_,Tp (kN p k _ (lK p hp) lm ln lr),fun h=>ah h,fun h=> ?_⟩
  rw[af (by simpa using h)]
  obtain⟨hpe,hk⟩:=ot h;have:=x7 h;exact⟨_,Tq (Ak hp hpe hk lm ln lr oO hr),fun _=>rfl,fun h=>h⟩
 generalize uW p k r=e at*;simp only[bV,bj,Jd]at hf;unfold nF.pv Key.pv cq.pv at*;refine eW call18 func18 ?_;repeat' first|simp only[go_sem,seval]|(refine e7 hf (by simp[aW,view,aB,AV.one,PV.one,pk,chunk]) rfl ?_)|refine oE ?_|apply xX<;>intro hc
 all_goals rfl
def ph:cq:=⟨[2],[100],[107],[53],[4],[16],[77],[],[4],[9],[9],[6],[9],[3],[10],[2],[15]⟩
def nY:Key:=⟨[105,115,115,117,101,114],[77],[],[15],[4],[[64],[23],[1]],[4],[16]⟩
theorem Ad:ph.short:=by unfold cq.short;decide
theorem He:eQ ph=0:=by decide+kernel
theorem Hc:fa (eQ ph) nY=0:=by rw[He];decide+kernel
theorem Ru:py nY:=(ot Hc).2
theorem Zl:aE 29 [ph.pv,nY.pv] (E 0):=by
 have h:=kN ph nY _ (lK ph Ad) oC oC oC
 rwa[Hc]at h
theorem TO:aE 71 [ph.pv,nY.pv,G [7] [11]] (E 0):=by
 have h:=OB ph nY [7] [11] 0 Zl oC oC
 rwa[show LX 0 nY [7] [11]=0 by decide+kernel]at h
theorem Jc (vs:List Bytes) (sd:Bytes) (a:Int) (hl:vs.length<1000000):aE 160 [T vs sd a] (.b (fK vs a)):=by
 have h:=pF vs hl;unfold fK;rw[jh,tC];generalize vs.all aa=b at*;cases b
 ·refine eW call160 func160 ?_;repeat' first|simp only[go_sem,seval]|refine cP h ?_|refine oE ?_|apply xX<;>intro hc
  all_goals first|(simp_all;done)|(simp_all;omega)
 ·refine eW call160 func160 ?_;repeat' first|simp only[go_sem,seval]|refine cP h ?_|refine oE ?_|apply xX<;>intro hc
  all_goals first|(simp_all;done)|(simp_all;omega)
abbrev IT (i:Int):PV:=T [[4],[1]] [] i
theorem WY:aE 37 [IT 0, .s [10]] (.tup [.s [4],IT 1,E 0]):=nD (vs:=[[4],[1]]) (sd:=[]) (i:=0) (n:=[10]) oC oC oC oC oC oC
theorem WZ:aE 37 [IT 1, .s [2]] (.tup [.s [1],IT 2,E 0]):=nD (vs:=[[4],[1]]) (sd:=[]) (i:=1) (n:=[2]) oC oC oC oC oC oC
theorem RT:aE 161 [G [7] [11]] (.tup [.s [15],E 0]):=KC (p:=[7]) (q:=[11]) oC oC oC oC oC oC (by decide+kernel)
theorem TL:aE 78 [ph.pv,G [7] [11],IT 0] (.tup [.s [7],IT 1,E 0]):=by
 have h1:=lK ph Ad;rw[He]at h1;have h2:=Jc [[4],[1]] [] 0 oC;rw[show fK [[4],[1]] 0=true by decide]at h2
 have h3:=RT;have h4:=WY;have h5:=Fs [3] [4];rw[show iC [3] [4]=([7],0) by decide+kernel]at h5
 have h6:=qi [7];rw[show(aa [7]&&decide (([7]:Bytes).length<=8)&&fL (num [7]))=true by decide+kernel,show dE [7]=0 by decide+kernel]at h6
 have h7:aE 162 [.s [15], .s [7]] (.tup [.s [2], .s [1],E 0]):=jf (a:=15) (b:=7) oC oC oC;unfold ph cq.pv IT at*;simp only[bV,bj]at*;have b1:(([1]:Bytes)==[])=false:=rfl;refine eW call78 func78 ?_;repeat' first|simp only[go_sem,seval,b1]|refine cP h1 ?_|refine cP h2 ?_|refine cP h3 ?_|refine cP h4 ?_|refine cP h5 ?_|refine cP h6 ?_|refine cP h7 ?_|(refine aj ?_)|refine oE ?_|apply xX<;>intro hc
 all_goals rfl
theorem Xs:aE 167 [.s [4], .agg [.b false, .s [13]], .s [77]] (.tup [.s [53],E 0]):=by
 have v1:=aG [13];rw[show aa [13]=true by decide]at v1
 have hc:=fun nm=>FJ nm [4] [77]
 rw[show rm [[4]] [77]=0 by decide+kernel]at hc
 have he:aE 290 [.s [4], .s [13], .s [77]] (.tup [.s [53],E 0]):=by
  have h:=Sv (a:=4) (e:=[13]) (m:=77) oC oC oC oC
  rwa[show 4^num [13]%77=53 by decide+kernel]at h
 refine eW call167 func167 ?_;repeat' first|simp only[go_sem,seval]|refine cP v1 ?_|(refine bE (hc _) (by simp) ?_)|refine cP he ?_|refine oE ?_|apply xX<;>intro hc
 all_goals rfl
theorem VB:aE 79 [G [77] [],G [7] [11], .s [4], .s [7]] (.tup [.s [53],E 0]):=by
 have v1:=aG [4];have v2:=aG [7];rw[show aa [4]=true by decide]at v1
 rw[show aa [7]=true by decide]at v2
 have h1:=ru (m:=[77]) oC [] [7] [11] [4];have e0:Dk [77] [] [7] [11] [4]=0:=by decide+kernel
 rw[e0]at h1;have h2:=uM (Zq e0).2.1 (x:=[4]) oC oC;rw[show Q8 [7] [11] [4]=true by decide+kernel]at h2
 have h3:=RT;have h4:aE 165 [.s [7], .s [15]] (.tup [.s [1],E 0]):=Wo (a:=7) (b:=15) oC oC;have h5:aE 94 [.s [7], .s [15]] (.tup [.s [13],E 0]):=by
  have h:=qZ (a:=7) (m:=15) oC oC oC oC
  rwa[gI (i:=13) oC oC]at h
 have h6:aE 38 [.s [13]] (.agg [.b false, .s [13]]):=mG oC;have h7:=Xs;have h8:aE 166 [] (.s [1]):=wk;refine eW call79 func79 ?_;repeat' first|simp only[go_sem,seval]|refine cP v1 ?_|refine cP v2 ?_|refine cP h1 ?_|refine cP h2 ?_|refine cP h3 ?_|refine cP h4 ?_|refine cP h8 ?_|refine cP h5 ?_|refine cP h6 ?_|refine cP h7 ?_|refine oE ?_|apply xX<;>intro hc
 all_goals first|rfl|exact aM hc oC
theorem RE (l:List Bytes) (hl:l.length<1000000):aE 56 [.sl (l.map .s)] (.b (l.all aa)):=by
 have h1: ∀x,aE 132 [.s x] (.b (!aa x)):=fun x=>by
  have hv:=aG x;refine eW call132 func132 ?_;exact z1 @hv
 have h:=gV l _ (fun x=> !aa x) oO h1
 rw[jh]at h;generalize l.all aa=b at*;refine eW call56 func56 ?_;repeat' first|simp only[go_sem,seval]|refine cP h ?_|refine oE ?_|apply xX<;>intro hc
 all_goals (cases b<;>rfl)
theorem Al (p:cq) (i:Int):aE 76 [p.pv,E i] (.s (if i=1 then p.ha else p.at')):=by
 unfold cq.pv
 by_cases h:i=1
 ·subst h;refine eW call76 func76 ?_;exact z0
 ·rw[af h];have hb:(i==1)=false:=by simpa using h
  refine eW call76 func76 ?_;exact gU @hb
theorem Ws:aE 75 [E (-1)] (.agg [.b true, .s [1]]):=by
 have hm:=wa true [1];refine eW call75 func75 ?_;exact z2 @xo @hm
abbrev Dl:PV:= .sl [.s [3], .s [5]]
theorem TU:aE 70 [.pt ph.pv 0, .pt nY.pv 0, .pt (G [7] [11]) 0] (E 0):=by
 have h:=TO;unfold cq.pv Key.pv at*;refine eW call70 func70 ?_;exact z1 @h
theorem TV:aE 72 [.pt (.agg [Dl]) 0, .pt (IT 0) 0] (.b false):=by
 have h1:=RE [[3],[5]] oC;have h2:=DD [[4],[1]] [] 0 oC;rw[show([[3],[5]]:List Bytes).all aa=true by decide]at h1
 rw[show fK [[4],[1]] 0=true by decide]at h2
 simp only[bV,bj]at h1 h2;refine eW call72 func72 ?_;exact z2 @h1 @h2
theorem TW {r:nF} (h:aE 65 [ph.pv,nY.pv,r.pv] (E 0)):aE 73 [.pt ph.pv 0, .pt nY.pv 0, .pt r.pv 0] (E 0):=by
 unfold cq.pv Key.pv nF.pv at*;refine eW call73 func73 ?_;exact z1 @h
theorem TX:aE 74 [.pt (.agg [Dl]) 0, .pt nY.pv 0] (.b false):=by
 unfold nY Key.pv;refine eW call74 func74 ?_;exact z0
theorem U3:aE 39 [G [77] [], .sl [.s [15], .s [25], .s [23], .s [1], .s [4]], .sl [.agg [.b false, .s [1]], .agg [.b true, .s [1]], .agg [.b true, .s [3]], .agg [.b true, .s [5]], .agg [.b true, .s [1]]]] (.tup [.s [4],E 0]):=by
 have hE:gE [77] []=0:=by decide+kernel
 have hG: ∀x∈[15,25,23,1,4],GP [77] [] x:=fun x hx=>by
  simp only[cd,il,or_false]at hx;rcases hx with rfl|rfl|rfl|rfl|rfl<;>exact⟨by decide,by decide, .inl rfl⟩
 have h:=sF (m:=[77]) oC (o:=[]) oC hE (xs:=[15,25,23,1,4]) (es:=[(false,[1]),(true,[1]),(true,[3]),(true,[5]),(true,[1])]) hG oC rfl oC;have hv:yE (num [77]) ([15,25,23,1,4].zip [(false,([1]:Bytes)),(true,[1]),(true,[3]),(true,[5]),(true,[1])])=4:=by
  unfold yE;simp only[List.zip_cons_cons,List.zip_nil_left,bV,bj,Lq,az,bO,ar];rw[gI (a:=25) (m:=num [77]) (i:=37) oC oC,gI (a:=23) (m:=num [77]) (i:=67) oC oC,gI (a:=1) (m:=num [77]) (i:=1) oC oC,gI (a:=4) (m:=num [77]) (i:=58) oC oC];decide+kernel
 rw[hv]at h;exact h
theorem PZ {r:nF} (hc:r.c=[25]) (hk:aE 65 [ph.pv,nY.pv,r.pv] (E 0)):aE 25 [ph.pv,nY.pv,G [7] [11],r.pv,Dl,IT 0] (.tup [.agg [Dl, .s [53], .s [7], .s [1], .s [],E 0],IT 2,E 0]):=by
 have hf:aE 27 [.sl (([(70,[.pt ph.pv 0, .pt nY.pv 0, .pt (G [7] [11]) 0]),(87,[.pt (.agg [.fc 72 [] [.pt (.agg [Dl]) 0, .pt (IT 0) 0]]) 0, .pt (.agg [E 3]) 0]),(73,[.pt ph.pv 0, .pt nY.pv 0, .pt r.pv 0]),(87,[.pt (.agg [.fc 74 [] [.pt (.agg [Dl]) 0, .pt nY.pv 0]]) 0, .pt (.agg [E 6]) 0])]:List (FuncId×List PV)).map Jd)] (E 0):=
  qd _ (by simp) (BI TU (mN TV oC (fun _=>BI (TW hk) (mN TX oC (fun _=>rfl) rfl)) rfl))
 have h3:=fun n1 k1 nm h=>zt n1 k1 nm h 72 [Dl] [.sl [.s [4], .s [1]], .s [], .i .i64 0] none none 3
 have h5:=fun n1 k1 nm h=>zt n1 k1 nm h 74 [Dl] nY.pv.cells none none 6
 have o1:=SI;have om:=Ws;have l1:=Al ph 1;have l2:=Al ph 2;have c1:=jH (x:=[3]) (y:=[9]) oC oC;have c2:=jH (x:=[5]) (y:=[6]) oC oC;rw[show aZ (num [3]) (num [9])= -1 from rfl]at c1
 rw[show aZ (num [5]) (num [6])= -1 from rfl]at c2
 have f1:=mG (a:=[3]) oC;have f2:=mG (a:=[5]) oC;have f3:=mG (a:=[1]) oC;have n1:aE 77 [.agg [.b false, .s [3]]] (.agg [.b true, .s [3]]):=nZ (c:=[3]) oC;have n2:aE 77 [.agg [.b false, .s [5]]] (.agg [.b true, .s [5]]):=nZ (c:=[5]) oC;have n3:aE 77 [.agg [.b false, .s [1]]] (.agg [.b true, .s [1]]):=nZ (c:=[1]) oC;have hx:=TL;have hb:=WZ;have hp:=U3;have hr:=VB;have hcl:aE 80 [.sl [.s [3], .s [5]]] (.sl [.s [3], .s [5]]):=Aa [[3],[5]] oC;obtain⟨c,n,ch,rs,gs,ls⟩:=r;simp only at hc;subst hc;unfold IT ph nY cq.pv Key.pv nF.pv PV.cells at*;simp only[bV,bj,Jd]at*;refine eW call25 func25 ?_;repeat' first|simp only[go_sem,seval,gg,gi]|(refine bE (h3 _ _ _ oC) (by simp[aB]) ?_)|(refine bE (h5 _ _ _ oC) (by simp[aB]) ?_)|(refine e7 hf (by simp[aW,view,aB,AV.one,PV.one,pk,chunk]) rfl ?_)|refine cP o1 ?_|refine cP om ?_|refine cP l1 ?_|refine cP l2 ?_|refine cP c1 ?_|refine cP c2 ?_|refine cP f1 ?_|refine cP f2 ?_|refine cP f3 ?_|refine cP n1 ?_|refine cP n2 ?_|refine cP n3 ?_|refine cP hx ?_|refine cP hb ?_|refine cV hp ?_|refine cP hr ?_|refine cP hcl ?_|(refine aj ?_)|refine oE ?_|apply xX<;>intro hc
 all_goals rfl
noncomputable def zM (p:cq) (k:Key) (s b A X V:Bytes) (l:List Bytes):Int:=if fa (eQ p) k≠0 then fa (eQ p) k else if !([s,b,A,X,V].all aa&&l.all aa)then 3 else if(iC b V).2≠0 then(iC b V).2 else Cz p k (s::l) A X (iC b V).1
noncomputable def Js (p:cq) (k:Key) (s b A X V:Bytes) (l:List Bytes):PV:=if zM p k s b A X V l=0 then .tup [.sl ((s::l).map .s), .agg [.s A, .s X, .s (iC b V).1],E 0]else .tup [.sl [], .agg [.s [], .s [], .s []],E (zM p k s b A X V l)]
def zw (l:List Bytes) (A X V w:Bytes) (ep:Int):PV:= .agg [.sl (l.map .s), .s A, .s X, .s V, .s w,E ep]
theorem LZ (h:aE 29 [p.pv,k.pv] (E e)):aE 54 [.pt p.pv 0, .pt k.pv 0] (E e):=by
 unfold cq.pv Key.pv at*;refine eW call54 func54 ?_;exact z1 @h
theorem R4 (a:Bytes) (l:List Bytes):(AV.v (.s a)::List.map AV.v (List.flatMap PV.cells (List.map PV.s l)))=aX PV.s (a::l):=by
 unfold aX;rw[oZ];rfl
theorem R5 (a b c d e:Bytes) (l:List Bytes):(AV.v (.s a)::AV.v (.s b)::AV.v (.s c)::AV.v (.s d)::AV.v (.s e)::List.map AV.v (List.flatMap PV.cells (List.map PV.s l)))=aX PV.s (a::b::c::d::e::l):=by
 unfold aX;rw[oZ];rfl
theorem L0 (s b A X V:Bytes) (l:List Bytes) (w:Bytes) (ep:Int) (hl:l.length<1000):aE 55 [.pt (.agg [.s s, .s b]) 0, .pt (.agg [.s A, .s X, .s V]) 0, .pt (zw l A X V w ep) 0] (.b (!([s,b,A,X,V].all aa&&l.all aa))):=by
 have h:=RE (s::b::A::X::V::l) (by simp;omega)
 have he:(s::b::A::X::V::l).all aa=([s,b,A,X,V].all aa&&l.all aa):=by
  simp only[List.all_cons,List.all_nil,gj,Bool.and_assoc]
 rw[he]at h;generalize ([s,b,A,X,V].all aa&&l.all aa)=bb at*;have l1:(l.map PV.s).length=l.length:=aL ..;unfold zw
 by_cases h0:l=[]
 ·subst h0;simp only[bV,bj]at h⊢;refine eW call55 func55 ?_;exact z1 @h
 have hr0:(l.length=0)=False:=by rw[eq_iff_iff,iff_false];intro g;exact h0 (fg.1 g)
 have e5:=R5 s b A X V l;refine eW call55 func55 ?_;refine eC (aN @l1 @hr0) ?_;refine⟨⟨fun x hx=>kq hx,fun y hy=>ow hy,oO,oO⟩,?_⟩
 repeat' first|simp only[go_sem,seval,e5]|(refine Sp (l:=s::b::A::X::V::l) h cT.s rfl rfl (by simp only[List.length_cons];omega) ?_)|refine oE ?_|apply xX<;>intro hc
 all_goals rfl
theorem AY (s:Bytes) (l:List Bytes):List.take (1+l.length) (aX PV.s (s::l))=aX PV.s (s::l):=by
 have h:=cR cT.s (s::l)
 rwa[dK,List.length_cons,gn]at h
theorem EN (s:Bytes) (l:List Bytes) (hf:Nat->Option aH) (k:Nat):Option.map (fun cs=>PV.sl (chunk 1 (1+l.length) cs)) (aW (view hf (k+1)) (aX PV.s (s::l)))=some (.sl (.s s::l.map .s)):=by
 have h:=dj cT.s (s::l);rw[eJ,Option.map_some,gn];exact congrArg (fun x=>some (PV.sl x)) h
theorem EM (s:Bytes) (l:List Bytes):(aX PV.s (s::l)).length=l.length+1:=by rw[cF cT.s,dK];rfl
theorem Ir (l:List Bytes):(1+l.length<=l.length+1)=True:=eq_true oO
theorem L1 (n k nm:Nat) (hne:n≠k) (s b A X V:Bytes):jD prog 57 nm [(n,oV [.s s, .s b] none),(k,oV [.s A, .s X, .s V] (some 62))] [.p n 0 0, .p k 0 0] (.v (E (iC b V).2)) [(k,some (oV [.s A, .s X, .s (iC b V).1] (some 62)))]:=by
 have h:=Fs b V;generalize iC b V=r at*;obtain⟨v,e⟩:=r;simp only at h⊢;refine jD.w mixed call57 func57 rfl (jJ.1 _ _ _ (by cbv)) (jJ.2 _ _ (by cbv)) (obs:=[oV [.s s, .s b] none,oV [.s A, .s X, .s V] (some 62)]) (args:=[.p 0 0 0, .p 1 0 0]) (fs:=[none,some (some (oV [.s A, .s X, .s v] (some 62)))]) (j:=none) (nw:=none) (v:= .v (E e)) (ns:=[n,k]) (obsA:=[oV [.s s, .s b] none,oV [.s A, .s X, .s V] (some 62)]) rfl ?_ (by simp) (by simp[hne]) rfl (by simp[aW,mn]) (by simp[aW,AV.aU,dp,hne,j7 hne]) (by simp[AV.aU]) (by simp[fC,outs,mn,gv])
 repeat' first|simp only[go_sem,seval,true_or,or_true,false_or,or_false,an,iB,eS,gY,ft,fT,eN,pc,pq,gF,ib,dI,aO,AV.aU,AV.aU.renL,aK]|refine cP h ?_|refine oE ?_|apply xX<;>intro hc
 all_goals exact⟨rfl,rfl⟩
abbrev DS (a b c d f:Nat):aH:=⟨0,[.fn (.func 54) [] [.p a 0 0, .p b 0 0], .fn (.func 87) [] [.p f 0 0, .v (.pt (.agg [E 3]) 0)], .fn (.func 57) [] [.p c 0 0, .p d 0 0]],false,none⟩
abbrev DR (c d g:Nat):aH:=⟨0,[.fn (.func 55) [] [.p c 0 0, .p d 0 0, .p g 0 0]],false,none⟩
theorem Jq (h1:aE 29 [p.pv,k.pv] (E e1)) (s b A X V:Bytes) (l:List Bytes) (w:Bytes) (ep:Int) (hl:l.length<1000) (h0:e1=0) (hg:([s,b,A,X,V].all aa&&l.all aa)=true) (nm:Nat):jD prog 27 nm [(1015,DS 1000 1001 1002 1009 1013),(1000,oV [.s p.c, .s p.sl, .s p.mm, .s p.mo, .s p.mg, .s p.mh, .s p.wm, .s p.wo, .s p.wg, .s p.wh, .s p.se, .s p.at', .s p.ha, .s p.el, .s p.es, .s p.bl, .s p.ma] none),(1001,oV [.s k.name, .s k.m, .s k.o, .s k.z, .s k.s, .sl (k.r.map .s), .s k.u, .s k.h] none),(1002,oV [.s s, .s b] none),(1003,oV [.sl (l.map .s), .s A, .s X, .s V, .s w,E ep] none),(1009,oV [.s A, .s X, .s V] (some 62)),(1013,DR 1002 1009 1003)] [.rs 1015 0 0 3 1] (.v (E (iC b V).2)) [(1009,some (oV [.s A, .s X, .s (iC b V).1] (some 62)))]:=by
 have f1:=LZ (p:=p) (k:=k) h1;have f2:=zr (e:=3) (L0 s b A X V l w ep hl);have f3:=fun nm=>L1 3 5 nm oC s b A X V
 rw[hg]at f2;subst h0;generalize iC b V=r at*;obtain⟨v,e⟩:=r;simp only at f3⊢;unfold cq.pv Key.pv zw at*;simp only[cl,bO,ar]at f2;refine jD.w mixed call27 func27 rfl (jJ.1 _ _ _ (by cbv)) (jJ.2 _ _ (by cbv)) (obs:=[DS 1 2 3 5 6,oV [.s p.c, .s p.sl, .s p.mm, .s p.mo, .s p.mg, .s p.mh, .s p.wm, .s p.wo, .s p.wg, .s p.wh, .s p.se, .s p.at', .s p.ha, .s p.el, .s p.es, .s p.bl, .s p.ma] none,oV [.s k.name, .s k.m, .s k.o, .s k.z, .s k.s, .sl (k.r.map .s), .s k.u, .s k.h] none,oV [.s s, .s b] none,oV [.sl (l.map .s), .s A, .s X, .s V, .s w,E ep] none,oV [.s A, .s X, .s V] (some 62),DR 3 5 4]) (args:=[.rs 0 0 0 3 1]) (fs:=[none,none,none,none,none,some (some (oV [.s A, .s X, .s v] (some 62))),none]) (j:=none) (nw:=none) (v:= .v (E e)) (ns:=[1015,1000,1001,1002,1003,1009,1013]) (obsA:=[DS 1000 1001 1002 1009 1013,oV [.s p.c, .s p.sl, .s p.mm, .s p.mo, .s p.mg, .s p.mh, .s p.wm, .s p.wo, .s p.wg, .s p.wh, .s p.se, .s p.at', .s p.ha, .s p.el, .s p.es, .s p.bl, .s p.ma] none,oV [.s k.name, .s k.m, .s k.o, .s k.z, .s k.s, .sl (k.r.map .s), .s k.u, .s k.h] none,oV [.s s, .s b] none,oV [.sl (l.map .s), .s A, .s X, .s V, .s w,E ep] none,oV [.s A, .s X, .s V] (some 62),DR 1002 1009 1003]) rfl ?_ (by simp) (by simp) rfl (by simp[aW,mn,aH.aU,AV.aU,AV.aU.renL,dp]) (by simp[aW,AV.aU,dp]) (by simp[AV.aU]) (by simp[fC,outs,mn,gv])
 repeat' first|simp only[go_sem,seval,true_or,or_true,false_or,or_false,an,iB,eS,gY,ft,fT,eN,pc,pq,gF,ib,dI,aO,AV.aU,AV.aU.renL,aK]|(refine e7 f1 (by simp[aW,view,aB,AV.one,PV.one,pk,chunk]) rfl ?_)|(refine e7 f2 (by simp[aW,view,aB,AV.one,PV.one,pk,chunk]) rfl ?_)|(refine bE (f3 _) (by simp[aB]) ?_)|(refine aj ?_)|refine oE ?_|apply xX<;>intro hc
 all_goals first|exact⟨rfl,rfl,rfl,rfl,rfl⟩|(subst hc;exact⟨rfl,rfl,rfl,rfl,rfl,rfl⟩)
theorem FT (h1:aE 29 [p.pv,k.pv] (E e1)) (s b A X V:Bytes) (l:List Bytes) (w:Bytes) (ep:Int) (hl:l.length<1000) (h0:e1≠0\/([s,b,A,X,V].all aa&&l.all aa)=false) (nm:Nat):jD prog 27 nm [(1015,DS 1000 1001 1002 1009 1013),(1000,oV [.s p.c, .s p.sl, .s p.mm, .s p.mo, .s p.mg, .s p.mh, .s p.wm, .s p.wo, .s p.wg, .s p.wh, .s p.se, .s p.at', .s p.ha, .s p.el, .s p.es, .s p.bl, .s p.ma] none),(1001,oV [.s k.name, .s k.m, .s k.o, .s k.z, .s k.s, .sl (k.r.map .s), .s k.u, .s k.h] none),(1002,oV [.s s, .s b] none),(1003,oV [.sl (l.map .s), .s A, .s X, .s V, .s w,E ep] none),(1009,oV [.s A, .s X, .s V] (some 62)),(1013,DR 1002 1009 1003)] [.rs 1015 0 0 3 1] (.v (E (if e1≠0 then e1 else 3))) []:=by
 have f1:=LZ (p:=p) (k:=k) h1;have f2:=zr (e:=3) (L0 s b A X V l w ep hl);have f3:=fun nm=>L1 3 5 nm oC s b A X V
 clear f3;unfold cq.pv Key.pv zw at*
 by_cases he:e1=0
 ·have hg:=h0.resolve_left (by simpa using he)
  rw[hg]at f2;subst he;simp only[cG,az]at f2;rw[af (by simp)]
  refine jD.w mixed call27 func27 rfl (jJ.1 _ _ _ (by cbv)) (jJ.2 _ _ (by cbv)) (obs:=[DS 1 2 3 5 6,oV [.s p.c, .s p.sl, .s p.mm, .s p.mo, .s p.mg, .s p.mh, .s p.wm, .s p.wo, .s p.wg, .s p.wh, .s p.se, .s p.at', .s p.ha, .s p.el, .s p.es, .s p.bl, .s p.ma] none,oV [.s k.name, .s k.m, .s k.o, .s k.z, .s k.s, .sl (k.r.map .s), .s k.u, .s k.h] none,oV [.s s, .s b] none,oV [.sl (l.map .s), .s A, .s X, .s V, .s w,E ep] none,oV [.s A, .s X, .s V] (some 62),DR 3 5 4]) (args:=[.rs 0 0 0 3 1]) (fs:=[none,none,none,none,none,none,none]) (j:=none) (nw:=none) (v:= .v (E 3)) (ns:=[1015,1000,1001,1002,1003,1009,1013]) (obsA:=[DS 1000 1001 1002 1009 1013,oV [.s p.c, .s p.sl, .s p.mm, .s p.mo, .s p.mg, .s p.mh, .s p.wm, .s p.wo, .s p.wg, .s p.wh, .s p.se, .s p.at', .s p.ha, .s p.el, .s p.es, .s p.bl, .s p.ma] none,oV [.s k.name, .s k.m, .s k.o, .s k.z, .s k.s, .sl (k.r.map .s), .s k.u, .s k.h] none,oV [.s s, .s b] none,oV [.sl (l.map .s), .s A, .s X, .s V, .s w,E ep] none,oV [.s A, .s X, .s V] (some 62),DR 1002 1009 1003]) rfl ?_ (by simp) (by simp) rfl (by simp[aW,mn,aH.aU,AV.aU,AV.aU.renL,dp]) (by simp[aW,AV.aU,dp]) (by simp[AV.aU]) (by simp[fC,outs,mn,gv])
  repeat' first|simp only[go_sem,seval,true_or,or_true,false_or,or_false,an,iB,eS,gY,ft,fT,eN,pc,pq,gF,ib,dI,aO,AV.aU,AV.aU.renL,aK]|(refine e7 f1 (by simp[aW,view,aB,AV.one,PV.one,pk,chunk]) rfl ?_)|(refine e7 f2 (by simp[aW,view,aB,AV.one,PV.one,pk,chunk]) rfl ?_)|(refine aj ?_)|refine oE ?_|apply xX<;>intro hc
  all_goals exact⟨rfl,rfl,rfl,rfl,rfl⟩
 ·rw[ah he];have hb1:(e1==0)=false:=by simpa using he
  have hb2:(e1 !=0)=true:=by simpa using he
  clear f2 h0;refine jD.w mixed call27 func27 rfl (jJ.1 _ _ _ (by cbv)) (jJ.2 _ _ (by cbv)) (obs:=[DS 1 2 3 5 6,oV [.s p.c, .s p.sl, .s p.mm, .s p.mo, .s p.mg, .s p.mh, .s p.wm, .s p.wo, .s p.wg, .s p.wh, .s p.se, .s p.at', .s p.ha, .s p.el, .s p.es, .s p.bl, .s p.ma] none,oV [.s k.name, .s k.m, .s k.o, .s k.z, .s k.s, .sl (k.r.map .s), .s k.u, .s k.h] none,oV [.s s, .s b] none,oV [.sl (l.map .s), .s A, .s X, .s V, .s w,E ep] none,oV [.s A, .s X, .s V] (some 62),DR 3 5 4]) (args:=[.rs 0 0 0 3 1]) (fs:=[none,none,none,none,none,none,none]) (j:=none) (nw:=none) (v:= .v (E e1)) (ns:=[1015,1000,1001,1002,1003,1009,1013]) (obsA:=[DS 1000 1001 1002 1009 1013,oV [.s p.c, .s p.sl, .s p.mm, .s p.mo, .s p.mg, .s p.mh, .s p.wm, .s p.wo, .s p.wg, .s p.wh, .s p.se, .s p.at', .s p.ha, .s p.el, .s p.es, .s p.bl, .s p.ma] none,oV [.s k.name, .s k.m, .s k.o, .s k.z, .s k.s, .sl (k.r.map .s), .s k.u, .s k.h] none,oV [.s s, .s b] none,oV [.sl (l.map .s), .s A, .s X, .s V, .s w,E ep] none,oV [.s A, .s X, .s V] (some 62),DR 1002 1009 1003]) rfl ?_ (by simp) (by simp) rfl (by simp[aW,mn,aH.aU,AV.aU,AV.aU.renL,dp]) (by simp[aW,AV.aU,dp]) (by simp[AV.aU]) (by simp[fC,outs,mn,gv])
  repeat' first|simp only[go_sem,seval,true_or,or_true,false_or,or_false,an,iB,eS,gY,ft,fT,eN,pc,pq,gF,ib,dI,aO,AV.aU,AV.aU.renL,aK,hb1,hb2]|(refine e7 f1 (by simp[aW,view,aB,AV.one,PV.one,pk,chunk]) rfl ?_)|(refine aj ?_)|refine oE ?_|apply xX<;>intro hc
  all_goals exact⟨rfl,rfl,rfl,rfl,rfl⟩
theorem At (hp:p.short) (lm:k.m.length<=8) (ln:k.name.length<=60) (lr:k.r.length<=20) (s b A X V:Bytes) {l:List Bytes} (hl:l.length<1000) (w:Bytes) (ep:Int):aE 14 [p.pv,k.pv, .agg [.s s, .s b],zw l A X V w ep] (Js p k s b A X V l):=by
 have h1:=kN p k _ (lK p hp) lm ln lr;have hw:=fun n1 k1 m1 nm x1 x2 x3=>VT n1 k1 m1 nm x1 x2 x3 55 [.s s, .s b] [.s A, .s X, .s V] (zw l A X V w ep).cells none (some 62) none 3
 have l1:(l.map PV.s).length=l.length:=aL ..;unfold Js
 by_cases hb:fa (eQ p) k≠0\/([s,b,A,X,V].all aa&&l.all aa)=false
 ·have hf:=FT h1 s b A X V l w ep hl hb;have he:zM p k s b A X V l=if fa (eQ p) k≠0 then fa (eQ p) k else 3:=by
   unfold zM
   by_cases h0:fa (eQ p) k≠0
   ·rw[ah h0,ah h0]
   ·rw[af h0,af h0,hb.resolve_left h0];rfl
  have hne:(if fa (eQ p) k≠0 then fa (eQ p) k else 3)≠0:=by
   split
   ·assumption
   ·decide
  rw[he,af hne];have hb2:((if fa (eQ p) k≠0 then fa (eQ p) k else 3) !=0)=true:=by simpa using hne
  generalize (if fa (eQ p) k≠0 then fa (eQ p) k else 3)=e at*
  clear h1 hb;unfold cq.pv Key.pv zw PV.cells at*;simp only[bV,bj]at hw hf;refine eW call14 func14 ?_;repeat' first|simp only[go_sem,seval,hb2]|(refine bE (hw _ _ _ _ oC oC oC) (by simp[aB]) ?_)|(refine bE (hf _) (by simp[aB]) ?_)|refine oE ?_|apply xX<;>intro hc
  all_goals rfl
 have h0:fa (eQ p) k=0:=Classical.byContradiction fun h=>hb (.inl h)
 have hg:([s,b,A,X,V].all aa&&l.all aa)=true:=by
  cases h:([s,b,A,X,V].all aa&&l.all aa)with
  |true=>rfl
  |false=>exact aM (.inr h) hb
 have hf:=Jq h1 s b A X V l w ep hl h0 hg;have hv:=DH hp lm ln lr (s::l) (by simp;omega) A X (iC b V).1
 have he:zM p k s b A X V l=if(iC b V).2≠0 then(iC b V).2 else Cz p k (s::l) A X (iC b V).1:=by
  unfold zM;rw[h0,hg];rfl
 rw[he];clear he;generalize Cz p k (s::l) A X (iC b V).1=ve at*;generalize iC b V=r at*;obtain⟨v,ae⟩:=r;simp only at hf hv⊢;clear h1 hb h0 hg;unfold cq.pv Key.pv zw PV.cells at*;simp only[bV,bj]at hw hf hv⊢
 by_cases ha:ae=0
 case neg=>
  rw[ah ha,af ha];have hb2:(ae !=0)=true:=by simpa using ha
  refine eW call14 func14 ?_;repeat' first|simp only[go_sem,seval,hb2]|(refine bE (hw _ _ _ _ oC oC oC) (by simp[aB]) ?_)|(refine bE (hf _) (by simp[aB]) ?_)|refine oE ?_|apply xX<;>intro hc
  all_goals rfl
 subst ha;rw[show(if(0:Int)≠0 then(0:Int)else ve)=ve from af (by simp)]
 by_cases hl0:l=[]
 ·subst hl0;simp only[bj]at*
  by_cases hve:ve=0
  ·subst hve;rw[ah rfl];refine eW call14 func14 ?_;repeat' first|simp only[go_sem,seval]|(refine bE (hw _ _ _ _ oC oC oC) (by simp[aB]) ?_)|(refine bE (hf _) (by simp[aB]) ?_)|refine cP hv ?_|refine oE ?_|apply xX<;>intro hc
   all_goals rfl
  ·rw[af hve];have hb2:(ve !=0)=true:=by simpa using hve
   refine eW call14 func14 ?_;repeat' first|simp only[go_sem,seval,hb2]|(refine bE (hw _ _ _ _ oC oC oC) (by simp[aB]) ?_)|(refine bE (hf _) (by simp[aB]) ?_)|refine cP hv ?_|refine oE ?_|apply xX<;>intro hc
   all_goals rfl
 have hr0:(l.length=0)=False:=by rw[eq_iff_iff,iff_false];intro g;exact hl0 (fg.1 g)
 have e1:=R4 s l;refine eW call14 func14 ?_;repeat' first|simp only[go_sem,seval,l1,hr0]|(refine bE (hw _ _ _ _ oC oC oC) (by simp[aB]) ?_)|(refine bE (hf _) (by simp[aB]) ?_)|refine oE ?_|apply xX<;>intro hc
 refine⟨⟨fun x hx=>kq hx,fun y hy=>ow hy,oO,oO⟩,?_⟩
 by_cases hve:ve=0
 ·subst hve;rw[ah rfl];have r1:=EM s l;have r2:=AY s l;have r3:=dU cT.s (s::l);have r4:=EN s l;have r5:=Ir l;repeat' first|simp only[go_sem,seval,l1,e1,r1,r2,r3,r4,r5]|(refine Bl (l:=s::l) hv cT.s rfl rfl (by simp only[List.length_cons];omega) (by simp[view,aW,AV.one,PV.one]) (by simp[view,aW,AV.one,PV.one]) (by simp[view,aW,AV.one,PV.one]) ?_)|refine oE ?_|apply xX<;>intro hc
  all_goals rfl
 ·rw[af hve];have hb2:(ve !=0)=true:=by simpa using hve
  repeat' first|simp only[go_sem,seval,l1,e1,hb2]|(refine Bl (l:=s::l) hv cT.s rfl rfl (by simp only[List.length_cons];omega) (by simp[view,aW,AV.one,PV.one]) (by simp[view,aW,AV.one,PV.one]) (by simp[view,aW,AV.one,PV.one]) ?_)|refine oE ?_|apply xX<;>intro hc
  all_goals rfl
theorem sX {α:Type} {l:List α} {n i:Nat} (d:α) (h:i<l.length) (h2:i<n):(l.take n).getD i d=l.getD i d:=by simp[ca,ff,h2]
def k9 (l:List Bytes):Bool:=(l.take 20).all (fun x=>decide (x.length<=16))&&decide (l.length<=10)
theorem uv (l:List Bytes) (h:l.length<4611686018427387904):aE 13 [.sl (l.map .s)] (.b (k9 l)):=by
 have l1:(l.map PV.s).length=l.length:=aL ..;unfold k9;refine eW call13 func13 ?_;refine qY ?_;refine ak (α:=Nat) (fun i=>21-i) (fun i=>⟨[(0, .v (.sl (l.map .s))),(3,E' i)],[],_⟩) (fun i=>i<=l.length/\i<=20/\((l.take 20).drop i).all (fun x=>decide (x.length<=16))=(l.take 20).all fun x=>decide (x.length<=16)) 0 (fun _=>aD _) ⟨aR _,aR _,rfl⟩ ?_ ?_
 ·exact lE
 ·rintro i ⟨hi,h20,hf⟩ R hR;rw[<-hf]
  by_cases hlt:i<l.length/\i<20
  ·obtain⟨hl,hl2⟩:=hlt;have e1:=jm hl;have ht:i<(l.take 20).length:=by rw[cf];omega
   have hgo:=hR (i+1);rw[<-hf]at hgo;rw[bc [] ht,List.all_cons,sX [] hl hl2]at hgo⊢;generalize l.getD i []=x at*;clear hf hR ht
   by_cases ha:x.length<=16
   ·have hgo:=hgo ⟨oO,oO,by simp[ha]⟩ oO
    exact ko (aN @l1 @e1) @hgo
   ·rw[bL ha,db,db];clear hgo;exact gU (aN @l1 @e1)
  ·have hd:(l.take 20).drop i=[]:=iS (by rw[cf];omega)
   rw[hd,List.all_nil,cj];clear hR hf;have hx:decide ((l.length:Int)<=10)=decide (l.length<=10):=by rw[fz];omega
   repeat' first|simp only[go_sem,seval,l1,hx]|refine oE ?_|apply xX<;>intro hc
   all_goals first|rfl|omega
def ya (l:List (Bool×Bytes)):Bool:=(l.take 10).all fun x=>decide (x.2.length<=24)&&decide (l.length<=8)
def y5 (ch:Bytes) (rs:List (Bool×Bytes)) (gs:List Bytes) (ls:List (List (Bool×Bytes))):Bool:=(rs.take 10).all (fun x=>decide (x.2.length<=24))&&((ls.take 10).all ya&&(decide (ch.length<=16)&&(decide (rs.length<=8)&&(decide (ls.length<=8)&&k9 gs))))
theorem Kl (ch:Bytes) (rs:List (Bool×Bytes)) (gs:List Bytes) (ls:List (List (Bool×Bytes))) (h1:rs.length<4611686018427387904) (h2:gs.length<4611686018427387904) (h3:ls.length<4611686018427387904) (h4: ∀l∈ls,l.length<4611686018427387904):aE 62 [uL ch rs gs ls] (.b (y5 ch rs gs ls)):=by
 have hn:=uv gs h2;have l1:(rs.map cU).length=rs.length:=aL ..;have l3:(ls.map qM).length=ls.length:=aL ..;unfold y5 uL;refine eW call62 func62 ?_;refine qY ?_;refine ak (α:=Nat) (fun i=>11-i) (fun i=>⟨[(1, .p 1000 0 0),(3,E' i)],[(1000,⟨0,[.v (.s ch), .v (.sl (rs.map cU)), .v (.sl (gs.map .s)), .v (.sl (ls.map qM))],false,none⟩)],_⟩) (fun i=>i<=rs.length/\i<=10/\((rs.take 10).drop i).all (fun x=>decide (x.2.length<=24))=(rs.take 10).all fun x=>decide (x.2.length<=24)) 0 (fun _=>aD _) ⟨aR _,aR _,rfl⟩ ?_ ?_
 ·exact lE
 ·rintro i ⟨hi,h20,hf⟩ R hR;rw[<-hf]
  by_cases hlt:i<rs.length/\i<10
  ·obtain⟨hl,hl2⟩:=hlt;have e1:=getD_map cU rs fh hl;have ht:i<(rs.take 10).length:=by rw[cf];omega
   have hgo:=hR (i+1);rw[<-hf]at hgo;rw[bc fh ht,List.all_cons,sX fh hl hl2]at hgo⊢;obtain⟨x,hx⟩: ∃x,x=rs.getD i fh:=⟨_,rfl⟩;rw[<-hx]at e1 hgo⊢;clear hx hf hR ht;obtain⟨n,a⟩:=x;simp only[cU]at e1
   by_cases ha:a.length<=24
   ·have hgo:=hgo ⟨oO,oO,by simp[ha]⟩ oO
    exact ko (aN @l1 @e1) @hgo
   ·have hd:decide (a.length<=24)=false:=by simpa using ha
    rw[hd,db,db];clear hgo;exact gU (aN @l1 @e1)
  ·have hd:(rs.take 10).drop i=[]:=iS (by rw[cf];omega)
   rw[hd,List.all_nil,cj];clear hR hf;repeat' first|simp only[go_sem,seval,l1]|refine oE ?_|apply xX<;>intro hc
   all_goals
    refine ak (α:=Nat) (fun i=>11-i) (fun i=>⟨[(1, .p 1000 0 0),(4,E' i)],[(1000,⟨0,[.v (.s ch), .v (.sl (rs.map cU)), .v (.sl (gs.map .s)), .v (.sl (ls.map qM))],false,none⟩)],_⟩) (fun i=>i<=ls.length/\i<=10/\((ls.take 10).drop i).all ya=(ls.take 10).all ya) 0 (fun _=>aD _) ⟨aR _,aR _,rfl⟩ ?_ ?_
    ·exact lE
    ·rintro i ⟨hi,h20,hf⟩ R hR;rw[<-hf]
     by_cases hlt:i<ls.length/\i<10
     ·obtain⟨hl,hl2⟩:=hlt;have e1:=getD_map qM ls ([]:List (Bool×Bytes)) hl;have hll:=h4 _ (aC [] hl);have ht:i<(ls.take 10).length:=by rw[cf];omega
      have hgo:=hR (i+1);rw[<-hf]at hgo;rw[bc [] ht,List.all_cons,sX [] hl hl2]at hgo⊢;generalize ls.getD i []=l at*;have l2:(l.map cU).length=l.length:=aL ..;have e1:(ls.map qM).getD i .fn0= .sl (l.map cU):=e1;clear hf hR ht;refine dY (aN @l1 (aN @l3 @e1)) ?_;refine ak (α:=Nat) (fun k=>11-k) (fun k=>⟨[(1, .p 1000 0 0),(4,E' i),(5,E' k)],[(1000,⟨0,[.v (.s ch), .v (.sl (rs.map cU)), .v (.sl (gs.map .s)), .v (.sl (ls.map qM))],false,none⟩)],_⟩) (fun k=>k<=l.length/\k<=10/\(((l.take 10).drop k).all fun x=>decide (x.2.length<=24)&&decide (l.length<=8))=ya l) 0 (fun _=>aD _) ⟨aR _,aR _,rfl⟩ ?_ ?_
      ·exact lE
      ·rintro k ⟨hk,hk10,hg⟩ R' hR'
       by_cases hkt:k<l.length/\k<10
       ·obtain⟨kl,kl2⟩:=hkt;have e2:=getD_map cU l fh kl;have kt:k<(l.take 10).length:=by rw[cf];omega
        have hgo':=fun h=>hR' (k+1) ⟨oO,oO,h⟩ oO
        rw[bc fh kt,List.all_cons,sX fh kl kl2]at hg;obtain⟨x,hx⟩: ∃x,x=l.getD k fh:=⟨_,rfl⟩;rw[<-hx]at e2 hg;clear hx hR' kt;obtain⟨n,a⟩:=x;simp only[cU]at e2;have d8:decide ((l.length:Int)>8)= !decide (l.length<=8):=by rw[dk];simp;omega
        by_cases ha:a.length<=24
        ·rw[aV ha,cj]at hg
         by_cases h8:l.length<=8
         ·rw[aV h8]at hg d8;rw[cj]at hg;have hgo':=hgo' (by rw[aV h8];exact hg)
          refine eC (aN @l1 (aN @l2 (aN @l3 (aN @e1 (aN @e2 @d8))))) ?_;refine hgo' _ ?_;exact lE
         ·rw[bL h8]at hg d8;rw[db]at hg;rw[<-hg,db,db];clear hgo hgo';exact gU (aN @l1 (aN @l2 (aN @l3 (aN @e1 (aN @e2 @d8)))))
        ·rw[bL ha,db,db]at hg;rw[<-hg,db,db];clear hgo hgo' d8;exact gU (aN @l1 (aN @l2 (aN @l3 (aN @e1 @e2))))
       ·have hd:(l.take 10).drop k=[]:=iS (by rw[cf];omega)
        rw[hd,List.all_nil]at hg;rw[<-hg,cj]at hgo;have hgo:=hgo ⟨oO,oO,rfl⟩ oO;clear hR';repeat' first|simp only[go_sem,seval,l1,l2,l3,e1]|refine oE ?_|apply xX<;>intro hc
        all_goals first|(refine hgo _ ?_;(refine AS.Le.of (by first|decide|omega) ?_ ?_<;>simp[dA,dz,aS,aB,AV.bd,AV.bd.bdL,u8,aq,au,aA]);done)|omega
     ·have hd:(ls.take 10).drop i=[]:=iS (by rw[cf];omega)
      rw[hd,List.all_nil,cj];clear hR hf;generalize k9 gs=bn at*;have x1:decide ((ch.length:Int)<=16)=decide (ch.length<=16):=by rw[fz];omega
      have x2:decide ((rs.length:Int)<=8)=decide (rs.length<=8):=by rw[fz];omega
      have x3:decide ((ls.length:Int)<=8)=decide (ls.length<=8):=by rw[fz];omega
      generalize decide (ch.length<=16)=c1 at*;generalize decide (rs.length<=8)=c2 at*;generalize decide (ls.length<=8)=c3 at*;repeat' first|simp only[go_sem,seval,l1,l3,x1,x2,x3]|refine cP hn ?_|refine oE ?_|apply xX<;>intro hc
      all_goals first|omega|simp_all
