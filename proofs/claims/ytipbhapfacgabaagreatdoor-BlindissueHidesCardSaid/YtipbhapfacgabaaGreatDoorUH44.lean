/- Part of the proof. -/
import Derived.Test.YtipbhapfacgabaaGreatDoorUH43
set_option linter.all false
set_option maxHeartbeats 16000000
set_option maxRecDepth 100000
namespace Go.Proofs.Tryz
open Go Go.Dom Go.Num
variable {k:Key} {p:cz}
structure zU where
 (c n ch:Bytes)
 rs:List (Bool×Bytes)
 gs:List Bytes
 ls:List (List (Bool×Bytes))
def zU.pv (r:zU):PV:= .agg [.s r.c, .s r.n, .s r.ch, .sl (r.rs.map fw), .sl (r.gs.map .s), .sl (r.ls.map Ip)]
def zU.few (r:zU):Prop:=r.rs.length<1000000/\r.gs.length<=1000/\r.ls.length<=1000/\ ∀l∈r.ls,l.length<4611686018427387904
noncomputable def AH (p:cz) (k:Key) (r:zU):Int:=if !aa r.c then 3 else if decide (64<r.n.length)then 5 else if !cL k.m [] r.c then 13 else FJ p.c p.sl (oz k r.n) (fz p k r.c) r.ch r.rs r.gs r.ls
theorem Ul (r:zU):aF 123 [.pt r.pv 0] (.b (!aa r.c)):=by
 have h:=aD r.c;generalize aa r.c=b at*;unfold zU.pv;refine eW call123 func123 ?_;exact z1 @h
theorem Um (r:zU):aF 124 [.pt r.pv 0] (.b (decide (64<r.n.length))):=by
 unfold zU.pv;refine eW call124 func124 ?_;repeat' first|simp only[go_sem,seval]|refine oE ?_|apply xX<;>intro hc
 all_goals (refine congrArg PV.b ?_;rw[jm];omega)
theorem Un (lm:k.m.length<=8) (ho:k.o=[]) (r:zU):aF 125 [.pt k.pv 0, .pt r.pv 0] (.b (!cL k.m [] r.c)):=by
 have h:=zf lm r.c;generalize cL k.m [] r.c=b at*;obtain⟨name,m,o,z,s,l,u,hh⟩:=k;simp only at ho h;subst ho;unfold zU.pv Key.pv;refine eW call125 func125 ?_;exact z1 @h
theorem Uo (hp:p.short) (hpe:fB p=0) (hk:ui k) (lm:k.m.length<=8) (ln:k.name.length<=60) (lr:k.r.length<=20) (h0:0<k.r.length) {r:zU} (hr:r.few) (hn:r.n.length<=64) (hc:cL k.m [] r.c=true):aF 126 [.pt p.pv 0, .pt k.pv 0, .pt r.pv 0] (E (FJ p.c p.sl (oz k r.n) (fz p k r.c) r.ch r.rs r.gs r.ls)):=by
 obtain⟨n1,n2,n3,n4⟩:=hr;have w1:=HL k r.n oO oO;have w2:=HN p k r.c h0 oO;have w3:=MJ (xQ hp hpe hk lm h0 hc) (Ea hp hk lm h0 hc) (by simp[fz]) (ctx:=oz k r.n) (by simp[oz];omega) (ch:=r.ch) (rs:=r.rs) (gs:=r.gs) (ls:=r.ls) n1 n2 n3 n4
 generalize FJ p.c p.sl (oz k r.n) (fz p k r.c) r.ch r.rs r.gs r.ls=e at*;generalize oz k r.n=cx at*;generalize fz p k r.c=S at*;clear hk hc;obtain⟨sg,sv,se⟩:=S;unfold zU.pv Key.pv cz.pv cY.pv Lc at*;refine eW call126 func126 ?_;exact z4 @w1 @w2 @w3 oT
abbrev bkL (p:cz) (k:Key) (r:zU):List (FuncId×List PV):=
 [(86,[.pt (.agg [.fc 123 [] [.pt r.pv 0]]) 0, .pt (.agg [E 3]) 0]),(86,[.pt (.agg [.fc 124 [] [.pt r.pv 0]]) 0, .pt (.agg [E 5]) 0]),(86,[.pt (.agg [.fc 125 [] [.pt k.pv 0, .pt r.pv 0]]) 0, .pt (.agg [E 13]) 0]),(126,[.pt p.pv 0, .pt k.pv 0, .pt r.pv 0])]
theorem JC (hp:p.short) (hpe:fB p=0) (hk:ui k) (lm:k.m.length<=8) (ln:k.name.length<=60) (lr:k.r.length<=20) (h0:0<k.r.length) {r:zU} (hr:r.few):aF 62 [p.pv,k.pv,r.pv] (E (AH p k r)):=by
 have hf:aF 30 [.sl ((bkL p k r).map Mu)] (E (AH p k r)):=by
  refine uq _ (by simp) ?_
  unfold AH;refine mR (Ul r) oC (fun _=> ?_) rfl
  refine mR (Um r) oC (fun hn=> ?_) rfl
  refine mR (Un lm hk.o r) oC (fun hc=> ?_) rfl
  exact⟨_,Uo hp hpe hk lm ln lr h0 hr (by simpa using hn) (by simpa using hc),fun _=>rfl,fun h=>h⟩
 have h1:=fun n1 nm=>Ht n1 nm 123 r.pv.cells none 3
 have h2:=fun n1 nm=>Ht n1 nm 124 r.pv.cells none 5
 have h3:=fun n1 k1 nm h=>zR n1 k1 nm h 125 k.pv.cells r.pv.cells none none 13
 generalize AH p k r=e at*;simp only[bkL,br,bH,Mu]at hf;unfold zU.pv Key.pv cz.pv PV.cells at*;simp only[br,bH]at h1 h2 h3;refine eW call62 func62 ?_;repeat' first|simp only[go_sem,seval]|(refine aW (h1 _ _) (by simp[hget]) ?_)|(refine aW (h2 _ _) (by simp[hget]) ?_)|(refine aW (h3 _ _ _ oC) (by simp[hget]) ?_)|(refine gp hf (by simp[aU,view,hget,AV.one,PV.one,pU,chunk]) rfl ?_)|refine oE ?_|apply xX<;>intro hc
 all_goals rfl
def pG:cz:=⟨[2],[100],[107],[53],[4],[16],[77],[],[4],[9],[9],[6],[9],[3],[10],[2],[15]⟩
def oh:Key:=⟨[105,115,115,117,101,114],[77],[],[15],[4],[[64],[23],[1]],[4],[16]⟩
theorem Av:pG.short:=by unfold cz.short;decide
theorem HG:fB pG=0:=by decide+kernel
theorem HE:fK (fB pG) oh=0:=by rw[HG];decide+kernel
theorem St:ui oh:=(mU HE).2
theorem Zs:aF 32 [pG.pv,oh.pv] (E 0):=by
 have h:=mT pG oh _ (nV pG Av) oC oC oC
 rwa[HE]at h
theorem UF:aF 58 [pG.pv,oh.pv,G [7] [11]] (E 0):=by
 have h:=Pl pG oh [7] [11] 0 Zs oC oC
 rwa[show MO 0 oh [7] [11]=0 by decide+kernel]at h
theorem JN (vs:List Bytes) (sd:Bytes) (a:Int) (hl:vs.length<1000000):aF 129 [T vs sd a] (.b (fA vs a)):=by
 have h:=pP vs hl;unfold fA;rw[jD,wT];generalize vs.all aa=b at*;cases b
 ·refine eW call129 func129 ?_;repeat' first|simp only[go_sem,seval]|refine cP h ?_|refine oE ?_|apply xX<;>intro hc
  all_goals first|(simp_all;done)|(simp_all;omega)
 ·refine eW call129 func129 ?_;repeat' first|simp only[go_sem,seval]|refine cP h ?_|refine oE ?_|apply xX<;>intro hc
  all_goals first|(simp_all;done)|(simp_all;omega)
abbrev Js (i:Int):PV:=T [[4],[1]] [] i
theorem Xo:aF 40 [Js 0, .s [10]] (.tup [.s [4],Js 1,E 0]):=nI (vs:=[[4],[1]]) (sd:=[]) (i:=0) (n:=[10]) oC oC oC oC oC oC
theorem Xp:aF 40 [Js 1, .s [2]] (.tup [.s [1],Js 2,E 0]):=nI (vs:=[[4],[1]]) (sd:=[]) (i:=1) (n:=[2]) oC oC oC oC oC oC
theorem SY:aF 130 [G [7] [11]] (.tup [.s [15],E 0]):=LB (p:=[7]) (q:=[11]) oC oC oC oC oC oC (by decide+kernel)
theorem UC:aF 67 [pG.pv,G [7] [11],Js 0] (.tup [.s [7],Js 1,E 0]):=by
 have h1:=nV pG Av;rw[HG]at h1;have h2:=JN [[4],[1]] [] 0 oC;rw[show fA [[4],[1]] 0=true by decide]at h2
 have h3:=SY;have h4:=Xo;have h5:=FX [3] [4];rw[show l8 [3] [4]=([7],0) by decide+kernel]at h5
 have h6:=qm [7];rw[show(aa [7]&&decide (([7]:Bytes).length<=8)&&eZ (num [7]))=true by decide+kernel,show dK [7]=0 by decide+kernel]at h6
 have h7:aF 132 [.s [15], .s [7]] (.tup [.s [2], .s [1],E 0]):=jC (a:=15) (b:=7) oC oC oC;unfold pG cz.pv Js at*;simp only[br,bH]at*;have b1:(([1]:Bytes)==[])=false:=rfl;refine eW call67 func67 ?_;repeat' first|simp only[go_sem,seval,b1]|refine cP h1 ?_|refine cP h2 ?_|refine cP h3 ?_|refine cP h4 ?_|refine cP h5 ?_|refine cP h6 ?_|refine cP h7 ?_|(refine aj ?_)|refine oE ?_|apply xX<;>intro hc
 all_goals rfl
theorem XP:aF 137 [.s [4], .agg [.b false, .s [13]], .s [77]] (.tup [.s [53],E 0]):=by
 have v1:=aD [13];rw[show aa [13]=true by decide]at v1
 have hc:=fun nm=>Gg nm [4] [77]
 rw[show ux [[4]] [77]=0 by decide+kernel]at hc
 have he:aF 224 [.s [4], .s [13], .s [77]] (.tup [.s [53],E 0]):=by
  have h:=Tr (a:=4) (e:=[13]) (m:=77) oC oC oC oC
  rwa[show 4^num [13]%77=53 by decide+kernel]at h
 refine eW call137 func137 ?_;repeat' first|simp only[go_sem,seval]|refine cP v1 ?_|(refine aW (hc _) (by simp) ?_)|refine cP he ?_|refine oE ?_|apply xX<;>intro hc
 all_goals rfl
theorem V2:aF 68 [G [77] [],G [7] [11], .s [4], .s [7]] (.tup [.s [53],E 0]):=by
 have v1:=aD [4];have v2:=aD [7];rw[show aa [4]=true by decide]at v1
 rw[show aa [7]=true by decide]at v2
 have h1:=rp (m:=[77]) oC [] [7] [11] [4];have e0:DQ [77] [] [7] [11] [4]=0:=by decide+kernel
 rw[e0]at h1;have h2:=uW (Zw e0).2.1 (x:=[4]) oC oC;rw[show RZ [7] [11] [4]=true by decide+kernel]at h2
 have h3:=SY;have h4:aF 135 [.s [7], .s [15]] (.tup [.s [1],E 0]):=WN (a:=7) (b:=15) oC oC;have h5:aF 93 [.s [7], .s [15]] (.tup [.s [13],E 0]):=by
  have h:=qZ (a:=7) (m:=15) oC oC oC oC
  rwa[iR (i:=13) oC oC]at h
 have h6:aF 41 [.s [13]] (.agg [.b false, .s [13]]):=mJ oC;have h7:=XP;have h8:aF 136 [] (.s [1]):=wL;refine eW call68 func68 ?_;repeat' first|simp only[go_sem,seval]|refine cP v1 ?_|refine cP v2 ?_|refine cP h1 ?_|refine cP h2 ?_|refine cP h3 ?_|refine cP h4 ?_|refine cP h8 ?_|refine cP h5 ?_|refine cP h6 ?_|refine cP h7 ?_|refine oE ?_|apply xX<;>intro hc
 all_goals first|rfl|exact aJ hc oC
theorem SE (l:List Bytes) (hl:l.length<1000000):aF 60 [.sl (l.map .s)] (.b (l.all aa)):=by
 have h1: ∀x,aF 122 [.s x] (.b (!aa x)):=fun x=>by
  have hv:=aD x;refine eW call122 func122 ?_;exact z1 @hv
 have h:=iy l _ (fun x=> !aa x) oO h1
 rw[jD]at h;generalize l.all aa=b at*;refine eW call60 func60 ?_;repeat' first|simp only[go_sem,seval]|refine cP h ?_|refine oE ?_|apply xX<;>intro hc
 all_goals (cases b<;>rfl)
theorem AB (p:cz) (i:Int):aF 65 [p.pv,E i] (.s (if i=1 then p.ha else p.at')):=by
 unfold cz.pv
 by_cases h:i=1
 ·subst h;refine eW call65 func65 ?_;exact z0
 ·rw[af h];have hb:(i==1)=false:=by simpa using h
  refine eW call65 func65 ?_;exact oo @hb
theorem WR:aF 64 [E (-1)] (.agg [.b true, .s [1]]):=by
 have hm:=wF true [1];refine eW call64 func64 ?_;exact z2 @xI @hm
abbrev DT:PV:= .sl [.s [3], .s [5]]
theorem UM:aF 57 [.pt pG.pv 0, .pt oh.pv 0, .pt (G [7] [11]) 0] (E 0):=by
 have h:=UF;unfold cz.pv Key.pv at*;refine eW call57 func57 ?_;exact z1 @h
theorem UN:aF 59 [.pt (.agg [DT]) 0, .pt (Js 0) 0] (.b false):=by
 have h1:=SE [[3],[5]] oC;have h2:=Eb [[4],[1]] [] 0 oC;rw[show([[3],[5]]:List Bytes).all aa=true by decide]at h1
 rw[show fA [[4],[1]] 0=true by decide]at h2
 simp only[br,bH]at h1 h2;refine eW call59 func59 ?_;exact z2 @h1 @h2
theorem UO {r:zU} (h:aF 62 [pG.pv,oh.pv,r.pv] (E 0)):aF 61 [.pt pG.pv 0, .pt oh.pv 0, .pt r.pv 0] (E 0):=by
 unfold cz.pv Key.pv zU.pv at*;refine eW call61 func61 ?_;exact z1 @h
theorem UQ:aF 63 [.pt (.agg [DT]) 0, .pt oh.pv 0] (.b false):=by
 unfold oh Key.pv;refine eW call63 func63 ?_;exact z0
theorem VE:aF 42 [G [77] [], .sl [.s [15], .s [25], .s [23], .s [1], .s [4]], .sl [.agg [.b false, .s [1]], .agg [.b true, .s [1]], .agg [.b true, .s [3]], .agg [.b true, .s [5]], .agg [.b true, .s [1]]]] (.tup [.s [4],E 0]):=by
 have hE:gE [77] []=0:=by decide+kernel
 have hG: ∀x∈[15,25,23,1,4],GP [77] [] x:=fun x hx=>by
  simp only[bV,iu,or_false]at hx;rcases hx with rfl|rfl|rfl|rfl|rfl<;>exact⟨by decide,by decide, .inl rfl⟩
 have h:=sD (m:=[77]) oC (o:=[]) oC hE (xs:=[15,25,23,1,4]) (es:=[(false,[1]),(true,[1]),(true,[3]),(true,[5]),(true,[1])]) hG oC rfl oC;have hv:CC (num [77]) ([15,25,23,1,4].zip [(false,([1]:Bytes)),(true,[1]),(true,[3]),(true,[5]),(true,[1])])=4:=by
  unfold CC;simp only[List.zip_cons_cons,List.zip_nil_left,br,bH,Ml,aA,bQ,ak];rw[iR (a:=25) (m:=num [77]) (i:=37) oC oC,iR (a:=23) (m:=num [77]) (i:=67) oC oC,iR (a:=1) (m:=num [77]) (i:=1) oC oC,iR (a:=4) (m:=num [77]) (i:=58) oC oC];decide+kernel
 rw[hv]at h;exact h
theorem QS {r:zU} (hc:r.c=[25]) (hk:aF 62 [pG.pv,oh.pv,r.pv] (E 0)):aF 20 [pG.pv,oh.pv,G [7] [11],r.pv,DT,Js 0] (.tup [.agg [DT, .s [53], .s [7], .s [1], .s [],E 0],Js 2,E 0]):=by
 have hf:aF 30 [.sl (([(57,[.pt pG.pv 0, .pt oh.pv 0, .pt (G [7] [11]) 0]),(86,[.pt (.agg [.fc 59 [] [.pt (.agg [DT]) 0, .pt (Js 0) 0]]) 0, .pt (.agg [E 3]) 0]),(61,[.pt pG.pv 0, .pt oh.pv 0, .pt r.pv 0]),(86,[.pt (.agg [.fc 63 [] [.pt (.agg [DT]) 0, .pt oh.pv 0]]) 0, .pt (.agg [E 6]) 0])]:List (FuncId×List PV)).map Mu)] (E 0):=
  uq _ (by simp) (Cc UM (mR UN oC (fun _=>Cc (UO hk) (mR UQ oC (fun _=>rfl) rfl)) rfl))
 have h3:=fun n1 k1 nm h=>zR n1 k1 nm h 59 [DT] [.sl [.s [4], .s [1]], .s [], .i .i64 0] none none 3
 have h5:=fun n1 k1 nm h=>zR n1 k1 nm h 63 [DT] oh.pv.cells none none 6
 have o1:=TD;have om:=WR;have l1:=AB pG 1;have l2:=AB pG 2;have c1:=jZ (x:=[3]) (y:=[9]) oC oC;have c2:=jZ (x:=[5]) (y:=[6]) oC oC;rw[show bK (num [3]) (num [9])= -1 from rfl]at c1
 rw[show bK (num [5]) (num [6])= -1 from rfl]at c2
 have f1:=mJ (a:=[3]) oC;have f2:=mJ (a:=[5]) oC;have f3:=mJ (a:=[1]) oC;have n1:aF 66 [.agg [.b false, .s [3]]] (.agg [.b true, .s [3]]):=ou (c:=[3]) oC;have n2:aF 66 [.agg [.b false, .s [5]]] (.agg [.b true, .s [5]]):=ou (c:=[5]) oC;have n3:aF 66 [.agg [.b false, .s [1]]] (.agg [.b true, .s [1]]):=ou (c:=[1]) oC;have hx:=UC;have hb:=Xp;have hp:=VE;have hr:=V2;have hcl:aF 69 [.sl [.s [3], .s [5]]] (.sl [.s [3], .s [5]]):=Aq [[3],[5]] oC;obtain⟨c,n,ch,rs,gs,ls⟩:=r;simp only at hc;subst hc;unfold Js pG oh cz.pv Key.pv zU.pv PV.cells at*;simp only[br,bH,Mu]at*;refine eW call20 func20 ?_;repeat' first|simp only[go_sem,seval,iq,iW]|(refine aW (h3 _ _ _ oC) (by simp[hget]) ?_)|(refine aW (h5 _ _ _ oC) (by simp[hget]) ?_)|(refine gp hf (by simp[aU,view,hget,AV.one,PV.one,pU,chunk]) rfl ?_)|refine cP o1 ?_|refine cP om ?_|refine cP l1 ?_|refine cP l2 ?_|refine cP c1 ?_|refine cP c2 ?_|refine cP f1 ?_|refine cP f2 ?_|refine cP f3 ?_|refine cP n1 ?_|refine cP n2 ?_|refine cP n3 ?_|refine cP hx ?_|refine cP hb ?_|refine cV hp ?_|refine cP hr ?_|refine cP hcl ?_|(refine aj ?_)|refine oE ?_|apply xX<;>intro hc
 all_goals rfl
noncomputable def Et (p:cz) (k:Key) (s b A X V:Bytes) (l:List Bytes):Int:=if fK (fB p) k≠0 then fK (fB p) k else if !([s,b,A,X,V].all aa&&l.all aa)then 3 else if(l8 b V).2≠0 then(l8 b V).2 else Ll p k (s::l) A X (l8 b V).1
noncomputable def UE (p:cz) (k:Key) (s b A X V:Bytes) (l:List Bytes):PV:=if Et p k s b A X V l=0 then .tup [.sl ((s::l).map .s), .agg [.s A, .s X, .s (l8 b V).1],E 0]else .tup [.sl [], .agg [.s [], .s [], .s []],E (Et p k s b A X V l)]
def Py (l:List Bytes) (A X V w:Bytes) (ep:Int):PV:= .agg [.sl (l.map .s), .s A, .s X, .s V, .s w,E ep]
theorem MQ {e:Int} (h:aF 32 [p.pv,k.pv] (E e)):aF 70 [.pt p.pv 0, .pt k.pv 0] (E e):=by
 unfold cz.pv Key.pv at*;refine eW call70 func70 ?_;exact z1 @h
theorem X7 (a:Bytes) (l:List Bytes):(AV.v (.s a)::List.map AV.v (List.flatMap PV.cells (List.map PV.s l)))=bI PV.s (a::l):=by
 unfold bI;rw[qt];rfl
theorem X8 (a b c d e:Bytes) (l:List Bytes):(AV.v (.s a)::AV.v (.s b)::AV.v (.s c)::AV.v (.s d)::AV.v (.s e)::List.map AV.v (List.flatMap PV.cells (List.map PV.s l)))=bI PV.s (a::b::c::d::e::l):=by
 unfold bI;rw[qt];rfl
theorem MS (s b A X V:Bytes) (l:List Bytes) (w:Bytes) (ep:Int) (hl:l.length<1000):aF 71 [.pt (.agg [.s s, .s b]) 0, .pt (.agg [.s A, .s X, .s V]) 0, .pt (Py l A X V w ep) 0] (.b (!([s,b,A,X,V].all aa&&l.all aa))):=by
 have h:=SE (s::b::A::X::V::l) (by simp;omega)
 have he:(s::b::A::X::V::l).all aa=([s,b,A,X,V].all aa&&l.all aa):=by
  simp only[List.all_cons,List.all_nil,js,Bool.and_assoc]
 rw[he]at h;generalize ([s,b,A,X,V].all aa&&l.all aa)=bb at*;have l1:(l.map PV.s).length=l.length:=aR ..;unfold Py
 by_cases h0:l=[]
 ·subst h0;simp only[br,bH]at h⊢;refine eW call71 func71 ?_;exact z1 @h
 have hr0:(l.length=0)=False:=by rw[eq_iff_iff,iff_false];intro g;exact h0 (iZ.1 g)
 have e5:=X8 s b A X V l;refine eW call71 func71 ?_;refine eJ (aN @l1 @hr0) ?_;refine⟨⟨fun x hx=>mO hx,fun y hy=>rE hy,oO,oO⟩,?_⟩
 repeat' first|simp only[go_sem,seval,e5]|(refine Tk (l:=s::b::A::X::V::l) h dq.s rfl rfl (by simp only[List.length_cons];omega) ?_)|refine oE ?_|apply xX<;>intro hc
 all_goals rfl
theorem KT (s:Bytes) (l:List Bytes):List.take (1+l.length) (bI PV.s (s::l))=bI PV.s (s::l):=by
 have h:=eD dq.s (s::l)
 rwa[eH,List.length_cons,gJ]at h
theorem Ol (s:Bytes) (l:List Bytes) (hf:Nat->Option aC) (k:Nat):Option.map (fun cs=>PV.sl (chunk 1 (1+l.length) cs)) (aU (view hf (k+1)) (bI PV.s (s::l)))=some (.sl (.s s::l.map .s)):=by
 have h:=eC dq.s (s::l);rw[gI,Option.map_some,gJ];exact congrArg (fun x=>some (PV.sl x)) h
theorem Ok (s:Bytes) (l:List Bytes):(bI PV.s (s::l)).length=l.length+1:=by rw[dw dq.s,eH];rfl
theorem RM (l:List Bytes):(1+l.length<=l.length+1)=True:=eq_true oO
theorem MT (n k nm:Nat) (hne:n≠k) (s b A X V:Bytes):jU prog 72 nm [(n,oV [.s s, .s b] none),(k,oV [.s A, .s X, .s V] (some 71))] [.p n 0 0, .p k 0 0] (.v (E (l8 b V).2)) [(k,some (oV [.s A, .s X, .s (l8 b V).1] (some 71)))]:=by
 have h:=FX b V;generalize l8 b V=r at*;obtain⟨v,e⟩:=r;simp only at h⊢;refine jU.w mixed call72 func72 rfl (j5.1 _ _ _ (by cbv)) (j5.2 _ _ (by cbv)) (obs:=[oV [.s s, .s b] none,oV [.s A, .s X, .s V] (some 71)]) (args:=[.p 0 0 0, .p 1 0 0]) (fs:=[none,some (some (oV [.s A, .s X, .s v] (some 71)))]) (j:=none) (nw:=none) (v:= .v (E e)) (ns:=[n,k]) (obsA:=[oV [.s s, .s b] none,oV [.s A, .s X, .s V] (some 71)]) rfl ?_ (by simp) (by simp[hne]) rfl (by simp[aU,mC]) (by simp[aU,AV.ren,cT,hne,kA hne]) (by simp[AV.ren]) (by simp[fT,outs,mC,gO])
 repeat' first|simp only[go_sem,seval,true_or,or_true,false_or,or_false,ai,iU,e7,iA,fN,gn,eN,pz,pI,gU,iF,dr,aK,AV.ren,AV.ren.renL,aI]|refine cP h ?_|refine oE ?_|apply xX<;>intro hc
 all_goals exact⟨rfl,rfl⟩
abbrev Es (a b c d f:Nat):aC:=⟨0,[.fn (.func 70) [] [.p a 0 0, .p b 0 0], .fn (.func 86) [] [.p f 0 0, .v (.pt (.agg [E 3]) 0)], .fn (.func 72) [] [.p c 0 0, .p d 0 0]],false,none⟩
abbrev Er (c d g:Nat):aC:=⟨0,[.fn (.func 71) [] [.p c 0 0, .p d 0 0, .p g 0 0]],false,none⟩
theorem J0 {e1:Int} (h1:aF 32 [p.pv,k.pv] (E e1)) (s b A X V:Bytes) (l:List Bytes) (w:Bytes) (ep:Int) (hl:l.length<1000) (h0:e1=0) (hg:([s,b,A,X,V].all aa&&l.all aa)=true) (nm:Nat):jU prog 30 nm [(1015,Es 1000 1001 1002 1009 1013),(1000,oV [.s p.c, .s p.sl, .s p.mm, .s p.mo, .s p.mg, .s p.mh, .s p.wm, .s p.wo, .s p.wg, .s p.wh, .s p.se, .s p.at', .s p.ha, .s p.el, .s p.es, .s p.bl, .s p.ma] none),(1001,oV [.s k.name, .s k.m, .s k.o, .s k.z, .s k.s, .sl (k.r.map .s), .s k.u, .s k.h] none),(1002,oV [.s s, .s b] none),(1003,oV [.sl (l.map .s), .s A, .s X, .s V, .s w,E ep] none),(1009,oV [.s A, .s X, .s V] (some 71)),(1013,Er 1002 1009 1003)] [.rs 1015 0 0 3 1] (.v (E (l8 b V).2)) [(1009,some (oV [.s A, .s X, .s (l8 b V).1] (some 71)))]:=by
 have f1:=MQ (p:=p) (k:=k) h1;have f2:=zQ (e:=3) (MS s b A X V l w ep hl);have f3:=fun nm=>MT 3 5 nm oC s b A X V
 rw[hg]at f2;subst h0;generalize l8 b V=r at*;obtain⟨v,e⟩:=r;simp only at f3⊢;unfold cz.pv Key.pv Py at*;simp only[cQ,bQ,ak]at f2;refine jU.w mixed call30 func30 rfl (j5.1 _ _ _ (by cbv)) (j5.2 _ _ (by cbv)) (obs:=[Es 1 2 3 5 6,oV [.s p.c, .s p.sl, .s p.mm, .s p.mo, .s p.mg, .s p.mh, .s p.wm, .s p.wo, .s p.wg, .s p.wh, .s p.se, .s p.at', .s p.ha, .s p.el, .s p.es, .s p.bl, .s p.ma] none,oV [.s k.name, .s k.m, .s k.o, .s k.z, .s k.s, .sl (k.r.map .s), .s k.u, .s k.h] none,oV [.s s, .s b] none,oV [.sl (l.map .s), .s A, .s X, .s V, .s w,E ep] none,oV [.s A, .s X, .s V] (some 71),Er 3 5 4]) (args:=[.rs 0 0 0 3 1]) (fs:=[none,none,none,none,none,some (some (oV [.s A, .s X, .s v] (some 71))),none]) (j:=none) (nw:=none) (v:= .v (E e)) (ns:=[1015,1000,1001,1002,1003,1009,1013]) (obsA:=[Es 1000 1001 1002 1009 1013,oV [.s p.c, .s p.sl, .s p.mm, .s p.mo, .s p.mg, .s p.mh, .s p.wm, .s p.wo, .s p.wg, .s p.wh, .s p.se, .s p.at', .s p.ha, .s p.el, .s p.es, .s p.bl, .s p.ma] none,oV [.s k.name, .s k.m, .s k.o, .s k.z, .s k.s, .sl (k.r.map .s), .s k.u, .s k.h] none,oV [.s s, .s b] none,oV [.sl (l.map .s), .s A, .s X, .s V, .s w,E ep] none,oV [.s A, .s X, .s V] (some 71),Er 1002 1009 1003]) rfl ?_ (by simp) (by simp) rfl (by simp[aU,mC,aC.ren,AV.ren,AV.ren.renL,cT]) (by simp[aU,AV.ren,cT]) (by simp[AV.ren]) (by simp[fT,outs,mC,gO])
 repeat' first|simp only[go_sem,seval,true_or,or_true,false_or,or_false,ai,iU,e7,iA,fN,gn,eN,pz,pI,gU,iF,dr,aK,AV.ren,AV.ren.renL,aI]|(refine gp f1 (by simp[aU,view,hget,AV.one,PV.one,pU,chunk]) rfl ?_)|(refine gp f2 (by simp[aU,view,hget,AV.one,PV.one,pU,chunk]) rfl ?_)|(refine aW (f3 _) (by simp[hget]) ?_)|(refine aj ?_)|refine oE ?_|apply xX<;>intro hc
 all_goals first|exact⟨rfl,rfl,rfl,rfl,rfl⟩|(subst hc;exact⟨rfl,rfl,rfl,rfl,rfl,rfl⟩)
theorem Gp {e1:Int} (h1:aF 32 [p.pv,k.pv] (E e1)) (s b A X V:Bytes) (l:List Bytes) (w:Bytes) (ep:Int) (hl:l.length<1000) (h0:e1≠0\/([s,b,A,X,V].all aa&&l.all aa)=false) (nm:Nat):jU prog 30 nm [(1015,Es 1000 1001 1002 1009 1013),(1000,oV [.s p.c, .s p.sl, .s p.mm, .s p.mo, .s p.mg, .s p.mh, .s p.wm, .s p.wo, .s p.wg, .s p.wh, .s p.se, .s p.at', .s p.ha, .s p.el, .s p.es, .s p.bl, .s p.ma] none),(1001,oV [.s k.name, .s k.m, .s k.o, .s k.z, .s k.s, .sl (k.r.map .s), .s k.u, .s k.h] none),(1002,oV [.s s, .s b] none),(1003,oV [.sl (l.map .s), .s A, .s X, .s V, .s w,E ep] none),(1009,oV [.s A, .s X, .s V] (some 71)),(1013,Er 1002 1009 1003)] [.rs 1015 0 0 3 1] (.v (E (if e1≠0 then e1 else 3))) []:=by
 have f1:=MQ (p:=p) (k:=k) h1;have f2:=zQ (e:=3) (MS s b A X V l w ep hl);have f3:=fun nm=>MT 3 5 nm oC s b A X V
 clear f3;unfold cz.pv Key.pv Py at*
 by_cases he:e1=0
 ·have hg:=h0.resolve_left (by simpa using he)
  rw[hg]at f2;subst he;simp only[db,aA]at f2;rw[af (by simp)]
  refine jU.w mixed call30 func30 rfl (j5.1 _ _ _ (by cbv)) (j5.2 _ _ (by cbv)) (obs:=[Es 1 2 3 5 6,oV [.s p.c, .s p.sl, .s p.mm, .s p.mo, .s p.mg, .s p.mh, .s p.wm, .s p.wo, .s p.wg, .s p.wh, .s p.se, .s p.at', .s p.ha, .s p.el, .s p.es, .s p.bl, .s p.ma] none,oV [.s k.name, .s k.m, .s k.o, .s k.z, .s k.s, .sl (k.r.map .s), .s k.u, .s k.h] none,oV [.s s, .s b] none,oV [.sl (l.map .s), .s A, .s X, .s V, .s w,E ep] none,oV [.s A, .s X, .s V] (some 71),Er 3 5 4]) (args:=[.rs 0 0 0 3 1]) (fs:=[none,none,none,none,none,none,none]) (j:=none) (nw:=none) (v:= .v (E 3)) (ns:=[1015,1000,1001,1002,1003,1009,1013]) (obsA:=[Es 1000 1001 1002 1009 1013,oV [.s p.c, .s p.sl, .s p.mm, .s p.mo, .s p.mg, .s p.mh, .s p.wm, .s p.wo, .s p.wg, .s p.wh, .s p.se, .s p.at', .s p.ha, .s p.el, .s p.es, .s p.bl, .s p.ma] none,oV [.s k.name, .s k.m, .s k.o, .s k.z, .s k.s, .sl (k.r.map .s), .s k.u, .s k.h] none,oV [.s s, .s b] none,oV [.sl (l.map .s), .s A, .s X, .s V, .s w,E ep] none,oV [.s A, .s X, .s V] (some 71),Er 1002 1009 1003]) rfl ?_ (by simp) (by simp) rfl (by simp[aU,mC,aC.ren,AV.ren,AV.ren.renL,cT]) (by simp[aU,AV.ren,cT]) (by simp[AV.ren]) (by simp[fT,outs,mC,gO])
  repeat' first|simp only[go_sem,seval,true_or,or_true,false_or,or_false,ai,iU,e7,iA,fN,gn,eN,pz,pI,gU,iF,dr,aK,AV.ren,AV.ren.renL,aI]|(refine gp f1 (by simp[aU,view,hget,AV.one,PV.one,pU,chunk]) rfl ?_)|(refine gp f2 (by simp[aU,view,hget,AV.one,PV.one,pU,chunk]) rfl ?_)|(refine aj ?_)|refine oE ?_|apply xX<;>intro hc
  all_goals exact⟨rfl,rfl,rfl,rfl,rfl⟩
 ·rw[ah he];have hb1:(e1==0)=false:=by simpa using he
  have hb2:(e1 !=0)=true:=by simpa using he
  clear f2 h0;refine jU.w mixed call30 func30 rfl (j5.1 _ _ _ (by cbv)) (j5.2 _ _ (by cbv)) (obs:=[Es 1 2 3 5 6,oV [.s p.c, .s p.sl, .s p.mm, .s p.mo, .s p.mg, .s p.mh, .s p.wm, .s p.wo, .s p.wg, .s p.wh, .s p.se, .s p.at', .s p.ha, .s p.el, .s p.es, .s p.bl, .s p.ma] none,oV [.s k.name, .s k.m, .s k.o, .s k.z, .s k.s, .sl (k.r.map .s), .s k.u, .s k.h] none,oV [.s s, .s b] none,oV [.sl (l.map .s), .s A, .s X, .s V, .s w,E ep] none,oV [.s A, .s X, .s V] (some 71),Er 3 5 4]) (args:=[.rs 0 0 0 3 1]) (fs:=[none,none,none,none,none,none,none]) (j:=none) (nw:=none) (v:= .v (E e1)) (ns:=[1015,1000,1001,1002,1003,1009,1013]) (obsA:=[Es 1000 1001 1002 1009 1013,oV [.s p.c, .s p.sl, .s p.mm, .s p.mo, .s p.mg, .s p.mh, .s p.wm, .s p.wo, .s p.wg, .s p.wh, .s p.se, .s p.at', .s p.ha, .s p.el, .s p.es, .s p.bl, .s p.ma] none,oV [.s k.name, .s k.m, .s k.o, .s k.z, .s k.s, .sl (k.r.map .s), .s k.u, .s k.h] none,oV [.s s, .s b] none,oV [.sl (l.map .s), .s A, .s X, .s V, .s w,E ep] none,oV [.s A, .s X, .s V] (some 71),Er 1002 1009 1003]) rfl ?_ (by simp) (by simp) rfl (by simp[aU,mC,aC.ren,AV.ren,AV.ren.renL,cT]) (by simp[aU,AV.ren,cT]) (by simp[AV.ren]) (by simp[fT,outs,mC,gO])
  repeat' first|simp only[go_sem,seval,true_or,or_true,false_or,or_false,ai,iU,e7,iA,fN,gn,eN,pz,pI,gU,iF,dr,aK,AV.ren,AV.ren.renL,aI,hb1,hb2]|(refine gp f1 (by simp[aU,view,hget,AV.one,PV.one,pU,chunk]) rfl ?_)|(refine aj ?_)|refine oE ?_|apply xX<;>intro hc
  all_goals exact⟨rfl,rfl,rfl,rfl,rfl⟩
theorem J2 (hp:p.short) (lm:k.m.length<=8) (ln:k.name.length<=60) (lr:k.r.length<=20) (s b A X V:Bytes) {l:List Bytes} (hl:l.length<1000) (w:Bytes) (ep:Int):aF 21 [p.pv,k.pv, .agg [.s s, .s b],Py l A X V w ep] (UE p k s b A X V l):=by
 have h1:=mT p k _ (nV p hp) lm ln lr;have hw:=fun n1 k1 m1 nm x1 x2 x3=>Wh n1 k1 m1 nm x1 x2 x3 71 [.s s, .s b] [.s A, .s X, .s V] (Py l A X V w ep).cells none (some 71) none 3
 have l1:(l.map PV.s).length=l.length:=aR ..;unfold UE
 by_cases hb:fK (fB p) k≠0\/([s,b,A,X,V].all aa&&l.all aa)=false
 ·have hf:=Gp h1 s b A X V l w ep hl hb;have he:Et p k s b A X V l=if fK (fB p) k≠0 then fK (fB p) k else 3:=by
   unfold Et
   by_cases h0:fK (fB p) k≠0
   ·rw[ah h0,ah h0]
   ·rw[af h0,af h0,hb.resolve_left h0];rfl
  have hne:(if fK (fB p) k≠0 then fK (fB p) k else 3)≠0:=by
   split
   ·assumption
   ·decide
  rw[he,af hne];have hb2:((if fK (fB p) k≠0 then fK (fB p) k else 3) !=0)=true:=by simpa using hne
  generalize (if fK (fB p) k≠0 then fK (fB p) k else 3)=e at*
  clear h1 hb;unfold cz.pv Key.pv Py PV.cells at*;simp only[br,bH]at hw hf;refine eW call21 func21 ?_;repeat' first|simp only[go_sem,seval,hb2]|(refine aW (hw _ _ _ _ oC oC oC) (by simp[hget]) ?_)|(refine aW (hf _) (by simp[hget]) ?_)|refine oE ?_|apply xX<;>intro hc
  all_goals rfl
 have h0:fK (fB p) k=0:=Classical.byContradiction fun h=>hb (.inl h)
 have hg:([s,b,A,X,V].all aa&&l.all aa)=true:=by
  cases h:([s,b,A,X,V].all aa&&l.all aa)with
  |true=>rfl
  |false=>exact aJ (.inr h) hb
 have hf:=J0 h1 s b A X V l w ep hl h0 hg;have hv:=Ee hp lm ln lr (s::l) (by simp;omega) A X (l8 b V).1
 have he:Et p k s b A X V l=if(l8 b V).2≠0 then(l8 b V).2 else Ll p k (s::l) A X (l8 b V).1:=by
  unfold Et;rw[h0,hg];rfl
 rw[he];clear he;generalize Ll p k (s::l) A X (l8 b V).1=ve at*;generalize l8 b V=r at*;obtain⟨v,ae⟩:=r;simp only at hf hv⊢;clear h1 hb h0 hg;unfold cz.pv Key.pv Py PV.cells at*;simp only[br,bH]at hw hf hv⊢
 by_cases ha:ae=0
 case neg=>
  rw[ah ha,af ha];have hb2:(ae !=0)=true:=by simpa using ha
  refine eW call21 func21 ?_;repeat' first|simp only[go_sem,seval,hb2]|(refine aW (hw _ _ _ _ oC oC oC) (by simp[hget]) ?_)|(refine aW (hf _) (by simp[hget]) ?_)|refine oE ?_|apply xX<;>intro hc
  all_goals rfl
 subst ha;rw[show(if(0:Int)≠0 then(0:Int)else ve)=ve from af (by simp)]
 by_cases hl0:l=[]
 ·subst hl0;simp only[bH]at*
  by_cases hve:ve=0
  ·subst hve;rw[ah rfl];refine eW call21 func21 ?_;repeat' first|simp only[go_sem,seval]|(refine aW (hw _ _ _ _ oC oC oC) (by simp[hget]) ?_)|(refine aW (hf _) (by simp[hget]) ?_)|refine cP hv ?_|refine oE ?_|apply xX<;>intro hc
   all_goals rfl
  ·rw[af hve];have hb2:(ve !=0)=true:=by simpa using hve
   refine eW call21 func21 ?_;repeat' first|simp only[go_sem,seval,hb2]|(refine aW (hw _ _ _ _ oC oC oC) (by simp[hget]) ?_)|(refine aW (hf _) (by simp[hget]) ?_)|refine cP hv ?_|refine oE ?_|apply xX<;>intro hc
   all_goals rfl
 have hr0:(l.length=0)=False:=by rw[eq_iff_iff,iff_false];intro g;exact hl0 (iZ.1 g)
 have e1:=X7 s l;refine eW call21 func21 ?_;repeat' first|simp only[go_sem,seval,l1,hr0]|(refine aW (hw _ _ _ _ oC oC oC) (by simp[hget]) ?_)|(refine aW (hf _) (by simp[hget]) ?_)|refine oE ?_|apply xX<;>intro hc
 refine⟨⟨fun x hx=>mO hx,fun y hy=>rE hy,oO,oO⟩,?_⟩
 by_cases hve:ve=0
 ·subst hve;rw[ah rfl];have r1:=Ok s l;have r2:=KT s l;have r3:=gH dq.s (s::l);have r4:=Ol s l;have r5:=RM l;repeat' first|simp only[go_sem,seval,l1,e1,r1,r2,r3,r4,r5]|(refine Lw (l:=s::l) hv dq.s rfl rfl (by simp only[List.length_cons];omega) (by simp[view,aU,AV.one,PV.one]) (by simp[view,aU,AV.one,PV.one]) (by simp[view,aU,AV.one,PV.one]) ?_)|refine oE ?_|apply xX<;>intro hc
  all_goals rfl
 ·rw[af hve];have hb2:(ve !=0)=true:=by simpa using hve
  repeat' first|simp only[go_sem,seval,l1,e1,hb2]|(refine Lw (l:=s::l) hv dq.s rfl rfl (by simp only[List.length_cons];omega) (by simp[view,aU,AV.one,PV.one]) (by simp[view,aU,AV.one,PV.one]) (by simp[view,aU,AV.one,PV.one]) ?_)|refine oE ?_|apply xX<;>intro hc
  all_goals rfl
