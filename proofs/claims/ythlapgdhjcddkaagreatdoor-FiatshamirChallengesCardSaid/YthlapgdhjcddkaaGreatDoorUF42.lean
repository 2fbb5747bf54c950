/- Part of the proof. -/
import Derived.Test.YthlapgdhjcddkaaGreatDoorUF38
set_option linter.all false
set_option maxHeartbeats 16000000
set_option maxRecDepth 100000
namespace Go.Proofs.Tryz
open Go Go.Dom Go.Num
def qD (l:List Bytes):Bool:=l.all ae
def F3 (q:List Bytes×aT):Bool:=decide (q.1.length=q.2.eqs.length)
def Fq (c sl ctx:Bytes) (s:aT) (tx:Bytes) (cl:ik) (fs:List Bytes) (lss:List (List Bytes)):PV:=if ij c sl s cl≠0 then .tup [.s [],E (ij c sl s cl)]else if !(qD fs&&lss.all qD)then .tup [.s [],E 3]else if fs.length≠s.eqs.length\/lss.length≠cl.leaves.length\/(lss.zip cl.leaves).all F3=false then .tup [.s [],E 6]else .tup [N (ic (WN ctx s tx cl fs lss) c),E 0]
end Go.Proofs.Tryz
namespace Go.Proofs.Tryz
open Go Go.Dom
def wG (v:Nat->Nat):List Int->Nat
 |[]=>0
 |k::r=>1+(v k.toNat+wG v r)
def Q4 (G:List Gt):Nat->Nat->Nat
 |0,_=>0
 |f+1,n=>if(G.getD n eC).kids=[]then 1 else 1+(wG (Q4 G f) (G.getD n eC).kids+1)
theorem Ep {G:List Gt}: ∀{f:Nat} {k:Int} {n c:Nat},(eN G f k n c).1=true->n<G.length
 |0,_,_,_,h=>by cases h
 |f+1,k,n,c,h=>by
  rw[eN]at h
  split at h
  ·cases h
  ·rename_i g;exact Nat.lt_of_not_le fun hk=>g (.inr hk)
theorem qU {v:Int->Nat->Nat->Bool×Nat×Nat} (hv: ∀k n c,c<=(v k n c).2.2): ∀(l:List Int) (n c:Nat),c<=(ix v l n c).2.2
 |[],n,c=>aA _
 |k::r,n,c=>by
  rw[ix];split
  ·exact fw (hv k n c) (qU hv r _ _)
  ·exact hv k n c
theorem vk (G:List Gt): ∀(f:Nat) (k:Int) (n c:Nat),c<=(eN G f k n c).2.2
 |0,_,n,c=>aA _
 |f+1,k,n,c=>by
  rw[eN];split
  ·exact aA _
  ·split
   ·exact qp _
   ·split
    ·exact aA _
    ·exact qU (vk G f) _ _ _
end Go.Proofs.Tryz
namespace Go.Proofs.Tryz
open Go Go.Dom Go.Num
variable {c ctx sl:Bytes}
abbrev wj:TypeId:=222
abbrev L6 (a b c:Nat):aI:=⟨0,[.fn (.func 156) [] [.p a 0 0, .p b 0 0, .p c 0 0]],false,some 223⟩
theorem QL {G:List Gt} (hl:G.length<1000000) (hb: ∀g∈G,g.kids.length<100): ∀(f n c:Nat),(eN G f (n:Int) n c).1=true->(eN G f (n:Int) n c).2.2<=100-> ∀(n1 n2 n3 n4 nm ver:Nat) (bs:Bytes),bs.length<=5*n->n1≠n2->n1≠n3->n1≠n4->n2≠n3->n2≠n4->n3≠n4->jS prog 156 nm [(n1,oF G),(n2,bB wj n2 n4 ver bs),(n3,L6 n1 n2 n3),(n4,bD ver bs)] [.v (E (n:Int)), .p n1 0 0, .p n2 0 0, .p n3 0 0] (.tup []) [(n2,some (bB wj n2 n4 (ver+Q4 G f n) (bs++Eh G f n))),(n4,some (bD (ver+Q4 G f n) (bs++Eh G f n)))]:=by
 have l1:(G.map Gt.pv).length=G.length:=au ..;intro f
 induction f with
 |zero=>intro n c h;cases h
 |succ f ih=>
  intro n c h h100 n1 n2 n3 n4 nm ver bs hbs h12 h13 h14 h23 h24 h34;have hlt:n<G.length:=Ep h;have e1:=getD_map Gt.pv G eC hlt;have hkl:=hb _ (ai eC hlt);rw[eN]at h h100;rw[Eh,Q4]
  by_cases c1:(n:Int)≠n\/G.length<=n
  ·rw[af c1]at h;cases h
  rw[aa c1]at h h100;clear c1;obtain⟨g,hg⟩: ∃g,g=G.getD n eC:=⟨_,rfl⟩;rw[<-hg]at e1 hkl h h100⊢;clear hg;obtain⟨need,kids,leaf⟩:=g;have l2:(kids.map rB).length=kids.length:=au ..;simp only[Gt.pv]at e1;simp only at hkl h h100⊢
  by_cases hk:kids=[]
  ·subst hk;rw[af rfl]at h h100;rw[af rfl,af rfl];simp only[bc,a8]at h;obtain⟨-,rfl⟩:=h;have hc:c<100:=by simp only at h100;omega
   have hd:=dA c;have c2:=jf c hc;have w1:=fun nm=>YV wj 1 3 nm ver bs (cF c) oC oO
   rw[Int.toNat_natCast];clear ih;refine jS.w mixed call156 func156 rfl (jq.1 _ _ _ (by cbv)) (jq.2 _ _ (by cbv)) (obs:=[oF G,bB wj 1 3 ver bs,L6 0 1 2,bD ver bs]) (args:=[.v (E (n:Int)), .p 0 0 0, .p 1 0 0, .p 2 0 0]) (fs:=[none,some (some (bB wj 1 3 (ver+1) (bs++cF c))),none,some (some (bD (ver+1) (bs++cF c)))]) (j:=none) (nw:=none) (v:= .tup []) (ns:=[n1,n2,n3,n4]) (obsA:=[oF G,bB wj n2 n4 ver bs,L6 n1 n2 n3,bD ver bs]) rfl ?_ (by simp) (by simp[h12,h13,h14,h23,h24,h34]) rfl (by simp[bA,aI.aR,AV.aR,AV.aR.renL,dq,aG,bB,bD,h12,h13,h14,h23,h24,h34,aY h12,aY h13,aY h14,aY h23,aY h24,aY h34]) (by simp[bA,AV.aR,AV.aR.renL,dq,h12,h13,h14,h23,h24,h34,aY h12,aY h13,aY h14,aY h23,aY h24,aY h34]) (by simp[AV.aR,AV.aR.renL]) (by simp[fh,outs,aI.aR,AV.aR,AV.aR.renL,aG,ie,bB,bD])
   repeat' first|simp only[go_sem,seval,true_or,or_true,false_or,or_false,ar,gX,ey,gM,fp,fH,eA,nT,om,fO,gS,dE,aK,AV.aR,AV.aR.renL,aG,bB,bD,bF,l1,e1]|refine cP c2 ?_|(refine bK (w1 _) (by simp[az,bB,bD,bF]) ?_)|refine oE ?_|apply xX<;>intro hc
  rw[aa hk]at h h100;rw[aa hk,aa hk]
  by_cases c2:need<1\/need>kids.length\/leaf≠0
  ·rw[af c2]at h;cases h
  rw[aa c2]at h h100;obtain⟨m,rfl⟩: ∃m:Nat,need=(m:Int):=⟨need.toNat,by have:=fun h=>c2 (.inl h);omega⟩
  have hm:m<100:=by have:=fun h=>c2 (.inr (.inl h));omega
  clear c2;rw[Int.toNat_natCast];have hd:=dA m;have c3:=jf m hm;have hkp: ∀ _:True,((kids.length:Int)==0)=false:=fun _=>by
   rw[du];intro h;exact hk (dt.1 oO)
  have ha: ∀k n c,(eN G f k n c).1=true->k=n:=fun k n c=>yF
  have hT:=ve G f;have hce:=vk G f;have hle:=qj G f;generalize eN G f=v at*;generalize Eh G f=t at*;generalize Q4 G f=q at*;obtain⟨r,hr⟩: ∃r,r=ix v kids (n+1) c:=⟨_,rfl⟩;rw[<-hr]at h h100;have w1:=fun nm=>YV wj 1 3 nm ver bs (cF m) oC oO
  have hVB:(ver+1+wG q kids)+1=ver+(1+(wG q kids+1))/\(bs++cF m++mA t 40 kids)++[UInt8.ofNat 41]=bs++(cF m++(mA t 40 kids++[UInt8.ofNat 41])):=⟨oO,by simp only[eg]⟩
  rw[<-hVB.1,<-hVB.2];obtain⟨V,hV⟩: ∃V,V=ver+1+wG q kids:=⟨_,rfl⟩;obtain⟨B,hB⟩: ∃B,B=bs++cF m++mA t 40 kids:=⟨_,rfl⟩;rw[<-hV,<-hB];clear hVB;refine jS.w mixed call156 func156 rfl (jq.1 _ _ _ (by cbv)) (jq.2 _ _ (by cbv)) (obs:=[oF G,bB wj 1 3 ver bs,L6 0 1 2,bD ver bs]) (args:=[.v (E (n:Int)), .p 0 0 0, .p 1 0 0, .p 2 0 0]) (fs:=[none,some (some (bB wj 1 3 (V+1) (B++[UInt8.ofNat 41]))),none,some (some (bD (V+1) (B++[UInt8.ofNat 41])))]) (j:=none) (nw:=none) (v:= .tup []) (ns:=[n1,n2,n3,n4]) (obsA:=[oF G,bB wj n2 n4 ver bs,L6 n1 n2 n3,bD ver bs]) rfl ?_ (by simp) (by simp[h12,h13,h14,h23,h24,h34]) rfl (by simp[bA,aI.aR,AV.aR,AV.aR.renL,dq,aG,bB,bD,h12,h13,h14,h23,h24,h34,aY h12,aY h13,aY h14,aY h23,aY h24,aY h34]) (by simp[bA,AV.aR,AV.aR.renL,dq,h12,h13,h14,h23,h24,h34,aY h12,aY h13,aY h14,aY h23,aY h24,aY h34]) (by simp[AV.aR,AV.aR.renL]) (by simp[fh,outs,aI.aR,AV.aR,AV.aR.renL,aG,ie,bB,bD])
  repeat' first|simp only[go_sem,seval,l1,l2,e1,hkp oT]|refine cP c3 ?_|(refine bK (w1 _) (by simp[az]) ?_)|refine oE ?_|apply xX<;>intro hc
  refine ah (α:=Nat×Nat×Nat×Nat×Bytes) (fun x=>kids.length-x.1) (fun x=>⟨[(2, .p 1 0 0),(3, .p 2 0 0),(26, .v (.sl (kids.map rB))),(27,E' kids.length),(28,E' x.1)],[(0,oF G),(1,bB wj 1 3 x.2.2.2.1 x.2.2.2.2),(2,L6 0 1 2),(3,bD x.2.2.2.1 x.2.2.2.2)],_⟩) (fun x=>x.1<=kids.length/\ix v (kids.drop x.1) x.2.1 x.2.2.1=r/\x.2.2.2.1+wG q (kids.drop x.1)=V/\x.2.2.2.2++mA t (if x.1=0 then 40 else 44) (kids.drop x.1)=B/\x.2.2.2.2.length+1<=5*x.2.1/\x.2.1<=G.length) (0,n+1,c,ver+1,bs++cF m) (fun _=>aA _) ⟨aD _,hr.symm,hV.symm,by rw[hB];rfl,by simp only[bR];omega,hlt⟩ ?_ ?_
  ·(refine AS.Le.of (by first|decide|omega) ?_ ?_<;>simp[cU,cT,aO,az,AV.bd,AV.bd.bdL,u8,aj,ak,an])
   all_goals first|exact⟨jn _ _ _ _ _ _ oC oC,jo _ _ _⟩|skip
  ·rintro⟨j,n',c',v',b'⟩ ⟨hj,hx,hv,hbb,hbl,hnl⟩ R hR;simp only at hj hx hv hbb hbl hnl
   by_cases hjt:j<kids.length
   ·have e2:=getD_map rB kids 0 hjt;rw[aE 0 hjt]at hx hv hbb;rw[wG]at hv;rw[mA]at hbb;obtain⟨k1,k2⟩:=rJ (by rw[hx];exact h)
    rw[hx]at k2;generalize kids.getD j 0=k at*;obtain rfl:=ha _ _ _ k1;rw[Int.toNat_natCast]at hv hbb;have a1:=hT n' c' k1;have a2:=hle (n':Int) n' c' hnl;have a3:(v (n':Int) n' c').2.2<=100:=by
     have:=qU hce (kids.drop (j+1)) (v (n':Int) n' c').2.1 (v (n':Int) n' c').2.2;rw[<-k2]at this;omega
    have hih:=fun nm x (_:True)=>ih n' c' k1 a3 0 1 2 3 nm (v'+1) (b'++[UInt8.ofNat x]) (by rw[bR];exact hbl) oC oC oC oC oC oC
    have hgo:=fun(x:Nat) (hs:(if j=0 then 40 else 44)=x)=>hR (j+1,(v (n':Int) n' c').2.1,(v (n':Int) n' c').2.2,v'+1+q n',b'++[UInt8.ofNat x]++t n') ⟨by simp only;omega,k2.symm,by simp only;omega,by rw[hs]at hbb;simp only[Nat.add_one_ne_zero,aB];rw[<-hbb];simp only[eg,List.cons_append,List.nil_append],by simp only[bR,List.length_cons,List.length_nil];omega,a2⟩ (by simp only;omega)
    have w2:=fun nm x=>YU wj 1 3 nm v' b' x oC oO
    simp only[rB]at e2
    by_cases hj0:j=0
    ·subst hj0;have w2:=fun nm=>w2 nm 40
     have hih:=fun nm=>hih nm 40 oT
     have hgo:=hgo 40 rfl;simp only[show IntKind.u8.wrap ((40:Nat):Int)=40 from rfl]at w2
     simp only at hgo;clear hR ih hT hce hle ha hbb hv;repeat' first|simp only[go_sem,seval,l2,e2]|(refine bK (w2 _) (by simp[az]) ?_)|(refine bK (hih _) (by simp[az]) ?_)|refine oE ?_|apply xX<;>intro hc
     refine hgo _ ?_
     (refine AS.Le.of (by first|decide|omega) ?_ ?_<;>simp[cU,cT,aO,az,AV.bd,AV.bd.bdL,u8,aj,ak,an])
     all_goals first|exact⟨jn _ _ _ _ _ _ oC oC,jo _ _ _⟩|skip
    ·have w2:=fun nm=>w2 nm 44
     have hih:=fun nm=>hih nm 44 oT
     have hgo:=hgo 44 (aa hj0);have hjz: ∀ _:True,((j:Int)==0)=false:=fun _=>by rw[du];omega
     simp only[show IntKind.u8.wrap ((44:Nat):Int)=44 from rfl]at w2
     simp only at hgo;clear hR ih hT hce hle ha hbb hv;repeat' first|simp only[go_sem,seval,l2,e2,hjz oT]|(refine bK (w2 _) (by simp[az]) ?_)|(refine bK (hih _) (by simp[az]) ?_)|refine oE ?_|apply xX<;>intro hc
     refine hgo _ ?_
     (refine AS.Le.of (by first|decide|omega) ?_ ?_<;>simp[cU,cT,aO,az,AV.bd,AV.bd.bdL,u8,aj,ak,an])
     all_goals first|exact⟨jn _ _ _ _ _ _ oC oC,jo _ _ _⟩|skip
   ·obtain rfl:j=kids.length:=oO;rw[bw]at hx hv hbb;rw[wG,Nat.add_zero]at hv;rw[mA,j6]at hbb;subst hv;subst hbb;have w2:=fun nm=>YU wj 1 3 nm v' b' 41 oC oO
    simp only[show IntKind.u8.wrap ((41:Nat):Int)=41 from rfl]at w2
    clear hR ih hT hce hle ha;repeat' first|simp only[go_sem,seval,true_or,or_true,false_or,or_false,ar,gX,ey,gM,fp,fH,eA,nT,om,fO,gS,dE,aK,AV.aR,AV.aR.renL,aG,bB,bD,l2]|(refine bK (w2 _) (by simp[az,bB,bD]) ?_)|refine oE ?_|apply xX<;>intro hc
theorem T1 {G:List Gt} (hl:G.length<1000000) (hb: ∀g∈G,g.kids.length<100) (f:Nat) (h:(eN G (f+1) 0 0 0).1=true) (h100:(eN G (f+1) 0 0 0).2.2<=100) (n1 n2 n3 nm:Nat) (h12:n1≠n2) (h13:n1≠n3) (h23:n2≠n3):jS prog 156 nm [(n1,oF G),(n2,bF wj),(n3,L6 n1 n2 n3)] [.v (E 0), .p n1 0 0, .p n2 0 0, .p n3 0 0] (.tup []) [(nm,some (bD (Q4 G (f+1) 0-1) (Eh G (f+1) 0))),(n2,some (bB wj n2 nm (Q4 G (f+1) 0-1) (Eh G (f+1) 0)))]:=by
 have l1:(G.map Gt.pv).length=G.length:=au ..;have ih:=QL hl hb f;have hlt:0<G.length:=Ep h;have e1:=getD_map Gt.pv G eC hlt;have hkl:=hb _ (ai eC hlt);rw[eN]at h h100;rw[Eh,Q4]
 by_cases c1:(0:Int)≠((0:Nat):Int)\/G.length<=0
 ·rw[af c1]at h;cases h
 rw[aa c1]at h h100;clear c1;obtain⟨g,hg⟩: ∃g,g=G.getD 0 eC:=⟨_,rfl⟩;rw[<-hg]at e1 hkl h h100⊢;clear hg;obtain⟨need,kids,leaf⟩:=g;have l2:(kids.map rB).length=kids.length:=au ..;simp only[Gt.pv]at e1;simp only at hkl h h100⊢
 by_cases hk:kids=[]
 ·subst hk;rw[af rfl]at h h100;rw[af rfl,af rfl];simp only[bc,a8]at h;obtain⟨-,rfl⟩:=h;have hd:(cF 0).length≠0:=by decide
  have hd2:=dA 0;have c2:=jf 0 oC;have w1:=fun nm=>wsF wj OG 1 nm (cF 0) hd oO
  rw[Int.toNat_natCast];clear ih;refine jS.w mixed call156 func156 rfl (jq.1 _ _ _ (by cbv)) (jq.2 _ _ (by cbv)) (obs:=[oF G,bF wj,L6 0 1 2]) (args:=[.v (E 0), .p 0 0 0, .p 1 0 0, .p 2 0 0]) (fs:=[none,some (some (bB wj 1 3 (0) (cF 0))),none]) (j:=some 1014) (nw:=some (bD (0) (cF 0))) (v:= .tup []) (ns:=[n1,n2,n3]) (obsA:=[oF G,bF wj,L6 n1 n2 n3]) rfl ?_ (by simp) (by simp[h12,h13,h23]) rfl (by simp[bA,aI.aR,AV.aR,AV.aR.renL,dq,aG,bF,bB,bD,h12,h13,h23,aY h12,aY h13,aY h23]) (by simp[bA,AV.aR,AV.aR.renL,dq,h12,h13,h23,aY h12,aY h13,aY h23]) (by simp[AV.aR,AV.aR.renL]) (by simp[fh,outs,aI.aR,AV.aR,AV.aR.renL,aG,ie,bF,bB,bD])
  repeat' first|simp only[go_sem,seval,true_or,or_true,false_or,or_false,ar,gX,ey,gM,fp,fH,eA,nT,om,fO,gS,dE,aK,AV.aR,AV.aR.renL,aG,bB,bD,bF,l1,e1]|refine cP c2 ?_|(refine bK (w1 _) (by simp[az,bB,bD,bF]) ?_)|refine oE ?_|apply xX<;>intro hc
 rw[aa hk]at h h100;rw[aa hk,aa hk]
 by_cases c2:need<1\/need>kids.length\/leaf≠0
 ·rw[af c2]at h;cases h
 rw[aa c2]at h h100;obtain⟨m,rfl⟩: ∃m:Nat,need=(m:Int):=⟨need.toNat,by have:=fun h=>c2 (.inl h);omega⟩
 have hm:m<100:=by have:=fun h=>c2 (.inr (.inl h));omega
 clear c2;rw[Int.toNat_natCast];have hd:=dA m;have hd0:(cF m).length≠0:=by unfold cF;split<;>simp
 have c3:=jf m hm;have hkp: ∀ _:True,((kids.length:Int)==0)=false:=fun _=>by
  rw[du];intro h;exact hk (dt.1 oO)
 have ha: ∀k n c,(eN G f k n c).1=true->k=n:=fun k n c=>yF
 have hT:=ve G f;have hce:=vk G f;have hle:=qj G f;generalize eN G f=v at*;generalize Eh G f=t at*;generalize Q4 G f=q at*;obtain⟨r,hr⟩: ∃r,r=ix v kids (0+1) 0:=⟨_,rfl⟩;rw[<-hr]at h h100;have w1:=fun nm=>wsF wj OG 1 nm (cF m) hd0 oO
 obtain⟨V,hV⟩: ∃V,V=0+wG q kids:=⟨_,rfl⟩;obtain⟨B,hB⟩: ∃B,B=cF m++mA t 40 kids:=⟨_,rfl⟩;have hVB:1+(wG q kids+1)-1=V+1/\cF m++(mA t 40 kids++[UInt8.ofNat 41])=B++[UInt8.ofNat 41]:=⟨oO,by rw[hB,eg]⟩
 rw[hVB.1,hVB.2];clear hVB;refine jS.w mixed call156 func156 rfl (jq.1 _ _ _ (by cbv)) (jq.2 _ _ (by cbv)) (obs:=[oF G,bF wj,L6 0 1 2]) (args:=[.v (E 0), .p 0 0 0, .p 1 0 0, .p 2 0 0]) (fs:=[none,some (some (bB wj 1 3 (V+1) (B++[UInt8.ofNat 41]))),none]) (j:=some 1014) (nw:=some (bD (V+1) (B++[UInt8.ofNat 41]))) (v:= .tup []) (ns:=[n1,n2,n3]) (obsA:=[oF G,bF wj,L6 n1 n2 n3]) rfl ?_ (by simp) (by simp[h12,h13,h23]) rfl (by simp[bA,aI.aR,AV.aR,AV.aR.renL,dq,aG,bF,bB,bD,h12,h13,h23,aY h12,aY h13,aY h23]) (by simp[bA,AV.aR,AV.aR.renL,dq,h12,h13,h23,aY h12,aY h13,aY h23]) (by simp[AV.aR,AV.aR.renL]) (by simp[fh,outs,aI.aR,AV.aR,AV.aR.renL,aG,ie,bF,bB,bD])
 repeat' first|simp only[go_sem,seval,l1,l2,e1,hkp oT]|refine cP c3 ?_|(refine bK (w1 _) (by simp[az]) ?_)|refine oE ?_|apply xX<;>intro hc
 refine ah (α:=Nat×Nat×Nat×Nat×Bytes) (fun x=>kids.length-x.1) (fun x=>⟨[(2, .p 1 0 0),(3, .p 2 0 0),(26, .v (.sl (kids.map rB))),(27,E' kids.length),(28,E' x.1)],[(0,oF G),(1,bB wj 1 1014 x.2.2.2.1 x.2.2.2.2),(2,L6 0 1 2),(1014,bD x.2.2.2.1 x.2.2.2.2)],_⟩) (fun x=>x.1<=kids.length/\ix v (kids.drop x.1) x.2.1 x.2.2.1=r/\x.2.2.2.1+wG q (kids.drop x.1)=V/\x.2.2.2.2++mA t (if x.1=0 then 40 else 44) (kids.drop x.1)=B/\x.2.2.2.2.length+1<=5*x.2.1/\x.2.1<=G.length) (0,0+1,0,0,cF m) (fun _=>aA _) ⟨aD _,hr.symm,hV.symm,by rw[hB];rfl,by simp only;omega,hlt⟩ ?_ ?_
 ·(refine AS.Le.of (by first|decide|omega) ?_ ?_<;>simp[cU,cT,aO,az,AV.bd,AV.bd.bdL,u8,aj,ak,an])
  all_goals first|exact⟨jn _ _ _ _ _ _ oC oC,jo _ _ _⟩|skip
 ·rintro⟨j,n',c',v',b'⟩ ⟨hj,hx,hv,hbb,hbl,hnl⟩ R hR;simp only at hj hx hv hbb hbl hnl
  by_cases hjt:j<kids.length
  ·have e2:=getD_map rB kids 0 hjt;rw[aE 0 hjt]at hx hv hbb;rw[wG]at hv;rw[mA]at hbb;obtain⟨k1,k2⟩:=rJ (by rw[hx];exact h)
   rw[hx]at k2;generalize kids.getD j 0=k at*;obtain rfl:=ha _ _ _ k1;rw[Int.toNat_natCast]at hv hbb;have a1:=hT n' c' k1;have a2:=hle (n':Int) n' c' hnl;have a3:(v (n':Int) n' c').2.2<=100:=by
    have:=qU hce (kids.drop (j+1)) (v (n':Int) n' c').2.1 (v (n':Int) n' c').2.2;rw[<-k2]at this;omega
   have hih:=fun nm x (_:True)=>ih n' c' k1 a3 0 1 2 1014 nm (v'+1) (b'++[UInt8.ofNat x]) (by rw[bR];exact hbl) oC oC oC oC oC oC
   have hgo:=fun(x:Nat) (hs:(if j=0 then 40 else 44)=x)=>hR (j+1,(v (n':Int) n' c').2.1,(v (n':Int) n' c').2.2,v'+1+q n',b'++[UInt8.ofNat x]++t n') ⟨by simp only;omega,k2.symm,by simp only;omega,by rw[hs]at hbb;simp only[Nat.add_one_ne_zero,aB];rw[<-hbb];simp only[eg,List.cons_append,List.nil_append],by simp only[bR,List.length_cons,List.length_nil];omega,a2⟩ (by simp only;omega)
   have w2:=fun nm x=>YU wj 1 1014 nm v' b' x oC oO
   simp only[rB]at e2
   by_cases hj0:j=0
   ·subst hj0;have w2:=fun nm=>w2 nm 40
    have hih:=fun nm=>hih nm 40 oT
    have hgo:=hgo 40 rfl;simp only[show IntKind.u8.wrap ((40:Nat):Int)=40 from rfl]at w2
    simp only at hgo;clear hR ih hT hce hle ha hbb hv;repeat' first|simp only[go_sem,seval,l2,e2]|(refine bK (w2 _) (by simp[az]) ?_)|(refine bK (hih _) (by simp[az]) ?_)|refine oE ?_|apply xX<;>intro hc
    refine hgo _ ?_
    (refine AS.Le.of (by first|decide|omega) ?_ ?_<;>simp[cU,cT,aO,az,AV.bd,AV.bd.bdL,u8,aj,ak,an])
    all_goals first|exact⟨jn _ _ _ _ _ _ oC oC,jo _ _ _⟩|skip
   ·have w2:=fun nm=>w2 nm 44
    have hih:=fun nm=>hih nm 44 oT
    have hgo:=hgo 44 (aa hj0);have hjz: ∀ _:True,((j:Int)==0)=false:=fun _=>by rw[du];omega
    simp only[show IntKind.u8.wrap ((44:Nat):Int)=44 from rfl]at w2
    simp only at hgo;clear hR ih hT hce hle ha hbb hv;repeat' first|simp only[go_sem,seval,l2,e2,hjz oT]|(refine bK (w2 _) (by simp[az]) ?_)|(refine bK (hih _) (by simp[az]) ?_)|refine oE ?_|apply xX<;>intro hc
    refine hgo _ ?_
    (refine AS.Le.of (by first|decide|omega) ?_ ?_<;>simp[cU,cT,aO,az,AV.bd,AV.bd.bdL,u8,aj,ak,an])
    all_goals first|exact⟨jn _ _ _ _ _ _ oC oC,jo _ _ _⟩|skip
  ·obtain rfl:j=kids.length:=oO;rw[bw]at hx hv hbb;rw[wG,Nat.add_zero]at hv;rw[mA,j6]at hbb;subst hv;subst hbb;have w2:=fun nm=>YU wj 1 1014 nm v' b' 41 oC oO
   simp only[show IntKind.u8.wrap ((41:Nat):Int)=41 from rfl]at w2
   clear hR ih hT hce hle ha;repeat' first|simp only[go_sem,seval,true_or,or_true,false_or,or_false,ar,gX,ey,gM,fp,fH,eA,nT,om,fO,gS,dE,aK,AV.aR,AV.aR.renL,aG,bB,bD,l2]|(refine bK (w2 _) (by simp[az,bB,bD]) ?_)|refine oE ?_|apply xX<;>intro hc
theorem Nx {G:List Gt} (hl:G.length<=512) (hb: ∀g∈G,g.kids.length<100) {c:Nat} (h:DI G=some c) (hc:c<=100):aH 78 [E6 G] (.tup [.s (tw G),E 0]):=by
 have l1:(G.map Gt.pv).length=G.length:=au ..;have hv:=Ac (G:=G) oO (fun g hg=>by have:=hb g hg;omega)
 have hv2:(BJ G).2=true:=by
  rw[OL]at h
  cases hh:(BJ G).2 with
  |true=>rfl
  |false=>rw[hh]at h;cases h
 rw[hv2]at hv;generalize (BJ G).1=d at*;have hfl:=FE h;unfold tw at hfl⊢;have hl5:decide ((G.length:Int)>512)=false:=aS oO
 by_cases h0:G=[]
 ·subst h0;rw[af rfl];refine eW call78 func78 ?_;exact z1 @hv
 rw[aa h0]at hfl⊢;have hz: ∀ _:True,((G.length:Int)==0)=false:=fun _=>by
  rw[du];intro e;exact h0 (dt.1 oO)
 obtain⟨e,-⟩:=yA h h0;have hr:=fun nm=>T1 oO hb G.length (by rw[e]) (by rw[e];exact hc) 1000 1022 1023 nm oC oC oC
 have hne:(Eh G (G.length+1) 0).length≠0:=by
  rw[Eh];have d1: ∀k,(cF k).length≠0:=fun k=>by unfold cF;split<;>simp
  split
  ·exact d1 _
  ·rw[bR];have:=d1 (G.getD 0 eC).need.toNat;omega
 generalize Eh G (G.length+1) 0=x at*;generalize Q4 G (G.length+1) 0-1=y at*;have w3:=fun d nm h=>It wj 1022 d nm y x h hne oO
 refine eW call78 func78 ?_;repeat' first|simp only[go_sem,seval,l1,hz oT,hl5]|refine cP hv ?_|(refine bK (hr _) (by simp[az,bF]) ?_)|(refine bK (w3 1027 _ oC) (by simp[az]) ?_)|refine oE ?_|apply xX<;>intro hc
 all_goals rfl
theorem LZ.text {s:aT} {cl:ik} (h:LZ c sl ctx s cl) (hG:IK cl):aH 78 [E6 cl.gates] (.tup [.s (tw cl.gates),E 0]):=Nx h.g5 h.k hG.lv (by have:=h.l12;omega)
theorem xO (l:List (List Bytes)) (f:FuncId) (c:List PV) (p:(List Bytes)->Bool) (hl:l.length<4611686018427387904) (h: ∀x∈l,aH f (kU x::c) (.b (p x))):aH 74 [.sl (l.map kU), .fc f [] c] (E (dk p 0 l)):=by
 have hlm:(l.map kU).length=l.length:=au ..;refine eW call74 func74 ?_;refine dh @hlm ?_;refine ah (α:=Nat) (fun i=>l.length-i) (fun i=>⟨[(0, .v (.sl (l.map kU))),(1, .v (.fc f [] c)),(7, .v (.i .i64 l.length)),(8, .v (.i .i64 (i:Nat)))],[],_⟩) (fun i=>i<=l.length/\dk p i (l.drop i)=dk p 0 l) 0 (fun _=>aA _) ⟨aD _,rfl⟩ ?_ ?_
 ·exact lE
 ·rintro i ⟨hi,hx⟩ R hR;rw[<-hx]
  by_cases hlt:i<l.length
  ·have e1:=getD_map kU l ([]:List Bytes) hlt;have hf:=h (l.getD i ([]:List Bytes)) (ai ([]:List Bytes) hlt);have hgo:=hR (i+1);rw[<-hx,aE ([]:List Bytes) hlt]at hgo;rw[aE ([]:List Bytes) hlt];simp only[dk]at hgo⊢;clear hx hR h;obtain⟨b,hb⟩: ∃b,b=p (l.getD i ([]:List Bytes)):=⟨_,rfl⟩;rw[<-hb]at hf hgo⊢;clear hb;obtain⟨x,hxx⟩: ∃x,x=l.getD i ([]:List Bytes):=⟨_,rfl⟩;rw[<-hxx]at e1 hf;clear hxx;obtain xn:=x
   try simp only[kU]at e1 hf
   cases b
   ·have hgo:=hgo ⟨oO,rfl⟩ oO;repeat' first|simp only[go_sem,seval,hlm,e1]|(refine fX hf (iO _ _) ?_)|refine oE ?_|apply xX<;>intro hc
    refine hgo _ ?_;exact lE
   ·repeat' first|simp only[go_sem,seval,hlm,e1]|(refine fX hf (iO _ _) ?_)|refine oE ?_|apply xX<;>intro hc
    all_goals rfl
  ·obtain rfl:i=l.length:=oO;rw[bw];repeat' first|simp only[go_sem,seval,hlm]|refine oE ?_|apply xX<;>intro hc
   all_goals simp[dk]
theorem sV (l:List (List Bytes)) (f:FuncId) (c:List PV) (p:(List Bytes)->Bool) (hl:l.length<4611686018427387904) (h: ∀x∈l,aH f (kU x::c) (.b (p x))):aH 32 [.sl (l.map kU), .fc f [] c] (.b (l.any p)):=by
 have hi:=xO l f c p hl h;have e:decide (dk p 0 l>=0)=l.any p:=by
  rw[cu,decide_eq_true_iff];exact gZ
 refine eW call32 func32 ?_;exact iE @e @hi
theorem Je (a:Bytes):aH 29 [.s a] (.b (!ae a)):=by
 have hv:=aX a;generalize ae a=b at*;refine eW call29 func29 ?_;exact z1 @hv
theorem Sx (l:List Bytes) (hl:l.length<4611686018427387904):aH 33 [kU l, .pt (.agg [.fn (.func 29)]) 0] (.b (!qD l)):=by
 have h1:=gI l _ _ hl Je;rw[im]at h1;unfold kU qD;refine eW call33 func33 ?_;exact z1 @h1
theorem qQ {s:aT} {cl:ik} (h:LZ c sl ctx s cl) {fs:List Bytes} (fn:fs.length<=900) (fl: ∀x∈fs,x.length<=100000) {lss:List (List Bytes)} (ln:lss.length<1000000) (ll: ∀l∈lss,l.length<=900/\ ∀x∈l,x.length<=100000):
  aH 10 [.agg [.s c, .s sl], .s ctx,s.pv,cl.pv, .sl (fs.map .s), .sl (lss.map kU)] (Fq c sl ctx s (tw cl.gates) cl fs lss):=by
 have hst:=DN h.lc h.ls h.zs h.zc;unfold Qa at hst;unfold Fq
 by_cases hE:ij c sl s cl=0
 case neg=>
  rw[af hE];rw[aa hE]at hst;have hb:(ij c sl s cl==0)=false:=by simpa using hE
  have hb2:(ij c sl s cl !=0)=true:=by simpa using hE
  generalize ij c sl s cl=e at*;unfold aT.pv ik.pv at*;refine eW call10 func10 ?_;exact iE (aN @hb @hb2) @hst
 rw[aa (show¬ij c sl s cl≠0 by simpa using hE)]
 rw[af hE]at hst;obtain⟨hp,hG,c0⟩:=wZ h.lc h.ls h.zs h.zc hE;have hc:=tj (sl:=sl) hp.r.vc c0 h.lc hp.g.bd (cl:=cl) (by have:=h.l12;omega) (fun s hs=>(hG.ck s hs).bd) (h.tl hG) (h.text hG) (ctx:=ctx) h.lx fn fl ln ll
 have v1:=gI fs _ _ oO Je;rw[im]at v1;have v2:=sV lss 33 [.pt (.agg [.fn (.func 29)]) 0] (fun l=> !qD l) oO fun l hl=>Sx l (by have:=(ll l hl).1;omega)
 rw[im]at v2;have hnl:=hG.sz.nl;clear hE hp hG c0 h fl ll;generalize ic (WN ctx s (tw cl.gates) cl fs lss) c=z at*;obtain⟨gq,vs,es⟩:=s;obtain⟨lv,G⟩:=cl;simp only[XC,aT.pv,ik.pv]at*;generalize bY lv=q at*;have k1:(lv.map aT.pv).length=lv.length:=au ..;have k2:(lss.map kU).length=lss.length:=au ..;have k3:(fs.map PV.s).length=fs.length:=au ..;have k4:(es.map bZ.pv).length=es.length:=au ..;rw[show(fs.all fun x=>ae x)=qD fs from rfl]at v1
 by_cases hok:(qD fs&&lss.all qD)=true
 case neg=>
  have hf:=dR.2 hok;rw[af (by rw[hf];rfl)]
  clear hok hc;generalize qD fs=b1 at*;generalize lss.all qD=b2 at*;cases b1
  ·refine eW call10 func10 ?_;repeat' first|simp only[go_sem,seval,aW]|refine cP hst ?_|refine cP v1 ?_|refine cV v2 ?_|refine oE ?_|apply xX<;>intro hc
   all_goals rfl
  ·cases b2
   ·refine eW call10 func10 ?_;repeat' first|simp only[go_sem,seval,aW]|refine cP hst ?_|refine cP v1 ?_|refine cV v2 ?_|refine oE ?_|apply xX<;>intro hc
    all_goals rfl
   ·exact aJ hf (by simp)
 rw[aa (by rw[hok];decide)]
 simp only[bc]at hok;rw[hok.1]at v1;rw[hok.2]at v2;clear hok;have x1:((fs.length:Int) !=(es.length:Int))= !decide (fs.length=es.length):=by rw[bne,cu];simp;omega
 have x2:((lss.length:Int) !=(lv.length:Int))= !decide (lss.length=lv.length):=by rw[bne,cu];simp;omega
 by_cases m1:fs.length=es.length
 case neg=>
  rw[aS m1]at x1;rw[af (.inl m1)];refine eW call10 func10 ?_;repeat' first|simp only[go_sem,seval,aW,k1,k2,k3,k4,x1]|refine cP hst ?_|refine cP v1 ?_|refine cV v2 ?_|refine oE ?_|apply xX<;>intro hc
  all_goals rfl
 rw[aQ m1]at x1
 by_cases m2:lss.length=lv.length
 case neg=>
  rw[aS m2]at x2;rw[af (.inr (.inl m2))];refine eW call10 func10 ?_;repeat' first|simp only[go_sem,seval,aW,k1,k2,k3,k4,x1,x2]|refine cP hst ?_|refine cP v1 ?_|refine cV v2 ?_|refine oE ?_|apply xX<;>intro hc
  all_goals rfl
 rw[aQ m2]at x2;simp only[m1,m2,ne_eq,qw,false_or];refine eW call10 func10 ?_;repeat' first|simp only[go_sem,seval,aW,k1,k2,k3,k4,x1,x2]|refine cP hst ?_|refine cP v1 ?_|refine cV v2 ?_|refine oE ?_|apply xX<;>intro hc
 refine ah (α:=Nat) (fun i=>lss.length-i) (fun i=>⟨[(1, .v (.s ctx)),(4, .v (.sl (fs.map .s))),(5, .v (.sl (lss.map kU))),(9, .p 1002 0 0),(14, .p 1012 0 0),(51, .v (.sl (lss.map kU))),(52,E' lss.length),(53,E' i)],[(1002,⟨0,[.v (.sl (lv.map aT.pv)), .v (.sl (G.map Gt.pv))],false,none⟩),(1012,⟨0,[.v (.s c), .v (.s sl), .v (.sl (gq.map cz)), .v (.sl (vs.map bO)), .v (.sl (es.map bZ.pv)), .v (.sl (lv.map aT.pv)), .v (.sl (G.map Gt.pv)), .v (.s q)],false,some 86⟩)],1044⟩) (fun i=>i<=lss.length/\((lss.drop i).zip (lv.drop i)).all F3=(lss.zip lv).all F3) 0 (fun _=>cd rfl) ⟨aD _,rfl⟩ ?_ ?_
 ·exact lE
 rintro i ⟨hi,ha⟩ R hR;rw[<-ha];clear hst v1 v2
 by_cases hit:i<lss.length
 case pos=>
  have e2:=getD_map kU lss ([]:List Bytes) hit;have e3:=getD_map aT.pv lv cC (show i<lv.length by omega)
  have hgo:=fun h=>hR (i+1) ⟨oO,h⟩ oO
  rw[<-ha]at hgo;rw[aE ([]:List Bytes) hit,aE cC (show i<lv.length by omega),List.zip_cons_cons,List.all_cons]at hgo⊢
  generalize lss.getD i []=y at*;generalize lv.getD i cC=s' at*;obtain⟨gs',vs',es'⟩:=s';simp only[kU,aT.pv]at e2 e3;rw[show F3 (y,(⟨gs',vs',es'⟩:aT))=decide (y.length=es'.length)from rfl]at hgo⊢
  have k5:(y.map PV.s).length=y.length:=au ..;have k6:(es'.map bZ.pv).length=es'.length:=au ..;have x4:((y.length:Int) !=(es'.length:Int))= !decide (y.length=es'.length):=by rw[bne,cu];simp;omega
  clear hR ha hc;generalize decide (y.length=es'.length)=bb at*;cases bb
  ·simp only[br,aC];exact fz (aN @k1 (aN @k2 (aN @k5 (aN @k6 (aN @e2 (aN @e3 @x4))))))
  ·simp only[bE]at hgo⊢;have hgo:=hgo oT;exact gH (aN @k1 (aN @k2 (aN @k5 (aN @k6 (aN @e2 (aN @e3 @x4)))))) @hgo
 obtain rfl:i=lss.length:=oO;rw[bw,List.zip_nil_left,List.all_nil,aa (by simp)]
 clear hR ha;exact iE @k2 @hc
