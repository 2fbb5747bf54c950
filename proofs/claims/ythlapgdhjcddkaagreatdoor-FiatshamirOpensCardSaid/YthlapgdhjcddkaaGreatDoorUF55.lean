/- Part of the proof. -/
import Derived.Test.YthlapgdhjcddkaaGreatDoorUF54
set_option linter.all false
set_option maxHeartbeats 16000000
set_option maxRecDepth 100000
namespace Go.Proofs.Tryz
open Go Go.Dom Go.Num
variable {c ch sl:Bytes} {gs:List Bytes} {hf:Nat->Option aI} {ls:List (List (Bool×Bytes))} {ns:List Nat} {rs:List (Bool×Bytes)}
theorem sX.Qm {v:Nat} {A:List AV} {a b x:AV} {z:PV} {g:Bool} {e:Option TypeId} (h:view hf 9 x=some z/\ ∀n∈aW hf 9 x,n∈ns):sX hf ns ⟨v,A++[a,b,x],g,e⟩ ⟨v,A++[a,b, .v z],g,e⟩:=by
 have:=sX.snoc (v:=v) (g:=g) (e:=e) (A:=A++[a,b]) h.1 h.2;simpa only[eg,List.cons_append,List.nil_append]using this
theorem Na {α:Type} {f:α->PV} {z:Nat} (hr:cH f z) {m ver len:Nat} {gr:Bool} {el:Option TypeId} {l:List α} (hg:hf m=some ⟨ver,aP f l,gr,el⟩) (hl:len=l.length) (hm:m∈ns):view hf 9 (.rs m ver 0 len z)=some (.sl (l.map f))/\ ∀n∈aW hf 9 (.rs m ver 0 len z),n∈ns:=
 ⟨iH (k:=7) hr hl hg,fun x hx=>by rw[nQ (k:=7) hr hl hg]at hx;cases fa.1 hx;exact hm⟩
theorem cell0 {α:Type} {f:α->PV} {l:List α} (h: ∀ _:True,l.length=0):view hf 9 .sn=some (.sl (l.map f))/\ ∀n∈aW hf 9 .sn,n∈ns:=by
 obtain rfl:=dt.1 (h oT);exact⟨rfl,fun n hn=>by cases hn⟩
theorem M9 {α:Type} {f:α->PV} {l:List α} (h: ∀ _:True,l.length=0):view hf 9 (.v (.sl []))=some (.sl (l.map f))/\ ∀n∈aW hf 9 (.v (.sl [])),n∈ns:=by
 obtain rfl:=dt.1 (h oT);exact⟨rfl,fun n hn=>by cases hn⟩
theorem TT {s:aT} {cl:ik} (hst:aH 35 [.agg [.s c, .s sl],s.pv,cl.pv] (E 0)) (h1:rs.length<1000000) (h2:gs.length<=1000) (h3:ls.length<=1000) (h4: ∀l∈ls,l.length<1000000) (o1:ae ch=true) (o2:rs.all cr=true) (o3:(ls.all fun l=>l.all cr)=true) (o4:gs.all ae=true) (vc:ae c=true) (hnl:cl.leaves.length<1000000) (hsz: ∀s∈cl.leaves,qH s) (vq:ae (bY cl.leaves)=true) (hm:rs.length=s.vars.length/\gs.length=cl.gates.length/\ls.length=cl.leaves.length) (hle: ∀i,i<ls.length->(ls.getD i []).length=(cl.leaves.getD i cC).vars.length) (hge:num ch<num c) (hgl: ∀g∈gs,num g<num (bY cl.leaves)) {F0:List Bytes} (hfi:aH 49 [.agg [.s c, .s sl],s.pv, .s ch, .sl (rs.map ca)] (.tup [.sl (F0.map .s),E 0])) (hG:IK cl) (h0:cl.leaves≠[]) (l24: ∀l∈ls,∀x∈l,x.2.length<=24):
  aH 15 [.agg [.s c, .s sl],s.pv,cl.pv,kC ch rs gs ls] (if nW (bY cl.leaves) (nG cl gs ls)=0 then .tup [.agg [.sl (F0.map .s), .s ch, .sl (rs.map ca)], .agg [.sl (gs.map .s), .sl ((nG cl gs ls).map jV)],E 0]else .tup [Ke,B0,E (nW (bY cl.leaves) (nG cl gs ls))]):=by
 have hor:=iY (ls:=cl.leaves) (G:=cl.gates) hnl hsz;have hcm:=jL ch c;rw[o1,vc]at hcm;simp only[dF,aC]at hcm;have hcg: ∀g∈gs,aH 48 [.s g, .s (bY cl.leaves)] (E (a7 (num g) (num (bY cl.leaves)))):=fun g hg=>by
  have:=jL g (bY cl.leaves);rw[bz.1 o4 g hg,vq]at this;simpa only[dF,aC]using this
 clear hsz vc vq;obtain⟨m1,m2,m3⟩:=hm;have h7: ∀ _:True,¬(0:Int)<=a7 (num ch) (num c):=fun _ h=>by have:=dY.1 h;omega
 have h5: ∀ _:True,decide (a7 (num ch) (num c)>=0)=false:=fun _=>aS (h7 oT)
 generalize a7 (num ch) (num c)=z at*;have hF:=HN hG.lv;have hGk:=hG.sz.k;have hGl:=hG.ng;have hXl:=jK cl gs ls;have hXget:=fun i h=>yx (cl:=cl) (gs:=gs) (ls:=ls) (i:=i) h
 have hFi:=fun s' (hs':s'∈cl.leaves) ch' l' (hm':l'∈ls) hl'=>CJ (DF hG hs') (hG.sz.s _ hs').sh (ch:=ch') (l:=l') hl' (l24 _ hm')
 have hvl: ∀s'∈cl.leaves,s'.vars.length<=64:=fun s' h=>(hG.ck s' h).nv
 obtain⟨X,hX⟩: ∃X,X=nG cl gs ls:=⟨_,rfl⟩;rw[<-hX]at hXl hXget⊢;have hof:aH 51 [.i .u64 2] (.s [2]):=nN 2 oC;have hg0:cl.gates≠[]:=fun e=>by
  have:=hG.lv;rw[e]at this;unfold DI at this;rw[af rfl]at this;injection this with this
  exact h0 (dt.1 this.symm)
 have hpos:0<cl.leaves.length:=gF.2 h0;have n2: ∀ _:True,¬gs.length=0:=fun _ h=>by have:=gF.2 hg0;omega
 clear hX hG l24 h0 hg0;have v1:=aU ch;rw[o1]at v1;have v2:=ec rs oO;rw[o2]at v2;have v4:=gU gs oO;rw[o4]at v4;have hvi: ∀l∈ls,aH 46 [.sl (l.map ca)] (.b true):=fun l hl=>by
  have:=ec l (by have:=h4 l hl;omega)
  rwa[bz.1 o3 l hl]at this
 clear o2 o3 o4 h4;have l1:(rs.map ca).length=rs.length:=au ..;have l3:(gs.map PV.s).length=gs.length:=au ..;have l4:(ls.map fj).length=ls.length:=au ..;obtain⟨gq,vs,es⟩:=s;obtain⟨lv,G⟩:=cl;have l2:(vs.map bO).length=vs.length:=au ..;have l5:(lv.map aT.pv).length=lv.length:=au ..;have l6:(G.map Gt.pv).length=G.length:=au ..;simp only[kC,aT.pv,ik.pv]at*;generalize bY lv=q at*;clear hge;refine eW call15 func15 ?_;refine YH @hst @v1 @v2 @v4 ?_;refine ah (α:=Nat) (fun i=>ls.length-i) (fun i=>⟨[(4, .p 1000 0 0),(5, .p 1001 0 0),(6, .p 1002 0 0),(7, .p 1003 0 0),(8, .p 1004 0 0),(9, .p 1005 0 0),(11, .p 1009 0 0),(12, .p 1010 0 0),(14, .v (.b true)),(15,E' i)],[(1000,⟨0,[.v (.s c), .v (.s sl)],false,none⟩),(1001,⟨0,[.v (.sl (gq.map cz)), .v (.sl (vs.map bO)), .v (.sl (es.map bZ.pv))],false,none⟩),(1002,⟨0,[.v (.sl (lv.map aT.pv)), .v (.sl (G.map Gt.pv))],false,none⟩),(1003,⟨0,[.v (.s ch), .v (.sl (rs.map ca)), .v (.sl (gs.map .s)), .v (.sl (ls.map fj))],false,none⟩),(1004,⟨0,[.sn, .v (.s []), .sn],false,some 56⟩),(1005,⟨0,[.sn, .sn],false,some 59⟩),(1009,⟨0,[.sn, .v (.s []), .sn],false,some 56⟩),(1010,⟨0,[.sn, .sn],false,some 59⟩)],1035⟩) (fun i=>i<=ls.length) 0 (fun _=>cd rfl) (aD _) ?_ ?_
 ·exact lE
 intro i hi R hR
 by_cases hit:i<ls.length
 case pos=>
  have e2:=getD_map fj ls ([]:List (Bool×Bytes)) hit;have hgo:=hR (i+1) oO oO;have hv:=hvi _ (ai [] hit);clear hvi hR;generalize ls.getD i []=y at e2 hgo hv;have e2:(ls.map fj).getD i .fn0= .sl (y.map ca):=e2;exact gi (aN @l4 @e2) @hgo @hv
 obtain rfl:i=ls.length:=oO;clear hR hit hi hvi;refine dh (aN @l1 (aN @l2 (aN @l3 (aN @l4 (aN @l5 (aN @l6 (aN @m1 (aN @m2 @m3)))))))) ?_;refine ah (α:=Nat) (fun i=>ls.length-i) (fun i=>⟨[(4, .p 1000 0 0),(5, .p 1001 0 0),(6, .p 1002 0 0),(7, .p 1003 0 0),(8, .p 1004 0 0),(9, .p 1005 0 0),(11, .p 1009 0 0),(12, .p 1010 0 0),(16,E' i)],[(1000,⟨0,[.v (.s c), .v (.s sl)],false,none⟩),(1001,⟨0,[.v (.sl (gq.map cz)), .v (.sl (vs.map bO)), .v (.sl (es.map bZ.pv))],false,none⟩),(1002,⟨0,[.v (.sl (lv.map aT.pv)), .v (.sl (G.map Gt.pv))],false,none⟩),(1003,⟨0,[.v (.s ch), .v (.sl (rs.map ca)), .v (.sl (gs.map .s)), .v (.sl (ls.map fj))],false,none⟩),(1004,⟨0,[.sn, .v (.s []), .sn],false,some 56⟩),(1005,⟨0,[.sn, .sn],false,some 59⟩),(1009,⟨0,[.sn, .v (.s []), .sn],false,some 56⟩),(1010,⟨0,[.sn, .sn],false,some 59⟩)],1069⟩) (fun i=>i<=ls.length) 0 (fun _=>cd rfl) (aD _) ?_ ?_
 ·exact lE
 intro i hi R hR
 by_cases hit:i<ls.length
 case pos=>
  have e2:=getD_map fj ls ([]:List (Bool×Bytes)) hit;have e3:=getD_map aT.pv lv cC (show i<lv.length by omega)
  have hgo:=hR (i+1) oO oO;have hz:=hle i hit;clear hR hle hXget hFi hvl hXl hF hGk hGl;generalize ls.getD i []=y at*;generalize lv.getD i cC=z at*;obtain⟨zg,zv,ze⟩:=z;simp only[fj,aT.pv]at e2 e3 hz;have k1:(y.map ca).length=y.length:=au ..;have k2:(zv.map bO).length=zv.length:=au ..;exact gH (aN @l4 (aN @l5 (aN @e2 (aN @e3 (aN @k1 (aN @k2 @hz)))))) @hgo
 obtain rfl:i=ls.length:=oO;clear hR hit hi;refine rz (aN @l4 (h5 oT)) @hor @hcm ?_;clear h5 h7;refine ah (α:=Nat) (fun i=>gs.length-i) (fun i=>⟨[(4, .p 1000 0 0),(5, .p 1001 0 0),(6, .p 1002 0 0),(7, .p 1003 0 0),(8, .p 1004 0 0),(9, .p 1005 0 0),(11, .p 1009 0 0),(12, .p 1010 0 0),(17, .v (.s q)),(18,E' i)],[(1000,⟨0,[.v (.s c), .v (.s sl)],false,none⟩),(1001,⟨0,[.v (.sl (gq.map cz)), .v (.sl (vs.map bO)), .v (.sl (es.map bZ.pv))],false,none⟩),(1002,⟨0,[.v (.sl (lv.map aT.pv)), .v (.sl (G.map Gt.pv))],false,none⟩),(1003,⟨0,[.v (.s ch), .v (.sl (rs.map ca)), .v (.sl (gs.map .s)), .v (.sl (ls.map fj))],false,none⟩),(1004,⟨0,[.sn, .v (.s []), .sn],false,some 56⟩),(1005,⟨0,[.sn, .sn],false,some 59⟩),(1009,⟨0,[.sn, .v (.s []), .sn],false,some 56⟩),(1010,⟨0,[.sn, .sn],false,some 59⟩)],1084⟩) (fun i=>i<=gs.length) 0 (fun _=>cd rfl) (aD _) ?_ ?_
 ·exact lE
 intro i hi R hR
 by_cases hit:i<gs.length
 case pos=>
  have e4:=fJ hit;have hgo:=hR (i+1) oO oO;have hmg:=ai ([]:Bytes) hit;have hc:=hcg _ hmg;have h6: ∀ _:True,¬(0:Int)<=a7 (num (gs.getD i [])) (num q):=fun _ h=>by have:=hgl _ hmg;have:=dY.1 h;omega
  have h5: ∀ _:True,decide (a7 (num (gs.getD i [])) (num q)>=0)=false:=fun _=>aS (h6 oT)
  clear hR hcg hgl hmg hle hXget hFi hvl hXl hF hGk hGl;generalize a7 (num (gs.getD i [])) (num q)=z at*;generalize gs.getD i []=y at*;exact gi (aN @l3 (aN @e4 (h5 oT))) @hgo @hc
 obtain rfl:i=gs.length:=oO;clear hR hit hi hcg hgl;have hp0: ∀ _:True,(0:Int)<(lv.length:Int):=fun _=>oO
 have hrs:rs.length<=1000000:=oO;have hcs:(∀ _:True,rs.length=0)\/(∀ _:True,¬rs.length=0):=by
  by_cases h:rs.length=0
  ·exact .inl fun _=>h
  ·exact .inr fun _=>h
 rcases hcs with n1|n1
 focus (
  refine gR (aN @l1 (aN @l3 (n1 oT))) @hfi ?_;refine⟨fun y hy=>by obtain⟨z,-,rfl⟩:=cx.1 hy;exact dO.len z,?_⟩
  repeat' first|simp only[go_sem,seval,l3,n2 oT]|refine oE ?_|apply xX<;>intro hc
  skip)
 rotate_left
 focus (
  refine gR (aN @l1 (aN @l3 (n1 oT))) @hfi ?_;have w1:(aP ca rs).length=rs.length*2:=bT dO rs;have w2:=cf dO rs;have w3:=dI dO rs;have w4:=cK dO rs;rw[show List.map AV.v (List.flatMap PV.cells (List.map ca rs))=aP ca rs by rw[aP,jO]]
  refine⟨⟨fun y hy=>by obtain⟨z,-,rfl⟩:=cx.1 hy;exact dO.len z,fun y hy=>bz.1 w3 y hy,oO,oO⟩,?_⟩
  repeat' first|simp only[go_sem,seval,l3,n2 oT]|refine oE ?_|apply xX<;>intro hc
  skip)
 all_goals (
  have g1:(aP PV.s gs).length=gs.length:=by rw[bT cH.s,dr]
  have g2:=cf cH.s gs;rw[dr]at g2;have g3:=dI cH.s gs;have g4:chunk 1 gs.length (gs.flatMap fun x=>[PV.s x])=gs.map .s:=cK cH.s gs
  rw[show List.map AV.v (List.flatMap PV.cells (List.map PV.s gs))=aP PV.s gs by rw[aP,jO]]
  refine⟨⟨fun y hy=>by obtain⟨z,-,rfl⟩:=cx.1 hy;rfl,fun y hy=>bz.1 g3 y hy,oO,oO⟩,?_⟩
  refine aq ?_;have e2:=getD_map aT.pv lv cC hpos;have e3:=getD_map fj ls ([]:List (Bool×Bytes)) (show 0<ls.length by omega)
  have hXg:=hXget _ hpos;obtain⟨jj,j1,-,j3,-⟩:=Dz hF hpos;have c4:=Pz (G:=G) oO hGk 0;rw[j3]at c4 hXg;rw[Int.toNat_natCast]at hXg;have e4:=fJ (show jj<gs.length by omega)
  have hsm:=ai cC hpos;have hlz:=hle _ (show 0<ls.length by omega)
  have hlv:=hvl _ hsm;have c5:=hFi _ hsm (gs.getD jj []) (ls.getD 0 []) (ai [] (show 0<ls.length by omega)) oO
  have r1:aP jV (X.take (0+1))=aP jV (X.take 0)++[.v (.sl ((ep (lv.getD 0 cC) (gs.getD jj []) (ls.getD 0 [])).map .s)), .v (.s (gs.getD jj [])), .v (.sl ((ls.getD 0 []).map ca))]:=by
   rw[aL pg (show 0<X.length by omega),bU,hXg];rfl
  have hlf:S2 q (X.getD 0 pg)=cG (ba (lv.getD 0 cC).groups) q [2] (lv.getD 0 cC).vars (gs.getD jj []) (ls.getD 0 []):=by rw[hXg];rfl
  have hdr:=rO q (X:=X) (i:=0) oO;rw[hlf]at hdr;clear hXg hsm hlf;generalize X.getD 0 pg=x at*;generalize gs.getD jj []=cj at*;generalize ls.getD 0 []=lj at*;generalize lv.getD 0 cC=sj at*;simp only[fj]at e3;rw[y7]at hdr
  by_cases hz:cG (ba sj.groups) q [2] sj.vars cj lj=0
  case neg=>
   rw[af hz]at hdr;have hb:(cG (ba sj.groups) q [2] sj.vars cj lj==0)=false:=by simpa using hz
   have hb2:(cG (ba sj.groups) q [2] sj.vars cj lj !=0)=true:=by simpa using hz
   rw[hdr,aa hz];rw[qR hz]at c5;generalize cG (ba sj.groups) q [2] sj.vars cj lj=e at*;obtain⟨gj,vj,ej⟩:=sj;simp only[aT.pv]at e2 c5;clear r1;exact ry (aN @l1 (aN @l3 (aN @l4 (aN @l5 (aN @e2 (aN @e3 (aN @e4 (aN @hb (aN @hb2 (aN (hp0 oT) (aN @g1 (aN @g2 (aN @g3 (aN @g4 @dj)))))))))))))) @c4 @hof @c5 oT
  rw[aa (by simpa using hz)]at hdr
  rw[rH hz,hz]at c5;clear hz;generalize ep sj cj lj=Fj at*;obtain⟨gj,vj,ej⟩:=sj;simp only[aT.pv]at e2 c5;have k1:(lj.map ca).length=lj.length:=au ..;have hct:(∀ _:True,lj.length=0)\/(∀ _:True,¬lj.length=0):=by
   by_cases h:lj.length=0
   ·exact .inl fun _=>h
   ·exact .inr fun _=>h
  rcases hct with n3|n3
  focus (
   refine nX (aN @l1 (aN @l3 (aN @l4 (aN @l5 (aN @e2 (aN @e3 (aN @e4 (aN (hp0 oT) (aN @k1 (aN (n3 oT) (aN @g1 (aN @g2 (aN @g3 (aN @g4 @dj)))))))))))))) @c4 @hof @c5 oT ?_;refine⟨fun y hy=>by obtain⟨z,-,rfl⟩:=cx.1 hy;exact dO.len z,?_⟩
   repeat' first|simp only[go_sem,seval]|refine oE ?_|apply xX<;>intro hc
   skip)
  rotate_left
  focus (
   refine nX (aN @l1 (aN @l3 (aN @l4 (aN @l5 (aN @e2 (aN @e3 (aN @e4 (aN (hp0 oT) (aN @k1 (aN (n3 oT) (aN @g1 (aN @g2 (aN @g3 (aN @g4 @dj)))))))))))))) @c4 @hof @c5 oT ?_;have q1:(aP ca lj).length=lj.length*2:=bT dO lj;have q2:=cf dO lj;have q3:=dI dO lj;have q4:=cK dO lj;rw[show List.map AV.v (List.flatMap PV.cells (List.map ca lj))=aP ca lj by rw[aP,jO]]
   refine⟨⟨fun y hy=>by obtain⟨z,-,rfl⟩:=cx.1 hy;exact dO.len z,fun y hy=>bz.1 q3 y hy,oO,oO⟩,?_⟩
   repeat' first|simp only[go_sem,seval,q1,q2,q3,q4,dj]|refine oE ?_|apply xX<;>intro hc
   skip)
  all_goals (
   refine ah (α:=Nat) (fun j=>lv.length-(j+1)) (fun j=>⟨[(4, .p 1000 0 0),(5, .p 1001 0 0),(6, .p 1002 0 0),(7, .p 1003 0 0),(8, .p 1004 0 0),(9, .p 1005 0 0),(11, .p 1009 0 0),(12, .p 1010 0 0),(17, .v (.s q)),(21, .p 1107 0 0),(22, .p 1117 0 0),(23,E' (j+1))],[(1107,⟨0,[.v (.sl (F0.map .s)), .v (.s ch), .v (.sl (rs.map ca))],false,some 56⟩),(1182,⟨j,aP jV (X.take (j+1)),true,some 56⟩),(1117,⟨0,[.rs 1123 0 0 gs.length 1, .rs 1182 j 0 (j+1) 3],false,some 59⟩),(1123,⟨0,aP PV.s gs,true,some 22⟩),(1000,⟨0,[.v (.s c), .v (.s sl)],false,none⟩),(1001,⟨0,[.v (.sl (gq.map cz)), .v (.sl (vs.map bO)), .v (.sl (es.map bZ.pv))],false,none⟩),(1002,⟨0,[.v (.sl (lv.map aT.pv)), .v (.sl (G.map Gt.pv))],false,none⟩),(1003,⟨0,[.v (.s ch), .v (.sl (rs.map ca)), .v (.sl (gs.map .s)), .v (.sl (ls.map fj))],false,none⟩),(1004,⟨0,[.sn, .v (.s []), .sn],false,some 56⟩),(1005,⟨0,[.sn, .sn],false,some 59⟩),(1009,⟨0,[.sn, .v (.s []), .sn],false,some 56⟩),(1010,⟨0,[.sn, .sn],false,some 59⟩)],1188⟩) (fun j=>j+1<=lv.length/\nW q X=nW q (X.drop (j+1))) 0 (fun _=>cd rfl) ⟨hpos,hdr⟩ ?_ ?_
   ·rw[r1,List.take_zero,show aP jV []=[]from rfl]
    refine AS.Le.ofF [] [(1107,⟨0,[.v (.sl (F0.map .s)), .v (.s ch), .v (.sl (rs.map ca))],false,some 56⟩),(1182,⟨0,[]++[.v (.sl (Fj.map .s)), .v (.s cj), .v (.sl (lj.map ca))],true,some 56⟩)] [1113,1175] ?_ (fun _ h=>by cases h) ?_ ?_ ?_ ?_
    ·intro m hm;simp only[cM,jN,or_false]at hm;rcases hm with rfl|rfl<;>exact⟨by decide,rfl⟩
    ·intro p hp;simp only[cM,jN,or_false]at hp;rcases hp with rfl|rfl
     ·exact⟨⟨_,rfl,sX.Qm (A:=[]) (by first|exact cell0 n1|exact Na dO rfl rfl (by simp))⟩,(by show(1107:Nat)<1188;decide),by intro c hc;simp only[cM,jN,or_false]at hc;rcases hc with rfl|rfl|rfl<;>rfl⟩
     ·exact⟨⟨_,rfl,sX.Qm (A:=[]) (by first|exact cell0 n3|exact M9 n3|exact Na dO rfl rfl (by simp))⟩,(by show(1182:Nat)<1188;decide),by intro c hc;simp only[List.nil_append,cM,jN,or_false]at hc;rcases hc with rfl|rfl|rfl<;>rfl⟩
    ·decide
    ·simp[cU,aO,AV.bd]
    ·simp[cT,az,AV.bd,AV.bd.bdL]
     try (intro c hc;exact bj hc)
   clear e2 e3 e4 c4 c5 hdr r1 k1 n3 n1 hlz hlv j1 j3;rintro j ⟨hj,hd⟩ R hR;rw[hd];have hj1:(X.take (j+1)).length=j+1:=by rw[bQ];omega
   have b1:=bT xD (X.take (j+1));have b2:=cf xD (X.take (j+1));rw[hj1]at b1 b2
   by_cases hjt:j+1<lv.length
   case pos=>
    have hgo:=fun h=>hR (j+1) ⟨oO,h⟩ oO
    rw[hd]at hgo;clear hR;have e2:=getD_map aT.pv lv cC hjt;have e3:=getD_map fj ls ([]:List (Bool×Bytes)) (show(j+1)<ls.length by omega)
    have hXg:=hXget _ hjt;obtain⟨jj,j1,-,j3,-⟩:=Dz hF hjt;have c4:=Pz (G:=G) oO hGk (j+1);rw[j3]at c4 hXg;rw[Int.toNat_natCast]at hXg;have e4:=fJ (show jj<gs.length by omega)
    have hsm:=ai cC hjt;have hlz:=hle _ (show(j+1)<ls.length by omega)
    have hlv:=hvl _ hsm;have c5:=hFi _ hsm (gs.getD jj []) (ls.getD (j+1) []) (ai [] (show(j+1)<ls.length by omega)) oO
    have r1:aP jV (X.take ((j+1)+1))=aP jV (X.take (j+1))++[.v (.sl ((ep (lv.getD (j+1) cC) (gs.getD jj []) (ls.getD (j+1) [])).map .s)), .v (.s (gs.getD jj [])), .v (.sl ((ls.getD (j+1) []).map ca))]:=by
     rw[aL pg (show(j+1)<X.length by omega),bU,hXg];rfl
    have hlf:S2 q (X.getD (j+1) pg)=cG (ba (lv.getD (j+1) cC).groups) q [2] (lv.getD (j+1) cC).vars (gs.getD jj []) (ls.getD (j+1) []):=by rw[hXg];rfl
    have hdr:=rO q (X:=X) (i:=(j+1)) oO;rw[hlf]at hdr;clear hXg hsm hlf;generalize X.getD (j+1) pg=x at*;generalize gs.getD jj []=cj at*;generalize ls.getD (j+1) []=lj at*;generalize lv.getD (j+1) cC=sj at*;simp only[fj]at e3
    by_cases hz:cG (ba sj.groups) q [2] sj.vars cj lj=0
    case neg=>
     rw[af hz]at hdr;have hb:(cG (ba sj.groups) q [2] sj.vars cj lj==0)=false:=by simpa using hz
     have hb2:(cG (ba sj.groups) q [2] sj.vars cj lj !=0)=true:=by simpa using hz
     rw[hdr,aa hz];rw[qR hz]at c5;generalize cG (ba sj.groups) q [2] sj.vars cj lj=e at*;obtain⟨gj,vj,ej⟩:=sj;simp only[aT.pv]at e2 c5;clear r1 hgo;exact ry (aN @l1 (aN @l3 (aN @l4 (aN @l5 (aN @e2 (aN @e3 (aN @e4 (aN @hb (aN @hb2 (aN @g1 (aN @g2 (aN @g3 (aN @g4 (aN @b1 (aN @b2 @dj))))))))))))))) @c4 @hof @c5 oT
    rw[aa (by simpa using hz)]at hdr
    rw[rH hz,hz]at c5;have hgo:=hgo hdr;rw[r1]at hgo;clear hz;generalize ep sj cj lj=Fk at*;obtain⟨gj,vj,ej⟩:=sj;simp only[aT.pv]at e2 c5;have k1:(lj.map ca).length=lj.length:=au ..;have hct:(∀ _:True,lj.length=0)\/(∀ _:True,¬lj.length=0):=by
     by_cases h:lj.length=0
     ·exact .inl fun _=>h
     ·exact .inr fun _=>h
    rcases hct with n3|n3
    focus (
     refine nX (aN @l1 (aN @l3 (aN @l4 (aN @l5 (aN @e2 (aN @e3 (aN @e4 (aN @k1 (aN (n3 oT) (aN @g1 (aN @g2 (aN @g3 (aN @g4 (aN @b1 (aN @b2 @dj))))))))))))))) @c4 @hof @c5 oT ?_;refine⟨fun y hy=>by obtain⟨z,-,rfl⟩:=cx.1 hy;exact dO.len z,?_⟩
     repeat' first|simp only[go_sem,seval,b1,b2]|refine oE ?_|apply xX<;>intro hc
     skip)
    rotate_left
    focus (
     refine nX (aN @l1 (aN @l3 (aN @l4 (aN @l5 (aN @e2 (aN @e3 (aN @e4 (aN @k1 (aN (n3 oT) (aN @g1 (aN @g2 (aN @g3 (aN @g4 (aN @b1 (aN @b2 @dj))))))))))))))) @c4 @hof @c5 oT ?_;have q1:(aP ca lj).length=lj.length*2:=bT dO lj;have q2:=cf dO lj;have q3:=dI dO lj;have q4:=cK dO lj;rw[show List.map AV.v (List.flatMap PV.cells (List.map ca lj))=aP ca lj by rw[aP,jO]]
     refine⟨⟨fun y hy=>by obtain⟨z,-,rfl⟩:=cx.1 hy;exact dO.len z,fun y hy=>bz.1 q3 y hy,oO,oO⟩,?_⟩
     repeat' first|simp only[go_sem,seval,q1,q2,q3,q4,b1,b2,dj]|refine oE ?_|apply xX<;>intro hc
     skip)
    all_goals (
     refine hgo _ ?_;refine AS.Le.ofF [] [(1107,⟨0,[.v (.sl (F0.map .s)), .v (.s ch), .v (.sl (rs.map ca))],false,some 56⟩),(1182,⟨j+1,aP jV (X.take (j+1))++[.v (.sl (Fk.map .s)), .v (.s cj), .v (.sl (lj.map ca))],true,some 56⟩)] [1236] ?_ (fun _ h=>by cases h) ?_ ?_ ?_ ?_
     ·intro m hm;simp only[cM,jN,or_false]at hm;rcases hm with rfl
      exact⟨by decide,rfl⟩
     ·intro p hp;simp only[cM,jN,or_false]at hp;rcases hp with rfl|rfl
      ·exact⟨⟨_,rfl,sX.refl _ _ _⟩,(by show(1107:Nat)<1188;decide),by intro c hc;simp only[cM,jN,or_false]at hc;rcases hc with rfl|rfl|rfl<;>rfl⟩
      ·exact⟨⟨_,rfl,sX.Qm (A:=aP jV (X.take (j+1))) (by first|exact M9 n3|exact Na dO rfl rfl (by simp))⟩,(by show(1182:Nat)<1188;decide),by intro c hc;rcases iA.1 hc with hc|hc<;>first|exact bj hc|(simp only[cM,jN,or_false]at hc;rcases hc with rfl|rfl|rfl<;>rfl)⟩
     ·decide
     ·simp[cU,aO,AV.bd]
     ·simp[cT,az,AV.bd,AV.bd.bdL]
      try (intro c hc;exact bj hc))
   have hjv:j+1=lv.length:=oO;rw[show X.drop (j+1)=[]from gG oO,show nW q []=0 from rfl,af rfl]
   rw[show X.take (j+1)=X from cQ oO]at b1 b2⊢
   have p2:=dI xD X;have p3:=cK xD X;rw[hXl,<-hjv]at p3;rw[<-hjv]at l5;clear hR;repeat' first|simp only[go_sem,seval,l5,b1,b2,p2,p3,g1,g2,g3,g4,dj]|refine oE ?_|apply xX<;>intro hc
   skip))
theorem pA {s:aT} {cl:ik} {e:Int} (h:jC c s cl ch rs gs ls=e) (he:e≠0):AL c sl s cl ch rs gs ls= .tup [Ke,B0,E e]:=by
 have h2:nH c sl s cl ch rs gs ls=e:=by
  unfold nH;rw[h,af he]
 unfold AL;rw[h2,aa he]
theorem Ye {ctx:Bytes} {s:aT} {cl:ik} (h:LZ c sl ctx s cl) (h1:rs.length<1000000) (h2:gs.length<=1000) (h3:ls.length<=1000) (h4: ∀l∈ls,l.length<1000000) (r24: ∀x∈rs,x.2.length<=24) (l24: ∀l∈ls,∀x∈l,x.2.length<=24):
  aH 15 [.agg [.s c, .s sl],s.pv,cl.pv,kC ch rs gs ls] (H3 c sl s cl ch rs gs ls):=by
 have hst:=CP h.lc h.ls h.zs h.zc h.g5;unfold H3
 by_cases hE:ij c sl s cl=0
 case neg=>
  rw[af hE];have hb:(ij c sl s cl==0)=false:=by simpa using hE
  generalize ij c sl s cl=e at*;unfold kC aT.pv ik.pv at*;refine eW call15 func15 ?_;exact iE @hb @hst
 rw[aa (show¬ij c sl s cl≠0 by simpa using hE)]
 rw[hE]at hst;obtain⟨hp,hG,c0⟩:=wZ h.lc h.ls h.zs h.zc hE;have vc:=hp.r.vc;have hnl:cl.leaves.length<1000000:=by have:=hG.sz.nl;omega
 have vq:ae (bY cl.leaves)=true:=by
  by_cases h0:cl.leaves=[]
  ·rw[h0];rfl
  ·exact(hG.q h0).v
 by_cases hok:(ae ch&&rs.all cr&&ls.all (fun l=>l.all cr)&&gs.all ae)=true
 case neg=>
  have hok:=dR.2 hok;have hf:jC c s cl ch rs gs ls=3:=by
   unfold jC;rw[af (by rw[hok];rfl)]
  rw[pA hf oC];exact TP hst h1 h2 h3 (fun l hl=>by have:=h4 l hl;omega) hok
 have hok1:=hok;simp only[bc]at hok1;obtain⟨⟨⟨o1,o2⟩,o3⟩,o4⟩:=hok1;have hf:jC c s cl ch rs gs ls=if rs.length≠s.vars.length\/gs.length≠cl.gates.length\/ls.length≠cl.leaves.length\/(ls.zip cl.leaves).all DG=false then 6 else if num c<=num ch\/gs.any (L4 (bY cl.leaves))=true then 2 else 0:=by
  unfold jC;rw[aa (by rw[hok];decide)]
 by_cases hm:rs.length≠s.vars.length\/gs.length≠cl.gates.length\/ls.length≠cl.leaves.length
 ·rw[af (by rcases hm with h|h|h;exact .inl h;exact .inr (.inl h);exact .inr (.inr (.inl h)))]at hf
  rw[pA hf oC];exact TQ hst h1 h2 h3 h4 o1 o2 o3 o4 hm
 have hm':rs.length=s.vars.length/\gs.length=cl.gates.length/\ls.length=cl.leaves.length:=oO
 by_cases hz:(ls.zip cl.leaves).all DG=true
 case neg=>
  rw[af (.inr (.inr (.inr (dR.2 hz))))]at hf;rw[pA hf oC];refine PF hst h1 h2 h3 h4 o1 o2 o3 o4 hm' (Classical.byContradiction fun hn=>hz (bz.2 fun x hx=> ?_))
  obtain⟨i,hi,rfl⟩:=fU hx;have hi2:i<ls.length:=by rw[List.length_zip]at hi;omega
  refine Classical.byContradiction fun g=>hn ⟨i,hi2,fun e=>g ?_⟩
  have:=pN ([]:List (Bool×Bytes)) cC hi2 (show i<cl.leaves.length by omega)
  rw[bu,bC hi,Option.getD_some]at this;rw[this];exact aQ e
 have hle: ∀i,i<ls.length->(ls.getD i []).length=(cl.leaves.getD i cC).vars.length:=fun i hi=>by
  have hzl:i<(ls.zip cl.leaves).length:=by rw[List.length_zip];omega
  have:=bz.1 hz _ (ai (([],cC):List (Bool×Bytes)×aT) hzl);rw[pN _ _ hi oO]at this;exact of_decide_eq_true this
 rw[aa (by rintro(g|g|g|g);exact hm (.inl g);exact hm (.inr (.inl g));exact hm (.inr (.inr g));rw[hz]at g;cases g)]at hf
 by_cases hge:num c<=num ch
 ·rw[af (.inl hge)]at hf;rw[pA hf oC];exact TO hst h1 h2 h3 h4 o1 o2 o3 o4 vc hnl hG.sz.s vq hm' hle hge
 have hlt:num ch<num c:=oO
 by_cases hgq:gs.any (L4 (bY cl.leaves))=true
 ·rw[af (.inr hgq)]at hf;rw[pA hf oC];obtain⟨g,hg,hx⟩:=m9.1 hgq;exact PE hst h1 h2 h3 h4 o1 o2 o3 o4 vc hnl hG.sz.s vq hm' hle hlt ⟨g,hg,of_decide_eq_true hx⟩
 rw[aa (by rintro(g|g);exact hge g;exact hgq g)]at hf
 have hgl: ∀g∈gs,num g<num (bY cl.leaves):=fun g hg=>Classical.byContradiction fun e=>hgq (m9.2 ⟨g,hg,aQ oO⟩)
 have hfi:=CJ hp h.zs.sh (ch:=ch) (l:=rs) h1 r24
 by_cases hi:cG (ba s.groups) c sl s.vars ch rs=0
 case neg=>
  have hO:nH c sl s cl ch rs gs ls=cG (ba s.groups) c sl s.vars ch rs:=by
   unfold nH;rw[hf,aa oC,af hi]
  unfold AL;rw[hO,aa hi];rw[qR hi]at hfi;exact TS hst h1 h2 h3 h4 o1 o2 o3 o4 vc hnl hG.sz.s vq hm' hle hlt hgl hi hfi
 rw[rH hi,hi]at hfi;have hO:nH c sl s cl ch rs gs ls=nW (bY cl.leaves) (nG cl gs ls):=by
  unfold nH;rw[hf,aa oC,aa (by simpa using hi)]
 unfold AL;rw[hO]
 by_cases h0:cl.leaves=[]
 ·have:=PG hst h1 h2 h3 h4 o1 o2 o3 o4 vc hnl hG.sz.s vq hm' hle hlt hgl hfi h0;have hX:nG cl gs ls=[]:=by
   have:=jK cl gs ls;rw[h0]at this;exact dt.1 this
  rw[hX,show nW (bY cl.leaves) []=0 from rfl,af rfl]
  exact this
 ·exact TT hst h1 h2 h3 h4 o1 o2 o3 o4 vc hnl hG.sz.s vq hm' hle hlt hgl hfi hG h0 l24
theorem Ig (l:List (Bool×Bytes)) (hl:l.length<4611686018427387904):aH 53 [.sl (l.map ca), .sl (l.map ca)] (.b true):=by
 have l1:(l.map ca).length=l.length:=au ..;have e0: ∀n:Int,(n==n)=true:=fun n=>eY n
 refine eW call53 func53 ?_;repeat' first|simp only[go_sem,seval,l1,iz]|refine oE ?_|apply xX<;>intro hc
 refine ah (α:=Nat) (fun i=>l.length-i) (fun i=>⟨[(0, .v (.sl (l.map ca))),(1, .v (.sl (l.map ca))),(5,E' i)],[],_⟩) (fun i=>i<=l.length) 0 (fun _=>aA _) (aD _) ?_ ?_
 ·exact lE
 ·intro i hi R hR
  by_cases hlt:i<l.length
  ·have e1:=getD_map ca l eT hlt;have hgo:=hR (i+1) oO oO;obtain⟨z,hz⟩: ∃z,z=l.getD i eT:=⟨_,rfl⟩;rw[<-hz]at e1;clear hz hR;obtain⟨n,a⟩:=z;simp only[ca]at e1;have e2: ∀ _:True,(n==n)=true:=fun _=>eY _
   have e3: ∀ _:True,(a==a)=true:=fun _=>eY _
   repeat' first|simp only[go_sem,seval,l1,e1,vW,e2 oT,e3 oT]|refine oE ?_|apply xX<;>intro hc
   refine hgo _ ?_;exact lE
  ·obtain rfl:i=l.length:=oO;exact fz @l1
theorem JQ {F:List Bytes} (c:Bytes) {l:List (Bool×Bytes)} (hF:F.length<4611686018427387904) (hl:l.length<4611686018427387904):aH 16 [.agg [.sl (F.map .s), .s c, .sl (l.map ca)], .agg [.sl (F.map .s), .s c, .sl (l.map ca)]] (.b true):=by
 have h1:=CO F hF;have h2:=Ig l hl;have e1:=eY c;refine eW call16 func16 ?_;exact vV @e1 @h1 @h2
theorem TU (hg:gs.length<4611686018427387904) {X:List Lf} (hX:X.length<4611686018427387904) (h: ∀x∈X,(ep x.1 x.2.1 x.2.2).length<4611686018427387904/\x.2.2.length<4611686018427387904):aH 17 [.agg [.sl (gs.map .s), .sl (X.map jV)], .agg [.sl (gs.map .s), .sl (X.map jV)]] (.b true):=by
 have h1:=CO gs hg;have l1:(X.map jV).length=X.length:=au ..;have e0: ∀n:Int,(n==n)=true:=fun n=>eY n
 refine eW call17 func17 ?_;repeat' first|simp only[go_sem,seval,l1,iz]|refine cP h1 ?_|refine oE ?_|apply xX<;>intro hc
 refine ah (α:=Nat) (fun i=>X.length-i) (fun i=>⟨[(2, .p 1000 0 0),(3, .p 1001 0 0),(5,E' i)],[(1000,⟨0,[.v (.sl (gs.map .s)), .v (.sl (X.map jV))],false,none⟩),(1001,⟨0,[.v (.sl (gs.map .s)), .v (.sl (X.map jV))],false,none⟩)],_⟩) (fun i=>i<=X.length) 0 (fun _=>aA _) (aD _) ?_ ?_
 ·exact lE
 ·intro i hi R hR
  by_cases hlt:i<X.length
  ·have e1:=getD_map jV X pg hlt;have hm:=h _ (ai pg hlt);have hgo:=hR (i+1) oO oO;generalize X.getD i pg=x at*;obtain⟨s0,c0,r0⟩:=x;have c1:=JQ c0 hm.1 hm.2;simp only[jV]at e1;simp only at c1;generalize (ep s0 c0 r0).map PV.s=F at*;clear hR hm;exact gi (aN @l1 @e1) @hgo @c1
  ·obtain rfl:i=X.length:=oO;exact fz @l1
theorem WL (x:BW) (ch:Bytes) (rs:List (Bool×Bytes)) (gs:List Bytes) (ls:List (List (Bool×Bytes))) (hx:Mc x) (h1:rs.length<4611686018427387904) (h2:gs.length<4611686018427387904) (h3:ls.length<4611686018427387904) (h4: ∀l∈ls,l.length<4611686018427387904):aH 5 [x.pv,kC ch rs gs ls] (.b true):=by
 have hf:=z8 hx;have hs:=Bi ch h1 h2 h3 h4;have aw:=Fh
 by_cases hg:sQ x=true/\rm ch rs gs ls=true
 case neg=>
  clear hx h1 h2 h3 h4;generalize sQ x=b1 at*;generalize rm ch rs gs ls=b2 at*;unfold BW.pv kC at*;cases b1
  ·refine eW call5 func5 ?_;exact z2 @hf @aw
  ·cases b2
   ·refine eW call5 func5 ?_;exact z4 @hf @hs @aw oT
   ·exact aJ ⟨rfl,rfl⟩ hg
 rw[hg.1]at hf;rw[hg.2]at hs;obtain⟨hc,-⟩:=Dv hg.1;obtain⟨-,s1,s2,s3,-,s5,s6⟩:=J1 hg.2;have v1:=Nw hc (ch:=ch) (rs:=rs) (gs:=gs) (ls:=ls) oO oO oO h4;have v2:=Ye hc (ch:=ch) (rs:=rs) (gs:=gs) (ls:=ls) oO oO oO (fun l hl=>by have:=(s6 l hl).1;omega) s2 (fun l hl=>(s6 l hl).2)
 have hk: ∃(s:aT) (cc:Bytes) (r:List (Bool×Bytes)) (g:List Bytes) (X:List Lf) (e:Int),H3 x.c x.sl x.s x.cl ch rs gs ls= .tup [.agg [.sl ((ep s cc r).map .s), .s cc, .sl (r.map ca)], .agg [.sl (g.map .s), .sl (X.map jV)],E e]/\(ep s cc r).length<4611686018427387904/\r.length<4611686018427387904/\g.length<4611686018427387904/\X.length<4611686018427387904/\ ∀x∈X,(ep x.1 x.2.1 x.2.2).length<4611686018427387904/\x.2.2.length<4611686018427387904:=by
  unfold H3 AL;have hz: ∀e:Int,∃(s:aT) (cc:Bytes) (r:List (Bool×Bytes)) (g:List Bytes) (X:List Lf) (e':Int),PV.tup [Ke,B0,E e]= .tup [.agg [.sl ((ep s cc r).map .s), .s cc, .sl (r.map ca)], .agg [.sl (g.map .s), .sl (X.map jV)],E e']/\(ep s cc r).length<4611686018427387904/\r.length<4611686018427387904/\g.length<4611686018427387904/\X.length<4611686018427387904/\ ∀x∈X,(ep x.1 x.2.1 x.2.2).length<4611686018427387904/\x.2.2.length<4611686018427387904:=fun e=>⟨⟨[],[],[]⟩,[],[],[],[],e,rfl,by simp[ep],by simp,by simp,by simp,fun x h=>by cases h⟩
  by_cases hE:ij x.c x.sl x.s x.cl=0
  case neg=>rw[af hE];exact hz _
  rw[aa (by simpa using hE)]
  by_cases hO:nH x.c x.sl x.s x.cl ch rs gs ls=0
  case neg=>rw[aa hO];exact hz _
  rw[af hO];obtain⟨hp,hG,-⟩:=wZ hc.lc hc.ls hc.zs hc.zc hE;refine⟨x.s,ch,rs,gs,nG x.cl gs ls,0,rfl,?_,h1,h2,?_,fun y hy=> ?_⟩
  ·rw[iS];have:=hp.g.ne;omega
  ·rw[jK];have:=hc.l12;omega
  ·unfold nG at hy;obtain⟨i,hi,rfl⟩:=cx.1 hy;have hi:=fV.1 hi;have hs:=hG.ck _ (ai cC hi);refine⟨?_,?_⟩
   ·rw[iS];have:=hs.ne;simp only;omega
   ·simp only
    by_cases hj:i<ls.length
    ·exact h4 _ (ai [] hj)
    ·rw[bu,mi oO];decide
 obtain⟨s',cc,r,g,X,e,he,k1,k2,k3,k4,k5⟩:=hk;rw[he]at v1 v2;have w1:=JQ cc k1 k2;have w2:=TU k3 k4 k5;generalize (ep s' cc r).map PV.s=F at*;generalize r.map ca=R at*;generalize g.map PV.s=Gs at*;generalize X.map jV=Xs at*;obtain⟨c,sl,ctx,⟨gq,vs,es⟩,⟨lv,G⟩,w,ws⟩:=x;have e0:(e==e)=true:=eY e;clear hg hc hx s1 s2 s3 s5 s6 h1 h2 h3 h4 he k1 k2 k3 k4 k5;simp only[BW.pv,kC,aT.pv,ik.pv]at*;refine eW call5 func5 ?_;exact Uq @e0 @hf @hs @aw @v1 @v2 @w1 @w2
end Go.Proofs.Tryz
namespace Go.Proofs.YthlapgdhjcddkaaGreatDoor
open Go Go.Dom Go.ChangeShapes Go.WideShapes Go.ChangeAt Go.RowKit Go.Proofs.Tryz
theorem DR (os:Os) (started:os.Started) (H:Type) (enc:TypeId×Value->H):
  ReturnsInHanded {} Tryz.checked os 5 .any (fun w args=>(Rows.fiatshamirOpensSpec.pre enc Tryz.prog Tryz.f5 [] false w args/\laidMetH Tryz.prog mM w)/\sizedMet enc Tryz.prog Tryz.f5 (OpenSpec.ofChange Rows.fiatshamirOpensSpec) false w args)
   (Rows.fiatshamirOpensSpec.post enc Tryz.prog Tryz.f5 false true false false):=by
 refine returnsInHanded_of_change_and (C:=Tryz.checked) (X:=fun w _=>laidMetH Tryz.prog mM w) (fun _ _ _ hh h=>h.of_heap hh) XM started (by kernel_rfl) Tryz.func5
  (ChangeSpec.witness_shaped (enc:=enc) (C:=Tryz.checked) (os:=os) (X:=fun w _=>laidMetH Tryz.prog mM w) false (World.laidAll Tryz.prog os mM) #[.agg #[.string ⟨#[]⟩, .string ⟨#[]⟩, .string ⟨#[]⟩, .slice none 0 0, .slice none 0 0, .slice none 0 0, .slice none 0 0, .slice none 0 0, .slice none 0 0, .slice none 0 0], .agg #[.string ⟨#[]⟩, .slice none 0 0, .slice none 0 0, .slice none 0 0]] 8 (World.laidAll_os _ _ _)
   (World.shaped_of_ZipB (by kernel_rfl) (by kernel_rfl)) (by kernel_rfl) (by kernel_rfl) (by kernel_rfl)
   (by rw[MakeChecks.laidMetH_plain _ _ _ (by kernel_rfl)];exact laidMet_laidAll _ (by kernel_rfl) (by kernel_rfl))) ?_
 intro W base args ds gs before hval0 hW hcnd hwt hL _;rw[MakeChecks.laidMetH_plain _ _ _ (by kernel_rfl)]at hL
 have hval: ∀(j:Nat) t v,Tryz.f5.params[j]?=some t->args[j]?=some v->Value.okWide Tryz.prog W .any base t v:=hval0;have hW':=hW;obtain⟨p,q,hA0,hV,rfl,hfz,hnd⟩:=hW;have hA:DataW.TrodAll enc Tryz.prog W 0 (fun _=>true) true Tryz.f5.params.toList args.toList ds p:=hA0
 have hlt: ∀x∈p++q,x.block<W.heap.size:=fun x hx=>hW'.lt x hx
 rw[Tryz.params5]at hA hval;obtain⟨v0,v1,d0,d1,p0,p1,rfl,rfl,rfl,h0,h1⟩:=trodAll_two hA;obtain⟨rfl,rfl⟩:=trodVars_none hV;have hall:=bz.1 hwt;have rb:=reachBytes_lt;have hv0:=hval 0 39 v0 rfl rfl;unfold Value.okWide at hv0;rw[Tryz.underlying39]at hv0;simp only at hv0;obtain⟨c0,rfl,s0,-⟩:=hv0;have w0: ∀m∈d0.weights Tryz.prog 39,m<=reachBytes:=fun m hm=>of_decide_eq_true (hall m (DataW.weights_mem_each (j:=0) rfl rfl m hm))
 obtain⟨n0,t0⟩:=id h0;obtain⟨L7,r0,o0,y0⟩:=oN 12 n0 _ c0.toList d0 p0 O2 t0 w0;obtain⟨x0,ea0,hx0⟩:=IC y0;have q0:PR (x8 W) (x0.pv) (.agg c0):=by
  rw[<-ea0];have:=PR.agg (rd:=x8 W) L7 c0.toList o0 r0.1 r0.2;simpa using this
 have hv1:=hval 1 52 v1 rfl rfl;unfold Value.okWide at hv1;rw[Tryz.underlying52]at hv1;simp only at hv1;obtain⟨c1,rfl,s1,-⟩:=hv1;have w1: ∀m∈d1.weights Tryz.prog 52,m<=reachBytes:=fun m hm=>of_decide_eq_true (hall m (DataW.weights_mem_each (j:=1) rfl rfl m hm))
 obtain⟨n1,t1⟩:=id h1;obtain⟨AZ,r1,o1,y1⟩:=oN 9 n1 _ c1.toList d1 p1 aah t1 w1;obtain⟨ch,rs,gs,ls,ea1,hb1,hc1,hd1,he1⟩:=Vk y1;have q1:PR (x8 W) (kC ch rs gs ls) (.agg c1):=by
  rw[<-ea1];have:=PR.agg (rd:=x8 W) AZ c1.toList o1 r1.1 r1.2;simpa using this
 obtain⟨g,hg,hc⟩:=WL x0 ch rs gs ls hx0 (by omega) (by omega) (by omega) (fun l hl=>by have:=he1 l hl;omega)
 have hg3:g=5:=by
  have a1:=hg #[] W;have a2:=Tryz.call5 #[] W;rw[a1]at a2;injection a2 with a2 _
  injection a2
 subst hg3;refine(hc W (x8 W) [.agg c0, .agg c1] (xh hL) (fun _ _ _ h=>h) (.cons q0 (.cons q1 .nil))).mono ?_
 rintro e W' ⟨v,rfl,hb,hpr⟩;cases hpr;refine⟨_,rfl,wR (pa:=p0++p1) (pv:=[]) hW' (fun _ _ _=>trodAll_mk1 (shut_bool C3 true)) (fun sp hsp=>trodAll_mk2 (WideElems.Trod_stays xz (by kernel_rfl) (of_decide_eq_true (by kernel_rfl)) h0 (fun x hx=>hb.same (hlt x (by simp[hx]))) (fun x hx=>hsp x (by simp[hx]))) (WideElems.Trod_stays xz (by kernel_rfl) (of_decide_eq_true (by kernel_rfl)) h1 (fun x hx=>hb.same (hlt x (by simp[hx]))) (fun x hx=>hsp x (by simp[hx])))) (fun _ _=>rfl) (by simp) hb (ok_one (by kernel_rfl) rfl (okWide_bool_mk C3 true))⟩
