/- Part of the proof. -/
import Derived.Test.YthlapgdhjcddkaaGreatDoorUF39
set_option linter.all false
set_option maxHeartbeats 16000000
set_option maxRecDepth 100000
namespace Go.Proofs.Tryz
open Go Go.Dom Go.Num
def E7:aT:=⟨[([23],[11])],[[]],[⟨0,[18],[⟨[4],0,false,[1]⟩]⟩]⟩
theorem Vh:qH E7:=by
 refine⟨?_,?_,?_,by decide,by decide,by decide⟩<;>intro x hx<;>obtain rfl:=fa.1 hx<;>simp
theorem UI:mq [2] [2] E7=0:=by kernel_rfl
theorem xH:xQ [2] [2] E7:=rD oC oC Vh UI
theorem i18:gV 18 23=9:=mO oC oC
theorem U0:ep E7 [1] [(false,[5])]=[[16]]:=by
 have e:dM 23 18 true 1=9:=by unfold dM;rw[i18];rfl
 show[b7 (o6 23 [(false,[5])] (dM 23 18 true 1) ⟨[4],0,false,[1]⟩)]=[[16]];rw[e]
 kernel_rfl
abbrev zB:PV:= .agg [.sl [.agg [.s [23], .s [11]]], .sl [.agg [.s []]], .sl [.agg [E 0, .s [18], .sl [.agg [.s [4],E 0, .b false, .s [1]]]]]]
abbrev Rx:PV:= .agg [.s [2], .s [2], .sl [.agg [.s [23], .s [11]]], .sl [.agg [.s []]], .sl [.agg [E 0, .s [18], .sl [.agg [.s [4],E 0, .b false, .s [1]]]]], .sl [], .sl [], .s []]
abbrev Rv:PV:= .agg [.s [1], .sl [.agg [.b false, .s [5]]], .sl [], .sl []]
abbrev Ru:PV:= .agg [.sl [.s [16]], .s [1], .sl [.agg [.b false, .s [5]]]]
theorem Va:aH 28 [.agg [.s [2], .s [2]],zB,C0] (.tup [Rx,E 0]):=re xH
theorem acf:aH 95 [.sl [.agg [.b false, .s [5]]]] (.sl [.agg [.b false, .s [5]]]):=vY (l:=[(false,[5])]) oC oC
theorem J2:aH 43 [Rx,Rv] (.tup [Ru, .agg [.sl [], .sl []],E 0]):=by
 have c1:aH 90 [Rx,Rv] (E 0):=yp (c:=[2]) (sl:=[2]) oC E7 [1] [(false,[5])] [] [] oC oC oC (fun l h=>by cases h)
 have c2:aH 91 [.agg [.s [2], .s [2]],zB, .s [1], .sl [.agg [.b false, .s [5]]]] (.tup [.sl [.s [16]],E 0]):=by
  have h:=D4 xH oC (ch:=[1]) (l:=[(false,[5])]) oC;have e:cG (ba E7.groups) [2] [2] E7.vars [1] [(false,[5])]=0:=by kernel_rfl
  have e2:jB [2] [2] E7 [1] [(false,[5])]=[.s [16]]:=by
   unfold jB;rw[af e];have:=congrArg (List.map PV.s) U0;exact this
  rw[e,e2]at h;exact h
 have c3:=C9;have c4:=acf;refine eW call43 func43 ?_;exact zu4 @c1 @c2 @c3 @c4
theorem XG:aH 14 [.agg [.s [2], .s [2]],zB,C0,Rv] (.tup [Ru, .agg [.sl [], .sl []],E 0]):=by
 have c1:=Va;have c2:=J2;refine eW call14 func14 ?_;exact z2 @c1 @c2
theorem Zl:aH 44 [Rx, .agg [.sl [], .sl []], .s [1]] (.b true):=by
 refine eW call44 func44 ?_;exact z0
theorem YD (x:Int) (h:x.natAbs<100):WS E7 [x]:=by
 intro q hq;obtain rfl:=fa.1 hq;intro t ht;obtain rfl:=fa.1 ht;have e:zo (false,([1]:Bytes))=1:=rfl;have hL:100<ek:=by decide+kernel
 refine⟨by decide,by simp,by decide,?_,?_⟩
 ·show x.natAbs<ek;omega
 ·show(zo (false,([1]:Bytes))).natAbs*x.natAbs<ek;rw[e];simp only[Int.natAbs_one,iL];omega
theorem OH {x:Int} (h:x.natAbs<100): ∀y∈[x],y.natAbs<ek:=fun y hy=>by
 have hL:100<ek:=by decide+kernel
 obtain rfl:=fa.1 hy;omega
theorem N0:FT E7 [3]=true:=by kernel_rfl
theorem UF:aH 70 [.agg [.s [2], .s [2]],zB] (.tup [.sl [.s [11]], .sl [.s [11]],E 0]):=uW xH
theorem abi:aH 105 [.agg [.s [2], .s [2]],zB,Ru] (E 0):=by
 have h:=U9 xH (ch:=[1]) (w:=[5]) (by kernel_rfl) (OH oC) (YD 5 oC)
 rw[show([5]:List Int).map iB=[(false,[5])]from rfl,U0]at h
 exact h
theorem SM:aH 106 [zB, .sl [.agg [.b false, .s [3]]]] (.tup [.b true,E 0]):=by
 have h:=Cv xH.g (w:=[3]) rfl (OH oC) (fun _=>YD 3 oC)
 rw[N0]at h;exact h
theorem aaG:aH 62 [.agg [.s [2], .s [2]],zB, .sl [.agg [.b false, .s [3]]],Ru] (.tup [.sl [.agg [.b false, .s [2]]],E 0]):=by
 have c1:=UF;have c2:aH 104 [.sl [.agg [.b false, .s [3]]]] (.b true):=Bh [(false,[3])] oC;have c3:=abi;have c4:=SM;have c5:aH 110 [.s [1], .s [3], .s [11]] (.tup [.s [3],E 0]):=qY (a:=1) (b:=3) (m:=11) oC oC oC oC;have c6:aH 111 [.s [5], .s [3], .s [11]] (.tup [.s [2],E 0]):=F9 (a:=5) (b:=3) (m:=11) oC oC oC oC;have c7:aH 108 [.s [2]] (.agg [.b false, .s [2]]):=yj oC;refine eW call62 func62 ?_;repeat' first|simp only[go_sem,seval,nn,kO,gA]|refine cP c1 ?_|refine cP c2 ?_|refine cP c3 ?_|refine cP c4 ?_|refine cP c5 ?_|refine cP c6 ?_|refine cP c7 ?_|(refine aq ?_)|refine oE ?_|apply xX<;>intro hc
 all_goals rfl
theorem aaF:aH 63 [.agg [.s [2], .s [2]],zB, .sl [.agg [.b false, .s [2]]]] (.tup [.sl [.s [2]],E 0]):=by
 have c1:=UF;have c2:aH 104 [.sl [.agg [.b false, .s [2]]]] (.b true):=Bh [(false,[2])] oC;have c3:aH 112 [.agg [.s []], .s [11], .agg [.b false, .s [2]]] (.b true):=GG [] oC (L:=11) (by decide+kernel)
 refine eW call63 func63 ?_;exact abu @nn @c1 @c2 @c3
theorem UJ:aH 118 [C0] (.s []):=wq (ls:=[]) (G:=[]) oC
theorem Zy:aH 116 [C0, .agg [.sl [], .sl []]] (E 0):=by
 have c1:=UJ;refine eW call116 func116 ?_;exact YY @c1
theorem ab6:aH 64 [C0, .sl [], .agg [.sl [], .sl []]] (.tup [.sl [],E 0]):=by
 have c1:=UJ;have c2:=Zy;have c3:=OK;have c4:aH 115 [.agg [.sl [], .sl []]] (.b true):=zJ (gs:=[]) oC (fun g h=>by cases h) (X:=[]) oC (fun x h=>by cases h)
 have c5:=Jk;have c6:=De;refine eW call64 func64 ?_;repeat' first|simp only[go_sem,seval]|refine cP c1 ?_|refine cP c2 ?_|refine cP c3 ?_|refine cP c4 ?_|refine cP c5 ?_|refine cP c6 ?_|(refine aq ?_)|refine oE ?_|apply xX<;>intro hc
 all_goals rfl
theorem ZP:aH 26 [.agg [.s [2], .s [2]],zB, .sl [.agg [.b false, .s [3]]],C0, .sl [],Rv] (.tup [.sl [.s [2]],E 0]):=by
 have c1:=Va;have c2:=J2;have c3:=Zl;have c4:=aaG;have c5:=aaF;have c6:=ab6;refine eW call26 func26 ?_;exact z7 @c1 @c2 @c3 @c4 @c5 @c6 oT
def UY {α:Type}:Except Int α->Bool
 | .ok _=>true
 | .error _=>false
theorem Xf {α:Type} {e:Except Int α} (h:UY e=true): ∃r,e= .ok r:=by
 cases e with
 |ok r=>exact⟨r,rfl⟩
 |error e=>cases h
theorem aaR:UY (Eg [2] [2] [97] E7 [3] [] [115] 64 0)=true:=by kernel_rfl
theorem abk:yc E7 [3] [] 0=0:=by
 unfold yc;rw[N0]
 kernel_rfl
theorem UE:YM E7:=by
 refine⟨⟨[23],[11],rfl,by decide,by decide⟩,by decide,by decide,fun b hb=> ?_,by decide,fun q hq=> ?_⟩
 ·obtain rfl:=fa.1 hb;decide
 ·obtain rfl:=fa.1 hq;refine⟨by decide,by decide,by decide,by decide,fun t ht=> ?_⟩
  obtain rfl:=fa.1 ht;decide
theorem YC {c sl ctx:Bytes} {s:aT} {ch:Bytes} {rs:List (Bool×Bytes)} (hv:BR c sl ctx s ch rs [] []=0):rs.length=s.vars.length:=by
 unfold BR at hv
 by_cases h1:iT c s.vars.length ch rs [] []=0
 ·unfold iT at h1
  split at h1
  ·cases h1
  split at h1
  ·cases h1
  rename_i h2;exact Classical.byContradiction fun g=>h2 (.inl g)
 ·rw[af h1]at hv;exact aJ hv h1
theorem Tu: ∃(ch:Bytes) (rs:List Int) (j:Nat),rs.length=1/\aH 27 [.agg [.s [2], .s [2]], .s [97],zB, .sl [.agg [.b false, .s [3]]],C0, .sl [],T [] [115] 0] (.tup [.agg [.s ch, .sl (rs.map Zp), .sl [], .sl []],T [] [115] (j:Nat),E 0])/\BR [2] [2] [97] E7 ch (rs.map iB) [] []=0:=by
 obtain⟨⟨ch,rs,j⟩,h⟩:=Xf aaR;have hp:Lq [2] [2] [97] E7 [3] [] [115] 0= .ok (ch,rs,j):=by
  unfold Lq;rw[abk,aa oC];exact h
 have hP:=Mk xH UE oC (m:=[23]) (o:=[11]) rfl (ctx:=[97]) oC (w:=[3]) oC (OH oC) (fun _=>YD 3 oC) (vs:=[]) (sd:=[115]) (a:=0) oC oC
 rw[hp]at hP;have hz:=Wy xH N0 hp;have hl:=YC hz;rw[au]at hl;exact⟨ch,rs,j,hl,hP,hz⟩
abbrev abM:PV:= .agg [.s [2], .s [2], .s [], .sl [.agg [.s [23], .s [11]]], .sl [.agg [.s []]], .sl [.agg [E 0, .s [18], .sl [.agg [.s [4],E 0, .b false, .s [1]]]]], .sl [], .sl [], .sl [.agg [.b false, .s [3]]], .sl []]
theorem io1:aH 25 [E 1] (.agg [.b false, .s [1]]):=by
 have h1:aH 24 [.i .u64 1] (.s [1]):=iC 1 oC;have hm:=rQ false [1];refine eW call25 func25 ?_;exact z2 @h1 @hm
theorem io3:aH 25 [E 3] (.agg [.b false, .s [3]]):=by
 have h1:aH 24 [.i .u64 3] (.s [3]):=iC 3 oC;have hm:=rQ false [3];refine eW call25 func25 ?_;exact z2 @h1 @hm
theorem io5:aH 25 [E 5] (.agg [.b false, .s [5]]):=by
 have h1:aH 24 [.i .u64 5] (.s [5]):=iC 5 oC;have hm:=rQ false [5];refine eW call25 func25 ?_;exact z2 @h1 @hm
theorem St:aH 23 [] abM:=by
 have n4:aH 24 [.i .u64 4] (.s [4]):=iC 4 oC;have n23:aH 24 [.i .u64 23] (.s [23]):=iC 23 oC;have n11:aH 24 [.i .u64 11] (.s [11]):=iC 11 oC;have n18:aH 24 [.i .u64 18] (.s [18]):=iC 18 oC;have n2:aH 24 [.i .u64 2] (.s [2]):=iC 2 oC;have i1:=io1;have i3:=io3;refine eW call23 func23 ?_;exact z7 @n4 @n23 @n11 @n18 @n2 @i1 @i3
theorem IU (hV: ∀(ch:Bytes) (rs:List Int),rs.length=1->BR [2] [2] [97] E7 ch (rs.map iB) [] []=0->aH 13 [.agg [.s [2], .s [2]], .s [97],zB,C0, .agg [.s ch, .sl (rs.map Zp), .sl [], .sl []]] (E 0)):aH 9 [] (.b true):=by
 obtain⟨ch,rs,j,hl,hP,hz⟩:=Tu;have hV:=hV ch rs hl hz;clear hz hl;have ex:=St;have n1:aH 24 [.i .u64 1] (.s [1]):=iC 1 oC;have n2:aH 24 [.i .u64 2] (.s [2]):=iC 2 oC;have n16:aH 24 [.i .u64 16] (.s [16]):=iC 16 oC;have i5:=io5;have hO:=XG;have hE:=ZP;generalize rs.map Zp=L at*;generalize ((j:Nat):Int)=jj at*;refine eW call9 func9 ?_;repeat' first|simp only[go_sem,seval,eY,kO]|refine cP ex ?_|refine cP n1 ?_|refine cP i5 ?_|refine cP hO ?_|refine cP hE ?_|refine cP hP ?_|refine cP n16 ?_|refine cP n2 ?_|refine cP hV ?_|refine oE ?_|apply xX<;>intro hc
 all_goals rfl
