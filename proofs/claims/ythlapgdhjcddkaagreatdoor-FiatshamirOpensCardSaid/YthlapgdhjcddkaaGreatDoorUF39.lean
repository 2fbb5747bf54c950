/- Part of the proof. -/
import Derived.Test.YthlapgdhjcddkaaGreatDoorUF38
set_option linter.all false
set_option maxHeartbeats 16000000
set_option maxRecDepth 100000
namespace Go.Proofs.Tryz
open Go Go.Dom Go.Num
def Qc (n:Nat) (l:List Bytes):Bool:=l.all fun x=>decide (x.length<=n)
theorem qi (n:Nat) (l:List Bytes) (hl:l.length<1000000) (hn:n<100):aH 56 [E (n:Int), .sl (l.map .s)] (.b (Qc n l)):=by
 have l1:(l.map PV.s).length=l.length:=au ..;unfold Qc;refine eW call56 func56 ?_;refine pO ?_;refine ah (α:=Nat) (fun i=>l.length-i) (fun i=>⟨[(0,E' n),(1, .v (.sl (l.map .s))),(5,E' i)],[],_⟩) (fun i=>i<=l.length/\(l.drop i).all (fun x=>decide (x.length<=n))=l.all fun x=>decide (x.length<=n)) 0 (fun _=>aA _) ⟨aD _,rfl⟩ ?_ ?_
 ·exact lE
 ·rintro i ⟨hi,hf⟩ R hR;rw[<-hf]
  by_cases hlt:i<l.length
  ·have e1:=fJ hlt;have hgo:=hR (i+1);rw[<-hf]at hgo;rw[aE [] hlt,List.all_cons]at hgo⊢;generalize l.getD i []=x at*;clear hf hR
   by_cases ha:x.length<=n
   ·have hgo:=hgo ⟨oO,by simp[ha]⟩ oO
    exact gH (aN @l1 @e1) @hgo
   ·rw[aS ha,br];clear hgo;exact fz (aN @l1 @e1)
  ·obtain rfl:i=l.length:=oO;rw[bw,List.all_nil];clear hR hf;exact fz @l1
def zZt18 (t:dx):Bool:=Qc 9 [t.base,t.abs]
def zZq18 (q:bZ):Bool:=decide (q.terms.length<=8)&&(Qc 9 [q.tgt]&&q.terms.all zZt18)
def zZg18 (g:Bytes×Bytes):Bool:=Qc 8 [g.1,g.2]
def YT (b:Bytes):Bool:=Qc 16 [b]
def Cn (s:aT):Bool:=(decide (s.groups.length<=9)&&(decide (s.vars.length<=6)&&decide (s.eqs.length<=6)))&&(s.groups.all zZg18&&(s.vars.all YT&&s.eqs.all zZq18))
def zZt15 (t:dx):Bool:=decide (t.base.length<=12)&&decide (t.abs.length<=8)
def zZq15 (q:bZ):Bool:=(decide (q.tgt.length<=12)&&decide (q.terms.length<=12))&&q.terms.all zZt15
def zZg15 (g:Bytes×Bytes):Bool:=decide (g.1.length<=8)&&decide (g.2.length<=8)
def zZv15 (b:Bytes):Bool:=decide (b.length<=16)
def xu (s:aT):Bool:=(decide (s.groups.length<=10)&&(decide (s.vars.length<=12)&&decide (s.eqs.length<=12)))&&(s.groups.all zZg15&&(s.vars.all zZv15&&s.eqs.all zZq15))
theorem NC {s:aT} (h:Cn s=true):qH s:=by
 simp only[Cn,bc,a8,bz]at h;obtain⟨⟨a,b,c⟩,d,e,f⟩:=h;refine⟨fun g hg=> ?_,fun b hb=> ?_,fun q hq=> ?_,oO,oO,oO⟩
 ·have:=d g hg;simp only[zZg18,Qc,List.all_cons,List.all_nil,me,bc,a8]at this;omega
 ·have:=e b hb;simp only[YT,Qc,List.all_cons,List.all_nil,me,a8]at this;omega
 ·have:=f q hq;simp only[zZq18,zZt18,Qc,List.all_cons,List.all_nil,me,bc,a8,bz]at this;exact⟨oO,fun t ht=>by have:=this.2.2 t ht;omega⟩
theorem NA {s:aT} (h:xu s=true):qH s:=by
 simp only[xu,bc,a8,bz]at h;obtain⟨⟨a,b,c⟩,d,e,f⟩:=h;refine⟨fun g hg=> ?_,fun b hb=> ?_,fun q hq=> ?_,oO,oO,oO⟩
 ·have:=d g hg;simp only[zZg15,bc,a8]at this;omega
 ·have:=e b hb;simp only[zZv15,a8]at this;omega
 ·have:=f q hq;simp only[zZq15,zZt15,bc,a8,bz]at this;exact⟨oO,fun t ht=>by have:=this.2 t ht;omega⟩
theorem NB {s:aT} (h1:s.groups.length<4611686018427387904) (h2:s.vars.length<4611686018427387904) (h3:s.eqs.length<4611686018427387904) (h4: ∀q∈s.eqs,q.terms.length<4611686018427387904):aH 19 [s.pv] (.b (Cn s)):=by
 obtain⟨gs,vs,es⟩:=s;simp only at h1 h2 h3 h4;have l1:(gs.map cz).length=gs.length:=au ..;have l2:(vs.map bO).length=vs.length:=au ..;have l3:(es.map bZ.pv).length=es.length:=au ..;unfold Cn aT.pv;simp only
 by_cases hs:(gs.length<=9/\vs.length<=6)/\es.length<=6
 case neg=>
  have hsz:(decide (gs.length<=9)&&(decide (vs.length<=6)&&decide (es.length<=6)))=false:=by
   rw[dR];intro h;simp only[bc,a8]at h;omega
  rw[hsz,br];clear hsz;refine eW call19 func19 ?_;repeat' first|simp only[go_sem,seval,l1,l2,l3]|refine oE ?_|apply xX<;>intro hc
  all_goals first|rfl|omega
 have hsz:(decide (gs.length<=9)&&(decide (vs.length<=6)&&decide (es.length<=6)))=true:=by
  simp only[bc,a8];omega
 rw[hsz,bE];clear hsz;refine eW call19 func19 ?_;repeat' first|simp only[go_sem,seval,l1,l2,l3]|refine oE ?_|apply xX<;>intro hc
 all_goals try omega
 refine ah (α:=Nat) (fun i=>gs.length-i) (fun i=>⟨[(1, .p 1000 0 0),(3,E' i)],[(1000,⟨0,[.v (.sl (gs.map cz)), .v (.sl (vs.map bO)), .v (.sl (es.map bZ.pv))],false,none⟩)],_⟩) (fun i=>i<=gs.length/\(gs.drop i).all zZg18=gs.all zZg18) 0 (fun _=>aA _) ⟨aD _,rfl⟩ ?_ ?_
 ·exact lE
 rintro i ⟨hi,hf⟩ R hR;rw[<-hf]
 by_cases hlt:i<gs.length
 ·have e1:=getD_map cz gs dL hlt;have hgo:=hR (i+1);rw[<-hf]at hgo;rw[aE dL hlt,List.all_cons]at hgo⊢;generalize gs.getD i dL=x at*;obtain⟨a,b⟩:=x;simp only[cz]at e1;clear hf hR;have hs:aH 56 [.i .i64 8, .sl [.s a, .s b]] (.b (zZg18 (a,b))):=qi 8 [a,b] (by simp) oC
  generalize zZg18 (a,b)=c at*;cases c
  ·rw[br,br];clear hgo;repeat' first|simp only[go_sem,seval,l1,e1,aW]|refine cV hs ?_|refine oE ?_|apply xX<;>intro hc
   all_goals rfl
  ·have hgo:=hgo ⟨oO,rfl⟩ oO;repeat' first|simp only[go_sem,seval,l1,e1,aW]|refine cV hs ?_|refine oE ?_|apply xX<;>intro hc
   refine hgo _ ?_;exact lE
 obtain rfl:i=gs.length:=oO;rw[bw,List.all_nil,bE];clear hR hf;refine dh @l1 ?_;refine ah (α:=Nat) (fun i=>vs.length-i) (fun i=>⟨[(1, .p 1000 0 0),(4,E' i)],[(1000,⟨0,[.v (.sl (gs.map cz)), .v (.sl (vs.map bO)), .v (.sl (es.map bZ.pv))],false,none⟩)],_⟩) (fun i=>i<=vs.length/\(vs.drop i).all YT=vs.all YT) 0 (fun _=>aA _) ⟨aD _,rfl⟩ ?_ ?_
 ·exact lE
 rintro i ⟨hi,hf⟩ R hR;rw[<-hf]
 by_cases hlt:i<vs.length
 ·have e1:=getD_map bO vs ([]:Bytes) hlt;have hgo:=hR (i+1);rw[<-hf]at hgo;rw[aE ([]:Bytes) hlt,List.all_cons]at hgo⊢;generalize vs.getD i ([]:Bytes)=x at*;simp only[bO]at e1;clear hf hR;have hs:aH 56 [.i .i64 16, .sl [.s x]] (.b (YT x)):=qi 16 [x] (by simp) oC
  generalize YT x=c at*;cases c
  ·rw[br,br];clear hgo;repeat' first|simp only[go_sem,seval,l2,e1,aW]|refine cV hs ?_|refine oE ?_|apply xX<;>intro hc
   all_goals rfl
  ·have hgo:=hgo ⟨oO,rfl⟩ oO;repeat' first|simp only[go_sem,seval,l2,e1,aW]|refine cV hs ?_|refine oE ?_|apply xX<;>intro hc
   refine hgo _ ?_;exact lE
 obtain rfl:i=vs.length:=oO;rw[bw,List.all_nil,bE];clear hR hf;refine dh @l2 ?_;refine ah (α:=Nat) (fun i=>es.length-i) (fun i=>⟨[(1, .p 1000 0 0),(5,E' i)],[(1000,⟨0,[.v (.sl (gs.map cz)), .v (.sl (vs.map bO)), .v (.sl (es.map bZ.pv))],false,none⟩)],_⟩) (fun i=>i<=es.length/\(es.drop i).all zZq18=es.all zZq18) 0 (fun _=>aA _) ⟨aD _,rfl⟩ ?_ ?_
 ·exact lE
 rintro i ⟨hi,hf⟩ R hR;rw[<-hf]
 by_cases hlt:i<es.length
 ·have e1:=getD_map bZ.pv es dU hlt;have h4:=h4 _ (ai dU hlt);have hgo:=hR (i+1);rw[<-hf]at hgo;rw[aE dU hlt,List.all_cons]at hgo⊢;generalize es.getD i dU=x at*;obtain⟨gr,tg,ts⟩:=x;simp only[bZ.pv]at e1;simp only at h4;have l4:(ts.map dx.pv).length=ts.length:=au ..;clear hf hR;simp only[zZq18]at hgo⊢;have hs:aH 56 [.i .i64 9, .sl [.s tg]] (.b (Qc 9 [tg])):=qi 9 [tg] (by simp) oC
  by_cases h8:ts.length<=8
  case neg=>
   rw[aS h8,br,br];clear hgo hs;repeat' first|simp only[go_sem,seval,l3,l4,e1]|refine oE ?_|apply xX<;>intro hc
   all_goals first|rfl|omega
  rw[aQ h8,bE]at hgo⊢;generalize Qc 9 [tg]=c at*;cases c
  ·rw[br,br];clear hgo;repeat' first|simp only[go_sem,seval,l3,l4,e1,aW]|refine cV hs ?_|refine oE ?_|apply xX<;>intro hc
   all_goals first|rfl|omega
  rw[bE]at hgo⊢;repeat' first|simp only[go_sem,seval,l3,l4,e1,aW]|refine cV hs ?_|refine oE ?_|apply xX<;>intro hc
  all_goals try omega
  refine ah (α:=Nat) (fun k=>ts.length-k) (fun k=>⟨[(1, .p 1000 0 0),(5,E' i),(6,E' k)],[(1000,⟨0,[.v (.sl (gs.map cz)), .v (.sl (vs.map bO)), .v (.sl (es.map bZ.pv))],false,none⟩)],_⟩) (fun k=>k<=ts.length/\(ts.drop k).all zZt18=ts.all zZt18) 0 (fun _=>aA _) ⟨aD _,rfl⟩ ?_ ?_
  ·exact lE
  rintro k ⟨hk,hf⟩ R' hR'
  by_cases hkt:k<ts.length
  ·rw[<-hf];have e2:=getD_map dx.pv ts dN hkt;have hgo':=hR' (k+1);rw[<-hf]at hgo';rw[aE dN hkt,List.all_cons]at hgo'⊢;generalize ts.getD k dN=y at*;obtain⟨bs,va,ng,ab⟩:=y;simp only[dx.pv]at e2;clear hf hR' hgo;have hs:aH 56 [.i .i64 9, .sl [.s bs, .s ab]] (.b (zZt18 ⟨bs,va,ng,ab⟩)):=qi 9 [bs,ab] (by simp) oC
   generalize zZt18 ⟨bs,va,ng,ab⟩=c at*;cases c
   ·rw[br,br];clear hgo';repeat' first|simp only[go_sem,seval,l3,l4,e1,e2,aW]|refine cV hs ?_|refine oE ?_|apply xX<;>intro hc
    all_goals rfl
   ·have hgo':=hgo' ⟨oO,rfl⟩ oO;repeat' first|simp only[go_sem,seval,l3,l4,e1,e2,aW]|refine cV hs ?_|refine oE ?_|apply xX<;>intro hc
    refine hgo' _ ?_;exact lE
  obtain rfl:k=ts.length:=oO;rw[bw,List.all_nil]at hf;rw[<-hf]at hgo⊢;have hgo:=hgo ⟨oO,rfl⟩ oO;clear hR';exact gH (aN @l3 (aN @l4 @e1)) @hgo
 obtain rfl:i=es.length:=oO;rw[bw,List.all_nil];clear hR hf;exact fz @l3
theorem Nz {s:aT} (h1:s.groups.length<4611686018427387904) (h2:s.vars.length<4611686018427387904) (h3:s.eqs.length<4611686018427387904) (h4: ∀q∈s.eqs,q.terms.length<4611686018427387904):aH 57 [s.pv] (.b (xu s)):=by
 obtain⟨gs,vs,es⟩:=s;simp only at h1 h2 h3 h4;have l1:(gs.map cz).length=gs.length:=au ..;have l2:(vs.map bO).length=vs.length:=au ..;have l3:(es.map bZ.pv).length=es.length:=au ..;unfold xu aT.pv;simp only
 by_cases hs:(gs.length<=10/\vs.length<=12)/\es.length<=12
 case neg=>
  have hsz:(decide (gs.length<=10)&&(decide (vs.length<=12)&&decide (es.length<=12)))=false:=by
   rw[dR];intro h;simp only[bc,a8]at h;omega
  rw[hsz,br];clear hsz;refine eW call57 func57 ?_;repeat' first|simp only[go_sem,seval,l1,l2,l3]|refine oE ?_|apply xX<;>intro hc
  all_goals first|rfl|omega
 have hsz:(decide (gs.length<=10)&&(decide (vs.length<=12)&&decide (es.length<=12)))=true:=by
  simp only[bc,a8];omega
 rw[hsz,bE];clear hsz;refine eW call57 func57 ?_;repeat' first|simp only[go_sem,seval,l1,l2,l3]|refine oE ?_|apply xX<;>intro hc
 all_goals try omega
 refine ah (α:=Nat) (fun i=>gs.length-i) (fun i=>⟨[(1, .p 1000 0 0),(3,E' i)],[(1000,⟨0,[.v (.sl (gs.map cz)), .v (.sl (vs.map bO)), .v (.sl (es.map bZ.pv))],false,none⟩)],_⟩) (fun i=>i<=gs.length/\(gs.drop i).all zZg15=gs.all zZg15) 0 (fun _=>aA _) ⟨aD _,rfl⟩ ?_ ?_
 ·exact lE
 rintro i ⟨hi,hf⟩ R hR;rw[<-hf]
 by_cases hlt:i<gs.length
 ·have e1:=getD_map cz gs dL hlt;have hgo:=hR (i+1);rw[<-hf]at hgo;rw[aE dL hlt,List.all_cons]at hgo⊢;generalize gs.getD i dL=x at*;obtain⟨a,b⟩:=x;simp only[cz]at e1;clear hf hR;simp only[zZg15]at hgo⊢
  by_cases ha:a.length<=8/\b.length<=8
  ·rw[aQ ha.1,aQ ha.2]at hgo⊢;have hgo:=hgo ⟨oO,rfl⟩ oO;repeat' first|simp only[go_sem,seval,l1,e1]|refine oE ?_|apply xX<;>intro hc
   all_goals first|omega|(refine hgo _ ?_;(refine AS.Le.of (by first|decide|omega) ?_ ?_<;>simp[cU,cT,aO,az,AV.bd,AV.bd.bdL,u8,aj,ak,an]))
  ·have hn:(decide (a.length<=8)&&decide (b.length<=8))=false:=by rw[dR];simpa using ha
   rw[hn,br,br];clear hgo hn;repeat' first|simp only[go_sem,seval,l1,e1]|refine oE ?_|apply xX<;>intro hc
   all_goals first|rfl|omega
 obtain rfl:i=gs.length:=oO;rw[bw,List.all_nil,bE];clear hR hf;refine dh @l1 ?_;refine ah (α:=Nat) (fun i=>vs.length-i) (fun i=>⟨[(1, .p 1000 0 0),(4,E' i)],[(1000,⟨0,[.v (.sl (gs.map cz)), .v (.sl (vs.map bO)), .v (.sl (es.map bZ.pv))],false,none⟩)],_⟩) (fun i=>i<=vs.length/\(vs.drop i).all zZv15=vs.all zZv15) 0 (fun _=>aA _) ⟨aD _,rfl⟩ ?_ ?_
 ·exact lE
 rintro i ⟨hi,hf⟩ R hR;rw[<-hf]
 by_cases hlt:i<vs.length
 ·have e1:=getD_map bO vs ([]:Bytes) hlt;have hgo:=hR (i+1);rw[<-hf]at hgo;rw[aE ([]:Bytes) hlt,List.all_cons]at hgo⊢;generalize vs.getD i ([]:Bytes)=x at*;simp only[bO]at e1;clear hf hR;simp only[zZv15]at hgo⊢
  by_cases ha:x.length<=16
  ·rw[aQ ha]at hgo⊢;have hgo:=hgo ⟨oO,rfl⟩ oO;repeat' first|simp only[go_sem,seval,l2,e1]|refine oE ?_|apply xX<;>intro hc
   all_goals first|omega|(refine hgo _ ?_;(refine AS.Le.of (by first|decide|omega) ?_ ?_<;>simp[cU,cT,aO,az,AV.bd,AV.bd.bdL,u8,aj,ak,an]))
  ·rw[aS ha,br,br];clear hgo;repeat' first|simp only[go_sem,seval,l2,e1]|refine oE ?_|apply xX<;>intro hc
   all_goals first|rfl|omega
 obtain rfl:i=vs.length:=oO;rw[bw,List.all_nil,bE];clear hR hf;refine dh @l2 ?_;refine ah (α:=Nat) (fun i=>es.length-i) (fun i=>⟨[(1, .p 1000 0 0),(5,E' i)],[(1000,⟨0,[.v (.sl (gs.map cz)), .v (.sl (vs.map bO)), .v (.sl (es.map bZ.pv))],false,none⟩)],_⟩) (fun i=>i<=es.length/\(es.drop i).all zZq15=es.all zZq15) 0 (fun _=>aA _) ⟨aD _,rfl⟩ ?_ ?_
 ·exact lE
 rintro i ⟨hi,hf⟩ R hR;rw[<-hf]
 by_cases hlt:i<es.length
 ·have e1:=getD_map bZ.pv es dU hlt;have h4:=h4 _ (ai dU hlt);have hgo:=hR (i+1);rw[<-hf]at hgo;rw[aE dU hlt,List.all_cons]at hgo⊢;generalize es.getD i dU=x at*;obtain⟨gr,tg,ts⟩:=x;simp only[bZ.pv]at e1;simp only at h4;have l4:(ts.map dx.pv).length=ts.length:=au ..;clear hf hR;simp only[zZq15]at hgo⊢
  by_cases ha:tg.length<=12/\ts.length<=12
  case neg=>
   have hn:(decide (tg.length<=12)&&decide (ts.length<=12))=false:=by rw[dR];simpa using ha
   rw[hn,br,br];clear hgo hn;repeat' first|simp only[go_sem,seval,l3,l4,e1]|refine oE ?_|apply xX<;>intro hc
   all_goals first|rfl|omega
  rw[aQ ha.1,aQ ha.2,bE,bE]at hgo⊢;repeat' first|simp only[go_sem,seval,l3,l4,e1]|refine oE ?_|apply xX<;>intro hc
  all_goals try omega
  refine ah (α:=Nat) (fun k=>ts.length-k) (fun k=>⟨[(1, .p 1000 0 0),(5,E' i),(6,E' k)],[(1000,⟨0,[.v (.sl (gs.map cz)), .v (.sl (vs.map bO)), .v (.sl (es.map bZ.pv))],false,none⟩)],_⟩) (fun k=>k<=ts.length/\(ts.drop k).all zZt15=ts.all zZt15) 0 (fun _=>aA _) ⟨aD _,rfl⟩ ?_ ?_
  ·exact lE
  rintro k ⟨hk,hf⟩ R' hR'
  by_cases hkt:k<ts.length
  ·rw[<-hf];have e2:=getD_map dx.pv ts dN hkt;have hgo':=hR' (k+1);rw[<-hf]at hgo';rw[aE dN hkt,List.all_cons]at hgo'⊢;generalize ts.getD k dN=y at*;obtain⟨bs,va,ng,ab⟩:=y;simp only[dx.pv]at e2;clear hf hR' hgo;simp only[zZt15]at hgo'⊢
   by_cases hb:bs.length<=12/\ab.length<=8
   ·rw[aQ hb.1,aQ hb.2]at hgo'⊢;have hgo':=hgo' ⟨oO,rfl⟩ oO;repeat' first|simp only[go_sem,seval,l3,l4,e1,e2]|refine oE ?_|apply xX<;>intro hc
    all_goals first|omega|(refine hgo' _ ?_;(refine AS.Le.of (by first|decide|omega) ?_ ?_<;>simp[cU,cT,aO,az,AV.bd,AV.bd.bdL,u8,aj,ak,an]))
   ·have hn:(decide (bs.length<=12)&&decide (ab.length<=8))=false:=by rw[dR];simpa using hb
    rw[hn,br,br];clear hgo' hn;repeat' first|simp only[go_sem,seval,l3,l4,e1,e2]|refine oE ?_|apply xX<;>intro hc
    all_goals first|rfl|omega
  obtain rfl:k=ts.length:=oO;rw[bw,List.all_nil]at hf;rw[<-hf]at hgo⊢;have hgo:=hgo ⟨oO,rfl⟩ oO;clear hR';exact gH (aN @l3 (aN @l4 @e1)) @hgo
 obtain rfl:i=es.length:=oO;rw[bw,List.all_nil];clear hR hf;exact fz @l3
def Co (G:List Gt):Bool:=(G.take 41).all (fun g=>decide (g.kids.length<=40))&&decide (G.length<=40)
theorem Sz {G:List Gt} (h:Co G=true):G.length<=40/\ ∀g∈G,g.kids.length<=40:=by
 simp only[Co,bc,a8,bz]at h;exact⟨h.2,fun g hg=>h.1 g (by rw[cQ oO];exact hg)⟩
theorem ND (G:List Gt) (h1:G.length<4611686018427387904) (h2: ∀g∈G,g.kids.length<4611686018427387904):aH 58 [E6 G] (.b (Co G)):=by
 have l1:(G.map Gt.pv).length=G.length:=au ..;unfold Co E6;refine eW call58 func58 ?_;refine pO ?_;refine ah (α:=Nat) (fun i=>41-i) (fun i=>⟨[(1, .p 1000 0 0),(3,E' i)],[(1000,⟨0,[.v (.sl (G.map Gt.pv))],false,none⟩)],_⟩) (fun i=>i<=G.length/\i<=41/\((G.take 41).drop i).all (fun g=>decide (g.kids.length<=40))=(G.take 41).all (fun g=>decide (g.kids.length<=40))) 0 (fun _=>aA _) ⟨aD _,aD _,rfl⟩ ?_ ?_
 ·exact lE
 rintro i ⟨hi,h20,hf⟩ R hR;rw[<-hf]
 by_cases hlt:i<G.length/\i<41
 ·obtain⟨hl,hl2⟩:=hlt;have e1:=getD_map Gt.pv G eC hl;have hm:=ai eC hl;have ht:i<(G.take 41).length:=by rw[bQ];omega
  have hgt:(G.take 41).getD i eC=G.getD i eC:=by simp[bu,eS,hl2]
  have hgo:=hR (i+1);rw[<-hf]at hgo;rw[aE eC ht,List.all_cons,hgt]at hgo⊢;clear hf hR ht hgt;have hk:=h2 _ hm;generalize G.getD i eC=x at*;obtain⟨nd,ks,lf⟩:=x;simp only[Gt.pv]at e1;simp only at hk hgo⊢;have l2:(ks.map rB).length=ks.length:=au ..
  by_cases ha:ks.length<=40
  ·rw[aQ ha]at hgo⊢;have hgo:=hgo ⟨oO,oO,rfl⟩ oO;repeat' first|simp only[go_sem,seval,l1,l2,e1]|refine oE ?_|apply xX<;>intro hc
   all_goals first|omega|(refine hgo _ ?_;(refine AS.Le.of (by first|decide|omega) ?_ ?_<;>simp[cU,cT,aO,az,AV.bd,AV.bd.bdL,u8,aj,ak,an]))
  ·rw[aS ha,br,br];clear hgo;repeat' first|simp only[go_sem,seval,l1,l2,e1]|refine oE ?_|apply xX<;>intro hc
   all_goals first|rfl|omega
 have hd:(G.take 41).drop i=[]:=gG (by rw[bQ];omega)
 rw[hd,List.all_nil,bE];clear hR hf;have hx:decide ((G.length:Int)<=40)=decide (G.length<=40):=by rw[fk];omega
 repeat' first|simp only[go_sem,seval,l1,hx]|refine oE ?_|apply xX<;>intro hc
 all_goals first|rfl|omega
def Cp (c:ik):Bool:=(c.leaves.take 20).all xu&&(decide (c.leaves.length<=12)&&Co c.gates)
structure Rw (s:aT):Prop where
 g:s.groups.length<4611686018427387904
 v:s.vars.length<4611686018427387904
 e:s.eqs.length<4611686018427387904
 t: ∀q∈s.eqs,q.terms.length<4611686018427387904
structure Vz (c:ik):Prop where
 l:c.leaves.length<4611686018427387904
 g:c.gates.length<4611686018427387904
 s: ∀s∈c.leaves,Rw s
 k: ∀g∈c.gates,g.kids.length<4611686018427387904
theorem NF {c:ik} (h:Vz c):aH 20 [c.pv] (.b (Cp c)):=by
 obtain⟨hl,hg,hs,hk⟩:=h;have hfo:=ND c.gates hg hk;obtain⟨lv,G⟩:=c;simp only at hl hs hfo;have l1:(lv.map aT.pv).length=lv.length:=au ..;unfold Cp ik.pv;simp only;unfold E6 at hfo;generalize Co G=fb at*;refine eW call20 func20 ?_;refine pO ?_;refine ah (α:=Nat) (fun i=>20-i) (fun i=>⟨[(1, .p 1000 0 0),(3,E' i)],[(1000,⟨0,[.v (.sl (lv.map aT.pv)), .v (.sl (G.map Gt.pv))],false,none⟩)],_⟩) (fun i=>i<=lv.length/\i<=20/\((lv.take 20).drop i).all xu=(lv.take 20).all xu) 0 (fun _=>aA _) ⟨aD _,aD _,rfl⟩ ?_ ?_
 ·exact lE
 rintro i ⟨hi,h20,hf⟩ R hR;rw[<-hf]
 by_cases hlt:i<lv.length/\i<20
 ·obtain⟨hl,hl2⟩:=hlt;have e1:=getD_map aT.pv lv cC hl;have hm:=ai cC hl;have ht:i<(lv.take 20).length:=by rw[bQ];omega
  have hgt:(lv.take 20).getD i cC=lv.getD i cC:=by simp[bu,eS,hl2]
  have hgo:=hR (i+1);rw[<-hf]at hgo;rw[aE cC ht,List.all_cons,hgt]at hgo⊢;clear hf hR ht hgt;have hk:=hs _ hm;have hc:=Nz hk.g hk.v hk.e hk.t;generalize lv.getD i cC=x at*;generalize xu x=b at*;obtain⟨gs',vs',es'⟩:=x;simp only[aT.pv]at e1 hc;cases b
  ·rw[br,br];clear hgo;repeat' first|simp only[go_sem,seval,l1,e1]|refine cP hc ?_|refine oE ?_|apply xX<;>intro hc
   all_goals first|rfl|omega
  ·have hgo:=hgo ⟨oO,oO,rfl⟩ oO;repeat' first|simp only[go_sem,seval,l1,e1]|refine cP hc ?_|refine oE ?_|apply xX<;>intro hc
   all_goals first|omega|(refine hgo _ ?_;(refine AS.Le.of (by first|decide|omega) ?_ ?_<;>simp[cU,cT,aO,az,AV.bd,AV.bd.bdL,u8,aj,ak,an]))
 have hd:(lv.take 20).drop i=[]:=gG (by rw[bQ];omega)
 rw[hd,List.all_nil,bE];clear hR hf;have hx:decide ((lv.length:Int)<=12)=decide (lv.length<=12):=by rw[fk];omega
 generalize decide (lv.length<=12)=hb at*;cases hb
 ·repeat' first|simp only[go_sem,seval,l1,hx]|refine cP hfo ?_|refine oE ?_|apply xX<;>intro hc
  all_goals first|rfl|omega
 ·repeat' first|simp only[go_sem,seval,l1,hx]|refine cP hfo ?_|refine oE ?_|apply xX<;>intro hc
  all_goals first|rfl|omega
theorem NG {c:ik} (h:Cp c=true):QW c/\c.leaves.length<=12/\c.gates.length<=512/\ ∀g∈c.gates,g.kids.length<100:=by
 simp only[Cp,bc,a8,bz]at h;obtain⟨a,b,d⟩:=h;obtain⟨e,f⟩:=Sz d;refine⟨⟨oO, .inl oO,fun s hs=>NA (a s (by rw[cQ oO];exact hs)),fun g hg=>by have:=f g hg;omega⟩,b,oO,fun g hg=>by have:=f g hg;omega⟩
def qW (l:List (List (Bool×Bytes))):Bool:=(l.take 20).all ux&&decide (l.length<=20)
theorem uy {rs:List (Bool×Bytes)} (h:ux rs=true):rs.length<=20/\ ∀x∈rs,x.2.length<=24:=by
 simp only[ux,bc,a8,bz]at h;exact⟨h.2,fun x hx=>h.1 x (by rw[cQ h.2];exact hx)⟩
theorem rP {l:List (List (Bool×Bytes))} (h:qW l=true):l.length<=20/\ ∀x∈l,x.length<=20/\ ∀y∈x,y.2.length<=24:=by
 simp only[qW,bc,a8,bz]at h;exact⟨h.2,fun x hx=>uy (h.1 x (by rw[cQ h.2];exact hx))⟩
theorem zx (ls:List (List (Bool×Bytes))) (h1:ls.length<4611686018427387904) (h2: ∀l∈ls,l.length<4611686018427387904):aH 22 [.sl (ls.map fj)] (.b (qW ls)):=by
 have l1:(ls.map fj).length=ls.length:=au ..;unfold qW;refine eW call22 func22 ?_;refine pO ?_;refine ah (α:=Nat) (fun i=>20-i) (fun i=>⟨[(0, .v (.sl (ls.map fj))),(3,E' i)],[],_⟩) (fun i=>i<=ls.length/\i<=20/\((ls.take 20).drop i).all ux=(ls.take 20).all ux) 0 (fun _=>aA _) ⟨aD _,aD _,rfl⟩ ?_ ?_
 ·exact lE
 rintro i ⟨hi,h20,hf⟩ R hR;rw[<-hf]
 by_cases hlt:i<ls.length/\i<20
 ·obtain⟨hl,hl2⟩:=hlt;have e1:=getD_map fj ls ([]:List (Bool×Bytes)) hl;have hm:=ai ([]:List (Bool×Bytes)) hl;have ht:i<(ls.take 20).length:=by rw[bQ];omega
  have hgt:(ls.take 20).getD i ([]:List (Bool×Bytes))=ls.getD i ([]:List (Bool×Bytes)):=by simp[bu,eS,hl2]
  have hgo:=hR (i+1);rw[<-hf]at hgo;rw[aE ([]:List (Bool×Bytes)) ht,List.all_cons,hgt]at hgo⊢;clear hf hR ht hgt;have hc:=Hf _ (h2 _ hm);generalize ls.getD i []=x at*;generalize ux x=b at*;simp only[fj]at e1;cases b
  ·rw[br,br];clear hgo;repeat' first|simp only[go_sem,seval,l1,e1]|refine cP hc ?_|refine oE ?_|apply xX<;>intro hc
   all_goals first|rfl|omega
  ·have hgo:=hgo ⟨oO,oO,rfl⟩ oO;repeat' first|simp only[go_sem,seval,l1,e1]|refine cP hc ?_|refine oE ?_|apply xX<;>intro hc
   all_goals first|omega|(refine hgo _ ?_;(refine AS.Le.of (by first|decide|omega) ?_ ?_<;>simp[cU,cT,aO,az,AV.bd,AV.bd.bdL,u8,aj,ak,an]))
 have hd:(ls.take 20).drop i=[]:=gG (by rw[bQ];omega)
 rw[hd,List.all_nil,bE];clear hR hf;have hx:decide ((ls.length:Int)<=20)=decide (ls.length<=20):=by rw[fk];omega
 repeat' first|simp only[go_sem,seval,l1,hx]|refine oE ?_|apply xX<;>intro hc
 all_goals first|rfl|omega
def sS (l:List Bytes):Bool:=(l.take 40).all (fun x=>decide (x.length<=24))&&decide (l.length<=40)
theorem uK {l:List Bytes} (h:sS l=true):l.length<=40/\ ∀x∈l,x.length<=24:=by
 simp only[sS,bc,a8,bz]at h;exact⟨h.2,fun x hx=>h.1 x (by rw[cQ h.2];exact hx)⟩
theorem wL (l:List Bytes) (hl:l.length<4611686018427387904):aH 8 [.sl (l.map .s)] (.b (sS l)):=by
 have l1:(l.map PV.s).length=l.length:=au ..;unfold sS;refine eW call8 func8 ?_;refine pO ?_;refine ah (α:=Nat) (fun i=>40-i) (fun i=>⟨[(0, .v (.sl (l.map .s))),(3,E' i)],[],_⟩) (fun i=>i<=l.length/\i<=40/\((l.take 40).drop i).all (fun x=>decide (x.length<=24))=(l.take 40).all (fun x=>decide (x.length<=24))) 0 (fun _=>aA _) ⟨aD _,aD _,rfl⟩ ?_ ?_
 ·exact lE
 rintro i ⟨hi,h20,hf⟩ R hR;rw[<-hf]
 by_cases hlt:i<l.length/\i<40
 ·obtain⟨hl,hl2⟩:=hlt;have e1:=getD_map PV.s l ([]:Bytes) hl;have hm:=ai ([]:Bytes) hl;have ht:i<(l.take 40).length:=by rw[bQ];omega
  have hgt:(l.take 40).getD i ([]:Bytes)=l.getD i ([]:Bytes):=by simp[bu,eS,hl2]
  have hgo:=hR (i+1);rw[<-hf]at hgo;rw[aE ([]:Bytes) ht,List.all_cons,hgt]at hgo⊢;clear hf hR ht hgt;generalize l.getD i []=x at*
  by_cases ha:x.length<=24
  ·rw[aQ ha]at hgo⊢;have hgo:=hgo ⟨oO,oO,rfl⟩ oO;repeat' first|simp only[go_sem,seval,l1,e1]|refine oE ?_|apply xX<;>intro hc
   all_goals first|omega|(refine hgo _ ?_;(refine AS.Le.of (by first|decide|omega) ?_ ?_<;>simp[cU,cT,aO,az,AV.bd,AV.bd.bdL,u8,aj,ak,an]))
  ·rw[aS ha,br,br];clear hgo;repeat' first|simp only[go_sem,seval,l1,e1]|refine oE ?_|apply xX<;>intro hc
   all_goals first|rfl|omega
 have hd:(l.take 40).drop i=[]:=gG (by rw[bQ];omega)
 rw[hd,List.all_nil,bE];clear hR hf;have hx:decide ((l.length:Int)<=40)=decide (l.length<=40):=by rw[fk];omega
 repeat' first|simp only[go_sem,seval,l1,hx]|refine oE ?_|apply xX<;>intro hc
 all_goals first|rfl|omega
theorem Aj (rs:List (Bool×Bytes)) (hl:rs.length<4611686018427387904):aH 21 [.sl (rs.map ca)] (.b (ux rs)):=by
 have l1:(rs.map ca).length=rs.length:=au ..;unfold ux;refine eW call21 func21 ?_;refine pO ?_;refine ah (α:=Nat) (fun i=>20-i) (fun i=>⟨[(0, .v (.sl (rs.map ca))),(3,E' i)],[],_⟩) (fun i=>i<=rs.length/\i<=20/\((rs.take 20).drop i).all (fun x=>decide (x.2.length<=24))=(rs.take 20).all (fun x=>decide (x.2.length<=24))) 0 (fun _=>aA _) ⟨aD _,aD _,rfl⟩ ?_ ?_
 ·exact lE
 rintro i ⟨hi,h20,hf⟩ R hR;rw[<-hf]
 by_cases hlt:i<rs.length/\i<20
 ·obtain⟨hl,hl2⟩:=hlt;have e1:=getD_map ca rs eT hl;have hm:=ai eT hl;have ht:i<(rs.take 20).length:=by rw[bQ];omega
  have hgt:(rs.take 20).getD i eT=rs.getD i eT:=by simp[bu,eS,hl2]
  have hgo:=hR (i+1);rw[<-hf]at hgo;rw[aE eT ht,List.all_cons,hgt]at hgo⊢;clear hf hR ht hgt;obtain⟨x,hx⟩: ∃x,x=rs.getD i eT:=⟨_,rfl⟩;rw[<-hx]at e1 hgo⊢;clear hx hm;obtain⟨n,x⟩:=x;simp only[ca]at e1 hgo⊢
  by_cases ha:x.length<=24
  ·rw[aQ ha]at hgo⊢;have hgo:=hgo ⟨oO,oO,rfl⟩ oO;repeat' first|simp only[go_sem,seval,l1,e1]|refine oE ?_|apply xX<;>intro hc
   all_goals first|omega|(refine hgo _ ?_;(refine AS.Le.of (by first|decide|omega) ?_ ?_<;>simp[cU,cT,aO,az,AV.bd,AV.bd.bdL,u8,aj,ak,an]))
  ·rw[aS ha,br,br];clear hgo;repeat' first|simp only[go_sem,seval,l1,e1]|refine oE ?_|apply xX<;>intro hc
   all_goals first|rfl|omega
 have hd:(rs.take 20).drop i=[]:=gG (by rw[bQ];omega)
 rw[hd,List.all_nil,bE];clear hR hf;have hx:decide ((rs.length:Int)<=20)=decide (rs.length<=20):=by rw[fk];omega
 repeat' first|simp only[go_sem,seval,l1,hx]|refine oE ?_|apply xX<;>intro hc
 all_goals first|rfl|omega
structure BW where
 c:Bytes
 sl:Bytes
 ctx:Bytes
 s:aT
 cl:ik
 w:List (Bool×Bytes)
 ws:List (List (Bool×Bytes))
def BW.pv (x:BW):PV:= .agg [.s x.c, .s x.sl, .s x.ctx, .sl (x.s.groups.map cz), .sl (x.s.vars.map bO), .sl (x.s.eqs.map bZ.pv), .sl (x.cl.leaves.map aT.pv), .sl (x.cl.gates.map Gt.pv), .sl (x.w.map ca), .sl (x.ws.map fj)]
structure Mc (x:BW):Prop where
 s:Rw x.s
 cl:Vz x.cl
 w:x.w.length<4611686018427387904
 ws:x.ws.length<4611686018427387904
 l: ∀l∈x.ws,l.length<4611686018427387904
def sQ (x:BW):Bool:=decide (x.c.length<=8)&&(decide (x.sl.length<=8)&&(decide (x.ctx.length<=200)&&(Cn x.s&&(Cp x.cl&&(ux x.w&&qW x.ws)))))
theorem z8 {x:BW} (h:Mc x):aH 7 [x.pv] (.b (sQ x)):=by
 have h1:=NB h.s.g h.s.v h.s.e h.s.t;have h2:=NF h.cl;have h3:=Aj x.w h.w;have h4:=zx x.ws h.ws h.l;clear h;obtain⟨c,sl,ctx,s,cl,w,ws⟩:=x;simp only at h1 h2 h3 h4;unfold sQ BW.pv;simp only;generalize Cn s=b1 at*;generalize Cp cl=b2 at*;generalize ux w=b3 at*;generalize qW ws=b4 at*;have x1:decide ((c.length:Int)<=8)=decide (c.length<=8):=by rw[fk];omega
 have x2:decide ((sl.length:Int)<=8)=decide (sl.length<=8):=by rw[fk];omega
 have x3:decide ((ctx.length:Int)<=200)=decide (ctx.length<=200):=by rw[fk];omega
 generalize decide (c.length<=8)=d1 at*;generalize decide (sl.length<=8)=d2 at*;generalize decide (ctx.length<=200)=d3 at*;obtain⟨gs,vs,es⟩:=s;obtain⟨lv,G⟩:=cl;simp only[aT.pv,ik.pv]at*;refine eW call7 func7 ?_;repeat' first|simp only[go_sem,seval,x1,x2,x3]|refine cP h1 ?_|refine cP h2 ?_|refine cP h3 ?_|refine cP h4 ?_|refine oE ?_|apply xX<;>intro hc
 all_goals first|omega|simp_all
theorem Dv {x:BW} (h:sQ x=true):LZ x.c x.sl x.ctx x.s x.cl/\x.w.length<=20/\(∀y∈x.w,y.2.length<=24)/\x.ws.length<=20/\ ∀l∈x.ws,l.length<=20/\ ∀y∈l,y.2.length<=24:=by
 simp only[sQ,bc,a8]at h;obtain⟨a,b,c,d,e,f,g⟩:=h;obtain⟨e1,e2,e3,e4⟩:=NG e;exact⟨⟨a,b,oO,NC d,e1,e2,e3,e4⟩,(uy f).1,(uy f).2,(rP g).1,(rP g).2⟩
