/- Part of the proof. -/
import Derived.Test.YtnhhajlcpjgkjaaGreatDoorUC45
import Derived.Test.YtnhhajlcpjgkjaaGreatDoorUC46
import Derived.Test.YtnhhajlcpjgkjaaGreatDoorUC44
set_option linter.all false
set_option maxHeartbeats 16000000
set_option maxRecDepth 100000
namespace Go.Proofs.YtnhhajlcpjgkjaaGreatDoor
open Go Go.Dom Go.ChangeShapes Go.WideShapes Go.ChangeAt Go.RowKit Go.Proofs.Tryz
variable {ps:List PV}
theorem uB:Tryz.prog.underlying 4=some .bool:=by kernel_rfl
theorem uLI:Tryz.prog.underlying 45=some (.slice 94):=by kernel_rfl
theorem ZX:Tryz.prog.underlying 46=some (.slice 45):=by kernel_rfl
theorem cB:Tryz.prog.cellsOf 4=1:=by kernel_rfl
theorem cLI:Tryz.prog.cellsOf 45=1:=by kernel_rfl
theorem Zb:Tryz.prog.cellsOf 46=1:=by kernel_rfl
theorem isI:kM Tryz.prog 94=true:=by kernel_rfl
theorem Zs:kM Tryz.prog 45=false:=by kernel_rfl
theorem bI:Tryz.prog.bytesOf 94=24:=by kernel_rfl
theorem bLI:Tryz.prog.bytesOf 45=24:=by kernel_rfl
theorem cSi:Tryz.prog.cellsOf 48=4:=by kernel_rfl
theorem VR {k:Nat} (h:kW Tryz.prog (k+2) 94 ps): ∃(n:Bool) (a:Bytes),ps=[.b n, .s a]:=by
 rw[kW,Tryz.underlying94]at h;simp only[qK,cB,cN]at h;obtain⟨h1,h2,h3⟩:=h;simp only[kW,uB]at h1;obtain⟨n,h1⟩:=h1;obtain⟨a,h2⟩:=jG h2;exact⟨n,a,by rw[tk h1,tk h2,h3]⟩
theorem Sf {k:Nat} (h:kW Tryz.prog (k+3) 45 ps): ∃l:List (Bool×Bytes),ps=[.sl (l.map cU)]/\l.length*24<=reachBytes:=by
 rw[kW,uLI]at h;simp only[isI,bI,az]at h;obtain⟨l,rfl,hb,hl⟩:=h;obtain⟨is,rfl⟩:=F2 (f:=cU) (l:=l) fun x hx=>by
  obtain⟨h1,m,rfl⟩:=hl x hx;obtain⟨n,a,h1⟩:=VR h1;have h1:m=[.b n, .s a]:=h1;exact⟨(n,a),by rw[h1];rfl⟩
 exact⟨is,rfl,by simpa using hb⟩
theorem VS {k:Nat} (h:kW Tryz.prog (k+4) 46 ps): ∃l:List (List (Bool×Bytes)),ps=[.sl (l.map qM)]/\l.length*24<=reachBytes/\ ∀x∈l,x.length*24<=reachBytes:=by
 rw[kW,ZX]at h;simp only[Zs,bLI,bO,ar]at h;obtain⟨l,rfl,hb,hl⟩:=h;obtain⟨is,hi⟩:=F2 (f:=fun y:{y:List (Bool×Bytes)//y.length*24<=reachBytes}=>qM y.1) (l:=l) fun x hx=>by
  obtain⟨h1,h2⟩:=hl x hx;obtain⟨y,h1,hy⟩:=Sf h1;exact⟨⟨y,hy⟩,AG h1 h2⟩
 subst hi;refine⟨is.map (·.1),by rw[iF];rfl,by simpa using hb,fun x hx=> ?_⟩
 obtain⟨y,-,rfl⟩:=cv.1 hx;exact y.2
theorem Yw {k:Nat} (h:kW Tryz.prog (k+5) 48 ps): ∃(ch:Bytes) (rs:List (Bool×Bytes)) (gs:List Bytes) (ls:List (List (Bool×Bytes))),ps=[.s ch, .sl (rs.map cU), .sl (gs.map .s), .sl (ls.map qM)]/\rs.length*24<=reachBytes/\gs.length*16<=reachBytes/\ls.length*24<=reachBytes/\ ∀x∈ls,x.length*24<=reachBytes:=by
 rw[kW,Tryz.underlying48]at h;simp only[qK,cN,cLI,Zc,Zb]at h;obtain⟨h1,h2,h3,h4,h5⟩:=h;obtain⟨ch,h1⟩:=jG h1;obtain⟨rs,h2,b2⟩:=Sf h2;obtain⟨gs,h3,b3⟩:=N0 h3;obtain⟨ls,h4,b4,b5⟩:=VS h4;exact⟨ch,rs,gs,ls,by rw[tk h1,tk h2,tk h3,tk h4,h5],b2,b3,b4,b5⟩
theorem ZN:Qh Tryz.prog 10 50=true:=by kernel_rfl
theorem Yt (h:kW Tryz.prog 10 50 ps): ∃r:nF, .agg ps=r.pv/\r.rs.length*24<=reachBytes/\r.gs.length*16<=reachBytes/\r.ls.length*24<=reachBytes/\ ∀x∈r.ls,x.length*24<=reachBytes:=by
 rw[kW,Tryz.underlying50]at h;simp only[qK,cN,cS,cSi]at h;obtain⟨h1,h2,h3,h4⟩:=h;obtain⟨c,h1⟩:=jG h1;obtain⟨n,h2⟩:=Sh h2;obtain⟨ch,rs,gs,ls,h3,b1,b2,b3,b4⟩:=Yw h3;exact⟨⟨c,n,ch,rs,gs,ls⟩,by rw[tk h1,tk h2,ZU h3,h4];rfl,b1,b2,b3,b4⟩
end Go.Proofs.YtnhhajlcpjgkjaaGreatDoor
namespace Go.Proofs.Tryz
open Go Go.Dom

theorem DY {c:Bytes} {nv:Nat} {ch:Bytes} {rs:List (Bool×Bytes)} (h:fJ c nv ch rs [] []=0):aa ch=true/\rs.all cr=true/\rs.length=nv/\ ¬num c<=num ch:=by
 unfold fJ at h
 split at h
 ·exact aM h oC
 ·rename_i ho
  split at h
  ·exact aM h oC
  ·rename_i hm
   split at h
   ·exact aM h oC
   ·rename_i hc;simp only[dW,wW,ba]at ho;exact⟨ho.1.1.1,ho.1.1.2,gQ fun h=>hm (.inl h),hc⟩
theorem EJ:aE 282 [B0] (.sl []):=by
 refine eW call282 func282 ?_;exact On
theorem Nh (n:Bytes):aE 283 [C0,B0, .s n] (.b true):=by
 refine eW call283 func283 ?_;exact z0
end Go.Proofs.Tryz
namespace Go.Proofs.Tryz
open Go Go.Dom Go.Num
variable {c ch sl:Bytes} {ls:List (List (Bool×Bytes))} {rs:List (Bool×Bytes)}
theorem Gv {s:cK} (hp:uV c sl s) (h0:s.vars≠[]) {gs:List Bytes} (h1:rs.length<1000000) (h2:gs.length<=1000) (h3:ls.length<=1000) (h4: ∀l∈ls,l.length<4611686018427387904) (hf:fJ c s.vars.length ch rs gs ls≠0):
  aE 281 [.agg [.s c, .s sl],s.pv,C0,uL ch rs gs ls] (.tup [YP,B0,E (fJ c s.vars.length ch rs gs ls)]):=by
 have hst:=ql hp;have v1:=aI ch;have v2:=jR rs oO;have v4:=oG gs oO;have l1:(rs.map cU).length=rs.length:=aL ..;have l3:(gs.map PV.s).length=gs.length:=aL ..;have l4:(ls.map qM).length=ls.length:=aL ..;obtain⟨b0,hb0⟩: ∃b,b=(aa ch&&rs.all cr&&gs.all aa):=⟨_,rfl⟩;have hfe:fJ c s.vars.length ch rs gs ls=if !(b0&&ls.all fun l=>l.all cr)then 3 else if rs.length≠s.vars.length\/gs≠[]\/ls≠[]then 6 else if num c<=num ch then 2 else 0:=by
  unfold fJ;rw[hb0];congr 2
  cases aa ch<;>cases rs.all cr<;>cases gs.all aa<;>simp
 rw[hfe]at hf⊢;clear hfe;have hvc:b0=true->aa ch=true:=fun h=>by rw[h]at hb0;have:=hb0.symm;simp only[ba]at this;exact this.1.1
 have hcm:=jq ch c;rw[hp.r.vc]at hcm;generalize aa ch=bb1 at*;generalize rs.all cr=bb2 at*;generalize gs.all aa=bb3 at*;obtain⟨gq,vs,es⟩:=s;have l2:(vs.map cO).length=vs.length:=aL ..;simp only[uL,cK.pv]at hst⊢;simp only at hf;refine eW call281 func281 ?_;repeat' first|simp only[go_sem,seval,l3]|refine cP hst ?_|refine cP v1 ?_|refine cP v2 ?_|refine cP v4 ?_|refine oE ?_|apply xX<;>intro hc
 ·refine ak (α:=Nat) (fun i=>ls.length-i) (fun i=>⟨[(4, .p 1000 0 0),(5, .p 1001 0 0),(6, .p 1002 0 0),(7, .p 1003 0 0),(8, .p 1004 0 0),(9, .p 1005 0 0),(11, .p 1009 0 0),(12, .p 1010 0 0),(14, .v (.b (b0&&(ls.take i).all fun l=>l.all cr))),(15,E' i)],[(1000,⟨0,[.v (.s c), .v (.s sl)],false,none⟩),(1001,⟨0,[.v (.sl (gq.map dS)), .v (.sl (vs.map cO)), .v (.sl (es.map dr.pv))],false,none⟩),(1002,⟨0,[.v (.sl []), .v (.sl [])],false,none⟩),(1003,⟨0,[.v (.s ch), .v (.sl (rs.map cU)), .v (.sl (gs.map .s)), .v (.sl (ls.map qM))],false,none⟩),(1004,⟨0,[.sn, .v (.s []), .sn],false,some 177⟩),(1005,⟨0,[.sn, .sn],false,some 173⟩),(1009,⟨0,[.sn, .v (.s []), .sn],false,some 177⟩),(1010,⟨0,[.sn, .sn],false,some 173⟩)],1035⟩) (fun i=>i<=ls.length) 0 (fun _=>dF rfl) (aR _) ?_ ?_
  ·(refine AS.Le.of (by first|decide|omega) ?_ ?_<;>simp[dA,dz,aS,aB,AV.bd,AV.bd.bdL,u8,aq,au,aA])
   all_goals (rw[hb0];simp_all)
  ·intro i hi R hR;clear hb0 v1 v2 v4 hst
   by_cases hit:i<ls.length
   ·have e2:=getD_map qM ls ([]:List (Bool×Bytes)) hit;have hgo:=hR (i+1) oO oO;rw[aQ ([]:List (Bool×Bytes)) hit,List.all_append]at hgo;have hv:=jR (ls.getD i []) (h4 _ (aC [] hit));simp only[List.all_cons,List.all_nil,gj]at hgo;generalize ls.getD i []=y at e2 hgo hv;have e2:(ls.map qM).getD i .fn0= .sl (y.map cU):=e2;rw[<-Bool.and_assoc]at hgo;generalize (b0&&(ls.take i).all fun l=>l.all cr)=x at hgo⊢
    generalize y.all cr=z at hgo hv;clear hR h4 hf hvc hcm;cases x
    ·simp only[db]at hgo;refine jd (aN @l4 @e2) @hv ?_;refine hgo _ ?_
     (refine AS.Le.of (by first|decide|omega) ?_ ?_<;>simp[dA,dz,aS,aB,AV.bd,AV.bd.bdL,u8,aq,au,aA])
     all_goals first|omega|skip
    ·simp only[cj]at hgo;refine jd (aN @l4 @e2) @hv ?_;refine hgo _ ?_
     (refine AS.Le.of (by first|decide|omega) ?_ ?_<;>simp[dA,dz,aS,aB,AV.bd,AV.bd.bdL,u8,aq,au,aA])
     all_goals first|omega|skip
   ·have h:i=ls.length:=oO;rw[h,cg];clear hR hit hi h4;generalize hB:(b0&&ls.all fun l=>l.all cr)=B at*
    cases B
    ·simp only[cG,az];exact gU @l4
    ·have hch:bb1=true:=hvc (by simp only[ba]at hB;exact hB.1)
     rw[hch]at hcm;simp only[cX,az]at hcm;simp only[cl,bO,ar]at hf⊢
     by_cases hm:rs.length≠vs.length\/gs≠[]\/ls≠[]
     ·have hm2:(if¬rs.length=vs.length\/ ¬gs=[]\/ ¬ls=[]then(6:Int)else if num c<=num ch then 2 else 0)=6:=ah hm
      rw[hm2];have hm':rs.length≠vs.length\/(rs.length=vs.length/\gs.length≠0)\/(rs.length=vs.length/\gs.length=0/\ls.length≠0):=by
       rcases hm with h|h|h
       ·exact .inl h
       ·have:gs.length≠0:=fun h0=>h (fg.1 h0)
        omega
       ·have:ls.length≠0:=fun h0=>h (fg.1 h0)
        omega
      clear hm hf hm2 hcm;rcases hm' with h|⟨h,h'⟩|⟨h,h',h''⟩
      ·exact gU (aN @l1 (aN @l2 (aN @l3 @l4)))
      ·exact gU (aN @l1 (aN @l2 (aN @l3 @l4)))
      ·exact gU (aN @l1 (aN @l2 (aN @l3 @l4)))
     ·have hm2:(if¬rs.length=vs.length\/ ¬gs=[]\/ ¬ls=[]then(6:Int)else if num c<=num ch then 2 else 0)=if num c<=num ch then 2 else 0:=af hm
      rw[af hm]at hf;rw[hm2];have hge:num c<=num ch:=gQ fun h=>hf (af h)
      rw[ah hge];have hm':rs.length=vs.length/\gs=[]/\ls=[]:=⟨gQ fun h=>hm (.inl h),gQ fun h=>hm (.inr (.inl h)),gQ fun h=>hm (.inr (.inr h))⟩
      obtain⟨e1,e2,e3⟩:=hm';have e2':gs.length=0:=by rw[e2];rfl
      have e3':ls.length=0:=by rw[e3];rfl
      have h7: ∀ _:True,(0:Int)<=aZ (num ch) (num c):=fun _=>fH.2 hge
      have h5: ∀ _:True,decide (aZ (num ch) (num c)>=0)=true:=fun _=>aV (h7 oT)
      generalize aZ (num ch) (num c)=z at*;clear hm hf hm2;repeat' first|simp only[go_sem,seval,l1,l2,l3,l4,e2',e3',h5 oT]|refine cP qk ?_|refine cP hcm ?_|(refine aj ?_)|refine oE ?_|apply xX<;>intro hc
      all_goals skip
 ·refine ak (α:=Nat) (fun i=>ls.length-i) (fun i=>⟨[(4, .p 1000 0 0),(5, .p 1001 0 0),(6, .p 1002 0 0),(7, .p 1003 0 0),(8, .p 1004 0 0),(9, .p 1005 0 0),(11, .p 1009 0 0),(12, .p 1010 0 0),(14, .v (.b (b0&&(ls.take i).all fun l=>l.all cr))),(15,E' i)],[(1000,⟨0,[.v (.s c), .v (.s sl)],false,none⟩),(1001,⟨0,[.v (.sl (gq.map dS)), .v (.sl (vs.map cO)), .v (.sl (es.map dr.pv))],false,none⟩),(1002,⟨0,[.v (.sl []), .v (.sl [])],false,none⟩),(1003,⟨0,[.v (.s ch), .v (.sl (rs.map cU)), .v (.sl (gs.map .s)), .v (.sl (ls.map qM))],false,none⟩),(1004,⟨0,[.sn, .v (.s []), .sn],false,some 177⟩),(1005,⟨0,[.sn, .sn],false,some 173⟩),(1009,⟨0,[.sn, .v (.s []), .sn],false,some 177⟩),(1010,⟨0,[.sn, .sn],false,some 173⟩)],1035⟩) (fun i=>i<=ls.length) 0 (fun _=>dF rfl) (aR _) ?_ ?_
  ·(refine AS.Le.of (by first|decide|omega) ?_ ?_<;>simp[dA,dz,aS,aB,AV.bd,AV.bd.bdL,u8,aq,au,aA])
   all_goals (rw[hb0];simp_all)
  ·intro i hi R hR;clear hb0 v1 v2 v4 hst
   by_cases hit:i<ls.length
   ·have e2:=getD_map qM ls ([]:List (Bool×Bytes)) hit;have hgo:=hR (i+1) oO oO;rw[aQ ([]:List (Bool×Bytes)) hit,List.all_append]at hgo;have hv:=jR (ls.getD i []) (h4 _ (aC [] hit));simp only[List.all_cons,List.all_nil,gj]at hgo;generalize ls.getD i []=y at e2 hgo hv;have e2:(ls.map qM).getD i .fn0= .sl (y.map cU):=e2;rw[<-Bool.and_assoc]at hgo;generalize (b0&&(ls.take i).all fun l=>l.all cr)=x at hgo⊢
    generalize y.all cr=z at hgo hv;clear hR h4 hf hvc hcm;cases x
    ·simp only[db]at hgo;refine jd (aN @l4 @e2) @hv ?_;refine hgo _ ?_
     (refine AS.Le.of (by first|decide|omega) ?_ ?_<;>simp[dA,dz,aS,aB,AV.bd,AV.bd.bdL,u8,aq,au,aA])
     all_goals first|omega|skip
    ·simp only[cj]at hgo;refine jd (aN @l4 @e2) @hv ?_;refine hgo _ ?_
     (refine AS.Le.of (by first|decide|omega) ?_ ?_<;>simp[dA,dz,aS,aB,AV.bd,AV.bd.bdL,u8,aq,au,aA])
     all_goals first|omega|skip
   ·have h:i=ls.length:=oO;rw[h,cg];clear hR hit hi h4;generalize hB:(b0&&ls.all fun l=>l.all cr)=B at*
    cases B
    ·simp only[cG,az];exact gU @l4
    ·have hch:bb1=true:=hvc (by simp only[ba]at hB;exact hB.1)
     rw[hch]at hcm;simp only[cX,az]at hcm;simp only[cl,bO,ar]at hf⊢
     by_cases hm:rs.length≠vs.length\/gs≠[]\/ls≠[]
     ·have hm2:(if¬rs.length=vs.length\/ ¬gs=[]\/ ¬ls=[]then(6:Int)else if num c<=num ch then 2 else 0)=6:=ah hm
      rw[hm2];have hm':rs.length≠vs.length\/(rs.length=vs.length/\gs.length≠0)\/(rs.length=vs.length/\gs.length=0/\ls.length≠0):=by
       rcases hm with h|h|h
       ·exact .inl h
       ·have:gs.length≠0:=fun h0=>h (fg.1 h0)
        omega
       ·have:ls.length≠0:=fun h0=>h (fg.1 h0)
        omega
      clear hm hf hm2 hcm;rcases hm' with h|⟨h,h'⟩|⟨h,h',h''⟩
      ·exact gU (aN @l1 (aN @l2 (aN @l3 @l4)))
      ·exact gU (aN @l1 (aN @l2 (aN @l3 @l4)))
      ·exact gU (aN @l1 (aN @l2 (aN @l3 @l4)))
     ·have hm2:(if¬rs.length=vs.length\/ ¬gs=[]\/ ¬ls=[]then(6:Int)else if num c<=num ch then 2 else 0)=if num c<=num ch then 2 else 0:=af hm
      rw[af hm]at hf;rw[hm2];have hge:num c<=num ch:=gQ fun h=>hf (af h)
      rw[ah hge];have hm':rs.length=vs.length/\gs=[]/\ls=[]:=⟨gQ fun h=>hm (.inl h),gQ fun h=>hm (.inr (.inl h)),gQ fun h=>hm (.inr (.inr h))⟩
      obtain⟨e1,e2,e3⟩:=hm';have e2':gs.length=0:=by rw[e2];rfl
      have e3':ls.length=0:=by rw[e3];rfl
      have h7: ∀ _:True,(0:Int)<=aZ (num ch) (num c):=fun _=>fH.2 hge
      have h5: ∀ _:True,decide (aZ (num ch) (num c)>=0)=true:=fun _=>aV (h7 oT)
      generalize aZ (num ch) (num c)=z at*;clear hm hf hm2;repeat' first|simp only[go_sem,seval,l1,l2,l3,l4,e2',e3',h5 oT]|refine cP qk ?_|refine cP hcm ?_|(refine aj ?_)|refine oE ?_|apply xX<;>intro hc
      all_goals skip
 ·refine ak (α:=Nat) (fun i=>ls.length-i) (fun i=>⟨[(4, .p 1000 0 0),(5, .p 1001 0 0),(6, .p 1002 0 0),(7, .p 1003 0 0),(8, .p 1004 0 0),(9, .p 1005 0 0),(11, .p 1009 0 0),(12, .p 1010 0 0),(14, .v (.b (b0&&(ls.take i).all fun l=>l.all cr))),(15,E' i)],[(1000,⟨0,[.v (.s c), .v (.s sl)],false,none⟩),(1001,⟨0,[.v (.sl (gq.map dS)), .v (.sl (vs.map cO)), .v (.sl (es.map dr.pv))],false,none⟩),(1002,⟨0,[.v (.sl []), .v (.sl [])],false,none⟩),(1003,⟨0,[.v (.s ch), .v (.sl (rs.map cU)), .v (.sl (gs.map .s)), .v (.sl (ls.map qM))],false,none⟩),(1004,⟨0,[.sn, .v (.s []), .sn],false,some 177⟩),(1005,⟨0,[.sn, .sn],false,some 173⟩),(1009,⟨0,[.sn, .v (.s []), .sn],false,some 177⟩),(1010,⟨0,[.sn, .sn],false,some 173⟩)],1035⟩) (fun i=>i<=ls.length) 0 (fun _=>dF rfl) (aR _) ?_ ?_
  ·(refine AS.Le.of (by first|decide|omega) ?_ ?_<;>simp[dA,dz,aS,aB,AV.bd,AV.bd.bdL,u8,aq,au,aA])
   all_goals (rw[hb0];simp_all)
  ·intro i hi R hR;clear hb0 v1 v2 v4 hst
   by_cases hit:i<ls.length
   ·have e2:=getD_map qM ls ([]:List (Bool×Bytes)) hit;have hgo:=hR (i+1) oO oO;rw[aQ ([]:List (Bool×Bytes)) hit,List.all_append]at hgo;have hv:=jR (ls.getD i []) (h4 _ (aC [] hit));simp only[List.all_cons,List.all_nil,gj]at hgo;generalize ls.getD i []=y at e2 hgo hv;have e2:(ls.map qM).getD i .fn0= .sl (y.map cU):=e2;rw[<-Bool.and_assoc]at hgo;generalize (b0&&(ls.take i).all fun l=>l.all cr)=x at hgo⊢
    generalize y.all cr=z at hgo hv;clear hR h4 hf hvc hcm;cases x
    ·simp only[db]at hgo;refine jd (aN @l4 @e2) @hv ?_;refine hgo _ ?_
     (refine AS.Le.of (by first|decide|omega) ?_ ?_<;>simp[dA,dz,aS,aB,AV.bd,AV.bd.bdL,u8,aq,au,aA])
     all_goals first|omega|skip
    ·simp only[cj]at hgo;refine jd (aN @l4 @e2) @hv ?_;refine hgo _ ?_
     (refine AS.Le.of (by first|decide|omega) ?_ ?_<;>simp[dA,dz,aS,aB,AV.bd,AV.bd.bdL,u8,aq,au,aA])
     all_goals first|omega|skip
   ·have h:i=ls.length:=oO;rw[h,cg];clear hR hit hi h4;generalize hB:(b0&&ls.all fun l=>l.all cr)=B at*
    cases B
    ·simp only[cG,az];exact gU @l4
    ·have hch:bb1=true:=hvc (by simp only[ba]at hB;exact hB.1)
     rw[hch]at hcm;simp only[cX,az]at hcm;simp only[cl,bO,ar]at hf⊢
     by_cases hm:rs.length≠vs.length\/gs≠[]\/ls≠[]
     ·have hm2:(if¬rs.length=vs.length\/ ¬gs=[]\/ ¬ls=[]then(6:Int)else if num c<=num ch then 2 else 0)=6:=ah hm
      rw[hm2];have hm':rs.length≠vs.length\/(rs.length=vs.length/\gs.length≠0)\/(rs.length=vs.length/\gs.length=0/\ls.length≠0):=by
       rcases hm with h|h|h
       ·exact .inl h
       ·have:gs.length≠0:=fun h0=>h (fg.1 h0)
        omega
       ·have:ls.length≠0:=fun h0=>h (fg.1 h0)
        omega
      clear hm hf hm2 hcm;rcases hm' with h|⟨h,h'⟩|⟨h,h',h''⟩
      ·exact gU (aN @l1 (aN @l2 (aN @l3 @l4)))
      ·exact gU (aN @l1 (aN @l2 (aN @l3 @l4)))
      ·exact gU (aN @l1 (aN @l2 (aN @l3 @l4)))
     ·have hm2:(if¬rs.length=vs.length\/ ¬gs=[]\/ ¬ls=[]then(6:Int)else if num c<=num ch then 2 else 0)=if num c<=num ch then 2 else 0:=af hm
      rw[af hm]at hf;rw[hm2];have hge:num c<=num ch:=gQ fun h=>hf (af h)
      rw[ah hge];have hm':rs.length=vs.length/\gs=[]/\ls=[]:=⟨gQ fun h=>hm (.inl h),gQ fun h=>hm (.inr (.inl h)),gQ fun h=>hm (.inr (.inr h))⟩
      obtain⟨e1,e2,e3⟩:=hm';have e2':gs.length=0:=by rw[e2];rfl
      have e3':ls.length=0:=by rw[e3];rfl
      have h7: ∀ _:True,(0:Int)<=aZ (num ch) (num c):=fun _=>fH.2 hge
      have h5: ∀ _:True,decide (aZ (num ch) (num c)>=0)=true:=fun _=>aV (h7 oT)
      generalize aZ (num ch) (num c)=z at*;clear hm hf hm2;repeat' first|simp only[go_sem,seval,l1,l2,l3,l4,e2',e3',h5 oT]|refine cP qk ?_|refine cP hcm ?_|(refine aj ?_)|refine oE ?_|apply xX<;>intro hc
      all_goals skip
theorem ND {s:cK} {i:Nat} (hi:i<s.vars.length) {x:Bool×Bytes} (va:aa x.2=true) {L:Nat} (hL:L<dC):aE 391 [s.pv,E i,cU x,N L] (.b (sj (s.vars.getD i []) x L)):=by
 obtain⟨n,a⟩:=x;simp only at va;have hla:=dD va;have hc:=fZ (a:=a) (b:=bR L) (bG va) (fF L) oO (by have:=kZ.2 hL;omega)
 rw[aY]at hc;have hd: ∀ _:True,decide (aZ (num a) L<0)=decide (num a<L):=fun _=>by rw[dk];simp only[bM];exact fy
 have e1:=getD_map cO s.vars [] hi;have l2:(s.vars.map cO).length=s.vars.length:=aL ..;unfold sj;simp only[cU];generalize aZ (num a) L=cm at*;generalize s.vars.getD i []=b at*;generalize decide (num a<L)=p at*;generalize hb:(b==([]:Bytes))=q at*;simp only[cO]at e1;unfold cK.pv
 cases p<;>cases q<;>cases n<;>
 ·refine eW call391 func391 ?_;repeat' first|simp only[go_sem,seval,hb,bne,hd oT,l2,e1]|refine cP hc ?_|refine oE ?_|apply xX<;>intro hc
  all_goals rfl
theorem AN {s:cK} (hp:uV c sl s) (h1:SN s) (h2:s.eqs≠[]) {l:List (Bool×Bytes)} (hll:l.length<1000000) (h24: ∀x∈l,x.2.length<=24):aE 266 [.agg [.s c, .s sl],s.pv, .s ch, .sl (l.map cU)] (.tup [.sl (jl c sl s ch l),E (dR (bK s.groups) c sl s.vars ch l)]):=by
 have hr:=hp.r;have hs:=hp.g;have hb:=yL hp;have lo:=(eF hs.g).2;clear hp;have vh:=aI ch;have hi:=Ke l hll;have l5:(l.map cU).length=l.length:=aL ..;have l2:(s.vars.map cO).length=s.vars.length:=aL ..;have l6:(s.vars.map fun b=>N (lR (bK s.groups) c sl b)).length=s.vars.length:=aL ..
 have nv:=hs.nv
 by_cases g1:aa ch=true/\l.all cr=true
 case neg=>
  have e:(aa ch&&l.all cr)=false:=by rw[dy];intro g;simp at g;exact g1 ⟨g.1,by simpa[bH]using g.2⟩
  have e2:dR (bK s.groups) c sl s.vars ch l=3:=by simp only[dR,e];rfl
  rw[jl,af (by rw[e2];decide),e2]
  clear e2 hs;unfold cK.pv at*;generalize aa ch=b1 at*;generalize l.all cr=b2 at*;refine eW call266 func266 ?_;repeat' first|simp only[go_sem,seval]|refine cP hb ?_|refine cP vh ?_|refine cP hi ?_|refine oE ?_|apply xX<;>intro hc
  all_goals (exfalso;simp_all)
 obtain⟨vc,hok⟩:=g1;rw[vc]at vh;rw[hok]at hi;have hlc:=dD vc;have hrl:=hr.lc;have hcm:=fZ (bG vc) (bG hr.vc) oO oO
 by_cases g2:num c<=num ch
 ·have e2:dR (bK s.groups) c sl s.vars ch l=2:=by simp only[dR,vc,hok];rw[af (by simp),ah g2]
  have hd: ∀ _:True,decide (aZ (num ch) (num c)>=0)=true:=fun _=>aV (fH.2 g2)
  rw[jl,af (by rw[e2];decide),e2]
  generalize aZ (num ch) (num c)=cm at*;clear e2 hs;unfold cK.pv at*;refine eW call266 func266 ?_;exact zB (hd oT) @hb @vh @hi @hcm
 have hd: ∀ _:True,decide (aZ (num ch) (num c)>=0)=false:=fun _=>bL (fun g=>g2 (fH.1 g))
 by_cases g3:l.length=s.vars.length
 case neg=>
  have e2:dR (bK s.groups) c sl s.vars ch l=6:=by simp only[dR,vc,hok];rw[af (by simp),af g2,ah g3]
  rw[jl,af (by rw[e2];decide),e2]
  generalize aZ (num ch) (num c)=cm at*;clear e2 hs;unfold cK.pv at*;refine eW call266 func266 ?_;repeat' first|simp only[go_sem,seval,hd oT,l5,l2]|refine cP hb ?_|refine cP vh ?_|refine cP hi ?_|refine cP hcm ?_|refine oE ?_|apply xX<;>intro hc
  all_goals (exfalso;omega)
 have hms:=J5 hs.m h1 h2 vc g3 h24;have hv:=hs.v;have hval: ∀x∈l,aa x.2=true:=fun x hx=>by
  have:=bH.1 hok x hx;simp only[cr,ba]at this;exact this.1
 have e0:dR (bK s.groups) c sl s.vars ch l=if !El (bK s.groups) c sl s.vars l then 2 else 0:=by
  simp only[dR,vc,hok];rw[af (by simp),af g2,af oO]
 have hwi: ∀{i:Nat},i<s.vars.length->aE 391 [s.pv,E i,cU (l.getD i fh),N (lR (bK s.groups) c sl (s.vars.getD i []))] (.b (sj (s.vars.getD i []) (l.getD i fh) (lR (bK s.groups) c sl (s.vars.getD i [])))):=fun{i} hlt=>by
  obtain⟨k1,k3⟩:=hv _ (aC [] hlt);exact ND hlt (hval _ (aC fh oO)) (Ee hr lo k3)
 unfold jl;rw[e0];clear e0 hs hok h1;obtain⟨gs,vs,es⟩:=s;simp only at*;generalize bK gs=o at*;unfold cK.pv at*;simp only at*;generalize aZ (num ch) (num c)=cm at*;refine eW call266 func266 ?_;refine tN (aN (hd oT) (aN @l5 @l2)) @hb @vh @hi @hcm ?_;refine ak (α:=Nat) (fun i=>vs.length-i) (fun i=>⟨[(2, .v (.s ch)),(3, .v (.sl (l.map cU))),(5, .p 1001 0 0),(11, .v (.sl (vs.map fun b=>N (lR o c sl b)))),(13,E' i)],[(1001,⟨0,[.v (.sl (gs.map dS)), .v (.sl (vs.map cO)), .v (.sl (es.map dr.pv))],false,none⟩)],_⟩) (fun i=>i<=vs.length/\ ∀j,j<i->sj (vs.getD j []) (l.getD j fh) (lR o c sl (vs.getD j []))=true) 0 (fun _=>aD _) ⟨aR _,fun j hj=>oO⟩ ?_ ?_
 ·exact lE
 ·rintro i ⟨hi',hf⟩ R hR
  by_cases hlt:i<vs.length
  ·have e2:=getD_map (fun b=>N (lR o c sl b)) vs [] hlt
   have hlt2:i<l.length:=oO;have e3:=getD_map cU l fh hlt2;have ad:=hwi hlt;have hgo:=hR (i+1)
   by_cases hc2:sj (vs.getD i []) (l.getD i fh) (lR o c sl (vs.getD i []))=true
   ·have hgo:=hgo ⟨oO,fun j hj=>by
     by_cases e:j=i
     ·rw[e];exact hc2
     ·exact hf j oO⟩ oO
    rw[hc2]at ad;clear hR hf hc2 hwi;generalize lR o c sl (vs.getD i [])=L at*;obtain⟨x,hx⟩: ∃x,x=l.getD i fh:=⟨_,rfl⟩;rw[<-hx]at ad e3;clear hx;obtain⟨xn,xa⟩:=x;simp only[cU]at*;exact kp (aN @l2 (aN @l5 (aN @l6 (aN @e2 @e3)))) @hgo @ad
   ·rw[Em hlt hc2];rw[dy.2 hc2]at ad;clear hR hf hgo hc2 hwi;generalize lR o c sl (vs.getD i [])=L at*;obtain⟨x,hx⟩: ∃x,x=l.getD i fh:=⟨_,rfl⟩;rw[<-hx]at ad e3;clear hx;obtain⟨xn,xa⟩:=x;simp only[cU]at*;exact lF (aN @l2 (aN @l5 (aN @l6 (aN @e2 @e3)))) @ad
  ·obtain rfl:i=vs.length:=oO;rw[uA hf];exact lF (aN @l2 @l5) @hms
theorem EE {s:cK} (hp:uV c sl s) (ht:SN s) (h0:s.vars≠[]) (h00:s.eqs≠[]) (h1:rs.length<1000000) (h24: ∀x∈rs,x.2.length<=24) (hf:fJ c s.vars.length ch rs [] []=0) (hi:dR (bK s.groups) c sl s.vars ch rs≠0):
  aE 281 [.agg [.s c, .s sl],s.pv,C0,uL ch rs [] []] (.tup [YP,B0,E (dR (bK s.groups) c sl s.vars ch rs)]):=by
 obtain⟨o1,o2,o3,o4⟩:=DY hf;have hst:=ql hp;have v1:=aI ch;rw[o1]at v1;have v2:=jR rs oO;rw[o2]at v2;have v4:=oG [] (by simp)
 have hcm:=jq ch c;rw[o1,hp.r.vc]at hcm;simp only[cX,az]at hcm;have hfi:=AN hp ht h00 (ch:=ch) (l:=rs) h1 h24;have hl:jl c sl s ch rs=[]:=by unfold jl;rw[af hi]
 rw[hl]at hfi;have hb:(dR (bK s.groups) c sl s.vars ch rs==0)=false:=by simpa using hi
 generalize dR (bK s.groups) c sl s.vars ch rs=e at*;have l1:(rs.map cU).length=rs.length:=aL ..;obtain⟨gq,vs,es⟩:=s;have l2:(vs.map cO).length=vs.length:=aL ..;have o3:rs.length=vs.length:=o3;simp only[uL,cK.pv,bj]at hst hfi v4⊢;have h7: ∀ _:True,¬(0:Int)<=aZ (num ch) (num c):=fun _ h=>o4 (fH.1 h)
 have h5: ∀ _:True,decide (aZ (num ch) (num c)>=0)=false:=fun _=>bL (h7 oT)
 generalize aZ (num ch) (num c)=z at*;clear hf o4;refine eW call281 func281 ?_;repeat' first|simp only[go_sem,seval,l1,l2,o3,hb,h5 oT]|refine cP hst ?_|refine cP v1 ?_|refine cP v2 ?_|refine cP v4 ?_|refine cP qk ?_|refine cP hcm ?_|refine cP hfi ?_|(refine aj ?_)|refine oE ?_|apply xX<;>intro hc
theorem EF {s:cK} (hp:uV c sl s) (ht:SN s) (h0:s.vars≠[]) (h00:s.eqs≠[]) (h1:rs.length<1000000) (h24: ∀x∈rs,x.2.length<=24) (hf:fJ c s.vars.length ch rs [] []=0) (hi:dR (bK s.groups) c sl s.vars ch rs=0):
  aE 281 [.agg [.s c, .s sl],s.pv,C0,uL ch rs [] []] (.tup [.agg [.sl (s.eqs.map fun q=>N (fP s.groups ch rs q)), .s ch, .sl (rs.map cU)],B0,E 0]):=by
 obtain⟨o1,o2,o3,o4⟩:=DY hf;have hst:=ql hp;have v1:=aI ch;rw[o1]at v1;have v2:=jR rs oO;rw[o2]at v2;have v4:=oG [] (by simp)
 have hcm:=jq ch c;rw[o1,hp.r.vc]at hcm;simp only[cX,az]at hcm;have hfi:=AN hp ht h00 (ch:=ch) (l:=rs) h1 h24;have hl:jl c sl s ch rs=s.eqs.map fun q=>N (fP s.groups ch rs q):=by unfold jl;rw[ah hi]
 rw[hl,hi]at hfi;generalize (s.eqs.map fun q=>N (fP s.groups ch rs q))=fl at*
 obtain⟨gq,vs,es⟩:=s;have l2:(vs.map cO).length=vs.length:=aL ..;have o3:rs.length=vs.length:=o3;obtain⟨x,r,hxr⟩: ∃x r,rs=x::r:=by
  cases hrs:rs with
  |nil=>rw[hrs]at o3;exact aM (fg.1 o3.symm) h0
  |cons a b=>exact⟨a,b,rfl⟩
 have l1:(rs.map cU).length=rs.length:=aL ..;simp only[uL,cK.pv,bj]at hst hfi v4⊢;have h7: ∀ _:True,¬(0:Int)<=aZ (num ch) (num c):=fun _ h=>o4 (fH.1 h)
 have h5: ∀ _:True,decide (aZ (num ch) (num c)>=0)=false:=fun _=>bL (h7 oT)
 generalize aZ (num ch) (num c)=z at*;have hn: ∀ _:True,¬rs.length=0:=fun _=>by rw[hxr];simp
 have hn2: ∀ _:True,¬vs.length=0:=fun _=>by rw[<-o3];exact hn oT
 clear hf o4;refine eW call281 func281 ?_;repeat' first|simp only[go_sem,seval,l1,l2,o3,h5 oT,hn oT,hn2 oT]|refine cP hst ?_|refine cP v1 ?_|refine cP v2 ?_|refine cP v4 ?_|refine cP qk ?_|refine cP hcm ?_|refine cP hfi ?_|(refine aj ?_)|refine oE ?_|apply xX<;>intro hc
 have hrow:List.map AV.v (List.flatMap PV.cells (List.map cU rs))=aX cU rs:=by
  rw[aX,oZ]
 have q2:=dU mf rs;rw[hrow];have hv2:vs.length<1000000:=oO;refine⟨⟨fun y hy=>by obtain⟨z,-,rfl⟩:=cv.1 hy;exact mf.len z,fun y hy=>bH.1 q2 y hy,oO,oO⟩,?_⟩
 refine aj ?_;have q0:(aX cU rs).length=vs.length*2:=by rw[cF mf,o3]
 have q1:List.take (vs.length*2) (aX cU rs)=aX cU rs:=by rw[<-o3];exact cR mf rs
 have q3:chunk 2 vs.length (rs.flatMap fun x=>(cU x).cells)=rs.map cU:=by rw[<-o3];exact dj mf rs
 exact gU (aN @q0 (aN @q1 (aN @q2 (aN @q3 @eJ))))
theorem Gy {s:cK} (hp:uV c sl s) (ht:SN s) (hb:Rs s) (h00:s.eqs≠[]) {ctx:Bytes} (hx:ctx.length<=100000) {gs:List Bytes} (h1:rs.length<1000000) (h24: ∀x∈rs,x.2.length<=24) (h2:gs.length<=1000) (h3:ls.length<=1000) (h4: ∀l∈ls,l.length<4611686018427387904):
  aE 154 [.agg [.s c, .s sl], .s ctx,s.pv,C0,uL ch rs gs ls] (E (zo c sl ctx s ch rs gs ls)):=by
 unfold zo
 by_cases hf:fJ c s.vars.length ch rs gs ls=0
 ·obtain⟨rfl,rfl⟩:=Au hf;rw[af (by simpa using hf)]
  by_cases hi:dR (bK s.groups) c sl s.vars ch rs=0
  ·rw[af (by simpa using hi)]
   have ho:=EF hp ht hb.v0 h00 h1 h24 hf hi;have hmap:(s.eqs.map fun q=>N (fP s.groups ch rs q))=(oi s ch rs).map .s:=by unfold oi;rw[iF];rfl
   rw[hmap]at ho;have f0:oi s ch rs≠[]:=by unfold oi;simpa using h00
   have fl:=HE hp.g ch rs;have fe:(oi s ch rs).length=s.eqs.length:=by unfold oi;rw[aL]
   generalize oi s ch rs=fs at*;have hc:=zQ hp hb hx f0 fe (fun x hx=>(fl x hx).1) (bH.2 fun x hx=>(fl x hx).2)
   have ha:=Nh ch;generalize gK (xQ ctx s fs) c=z at*;obtain⟨gq,vs,es⟩:=s;simp only[uL,cK.pv,bj]at ho hc⊢;clear hp hb h2 h3 h4 hf hi hmap
   by_cases hz:bR z=ch
   ·rw[ah hz];have hz1:(bR z==ch)=true:=by simpa using hz
    refine eW call154 func154 ?_;exact Ro @hz1 @ho @hc @ha @EJ
   ·rw[af hz];have hz1:(bR z==ch)=false:=by simpa using hz
    refine eW call154 func154 ?_;exact Ro @hz1 @ho @hc @ha @EJ
  ·rw[ah hi];have ho:=EE hp ht hb.v0 h00 h1 h24 hf hi;have hb:(dR (bK s.groups) c sl s.vars ch rs==0)=false:=by simpa using hi
   generalize dR (bK s.groups) c sl s.vars ch rs=e at*;obtain⟨gq,vs,es⟩:=s;simp only[uL,cK.pv,bj]at ho⊢;refine eW call154 func154 ?_;exact lF @hb @ho
 ·rw[ah hf];have ho:=Gv hp hb.v0 h1 h2 h3 h4 hf;have hb:(fJ c s.vars.length ch rs gs ls==0)=false:=by simpa using hf
  generalize fJ c s.vars.length ch rs gs ls=e at*;obtain⟨gq,vs,es⟩:=s;simp only[uL,cK.pv]at ho⊢;refine eW call154 func154 ?_;exact lF @hb @ho
theorem Gz {p:cq} {k:Key} (hp:p.short) (hpe:eQ p=0) (hk:py k) (lm:k.m.length<=8) (ln:k.name.length<=60) (lr:k.r.length<=20) (h0:0<k.r.length) {r:nF} (hr:r.V8) (h24: ∀x∈r.rs,x.2.length<=24):aE 66 [p.pv,k.pv,r.pv] (E (qU p k r)):=by
 obtain⟨c,n,ch,rs,gs,ls⟩:=r;obtain⟨n1,n2,n3,n4⟩:=hr;simp only at n1 n2 n3 n4 h24;have u1:=aI c;have u2:=nQ lm (o:=[]) oC c;have hg:vE k.m [] c=dx k.m [] c:=by
  have:=qW hk;rw[hk.o]at this;unfold vE jF;rw[this,ah (by simp)];rfl
 rw[hg]at u2;have ho:=hk.o;unfold qU nF.pv;simp only
 cases hv:aa c with
 |false=>
  rw[hv]at u1;simp only[cG,az];clear hg u2 hk;unfold cq.pv Key.pv;refine eW call66 func66 ?_;exact z1 @u1
 |true=>
 rw[hv]at u1;simp only[cl,bO,ar,bM]
 by_cases h64:64<n.length
 ·rw[ah h64];clear hg u2 hk;unfold cq.pv Key.pv;refine eW call66 func66 ?_;exact z1 @u1
 rw[af h64]
 cases hc:dx k.m [] c with
 |false=>
  rw[hc]at u2;simp only[cG,az];clear hg hk;obtain⟨name,m,o,z,s,l,u,hh⟩:=k;simp only at ho u2;subst ho;unfold cq.pv Key.pv;refine eW call66 func66 ?_;exact z2 @u1 @u2
 |true=>
 rw[hc]at u2;simp only[cl,bO,ar];have w1:=Nf k n oO oO;have w2:=Ng p k c h0 oO;have hT:SN (e9 p k c):=by
  intro q hq;simp only[e9,fR]at hq;subst hq;refine⟨by simp,fun t ht=> ?_⟩
  simp only[cd,il,or_false]at ht;rcases ht with rfl|rfl<;>simp[vL]
 have w3:=Gy (sw hp hpe hk lm h0 hc) hT (xA hp hk lm h0 hc) (by simp[e9]) (ctx:=kY k n) (by simp[kY];omega) (ch:=ch) (rs:=rs) (gs:=gs) (ls:=ls) n1 h24 n2 n3 n4
 generalize zo p.c p.sl (kY k n) (e9 p k c) ch rs gs ls=e at*;generalize kY k n=cx at*;generalize e9 p k c=S at*;clear hk hc hg;obtain⟨sg,sv,se⟩:=S;obtain⟨name,m,o,z,s,l,u,hh⟩:=k;simp only at ho u2;subst ho;unfold Key.pv cq.pv cK.pv uL at*;refine eW call66 func66 ?_;exact z7 @u1 @u2 @w1 @w2 @w3 oT oT
theorem EH {p:cq} {k:Key} (hp:p.short) (lm:k.m.length<=8) (ln:k.name.length<=60) (lr:k.r.length<=20) {r:nF} (hr:r.V8) (h24: ∀x∈r.rs,x.2.length<=24):aE 19 [p.pv,k.pv,r.pv] (E (uW p k r)):=by
 have hck:=pO p k _ (pN p hp) lm ln lr;unfold uW
 by_cases h:fa (eQ p) k=0
 ·rw[af (by simpa using h)]
  rw[h]at hck;obtain⟨hpe,hk⟩:=ot h;have:=x7 h;have hc:=Gz hp hpe hk lm ln lr oO hr h24;generalize qU p k r=e at*;clear hk;unfold nF.pv Key.pv cq.pv at*;refine eW call19 func19 ?_;exact z2 @hck @hc
 ·rw[ah h];have hb2:(fa (eQ p) k !=0)=true:=by simpa using h
  generalize fa (eQ p) k=e at*;unfold nF.pv Key.pv cq.pv at*;refine eW call19 func19 ?_;exact lF @hb2 @hck
def yU (r:nF):Bool:=decide (r.c.length<=12)&&(decide (r.n.length<=80)&&y5 r.ch r.rs r.gs r.ls)
theorem Kc (r:nF) (h1:r.rs.length<4611686018427387904) (h2:r.gs.length<4611686018427387904) (h3:r.ls.length<4611686018427387904) (h4: ∀l∈r.ls,l.length<4611686018427387904):aE 17 [r.pv] (.b (yU r)):=by
 have h:=Kl r.ch r.rs r.gs r.ls h1 h2 h3 h4;obtain⟨c,n,ch,rs,gs,ls⟩:=r;unfold yU nF.pv;simp only at h⊢;generalize y5 ch rs gs ls=b at*;unfold uL at*;have x1:decide ((c.length:Int)<=12)=decide (c.length<=12):=by rw[fz];omega
 have x2:decide ((n.length:Int)<=80)=decide (n.length<=80):=by rw[fz];omega
 generalize decide (c.length<=12)=c1 at*;generalize decide (n.length<=80)=c2 at*
 cases c1<;>cases c2
 all_goals
  refine eW call17 func17 ?_;exact lF (aN @x1 @x2) @h
theorem Nl {r:nF} (h:yU r=true):r.V8/\ ∀x∈r.rs,x.2.length<=24:=by
 unfold yU y5 k9 at h;simp only[ba,bM]at h;obtain⟨-,-,h1,h2,-,h3,h4,-,h5⟩:=h;refine⟨⟨oO,oO,oO,fun l hl=> ?_⟩,fun x hx=> ?_⟩
 ·rw[c9 oO]at h2;have:=bH.1 h2 l hl;unfold ya at this
  by_cases h0:l=[]
  ·rw[h0];simp
  ·obtain⟨x,xs,rfl⟩:=List.exists_cons_of_ne_nil h0;rw[List.take_succ_cons,List.all_cons,ba,ba,bM,bM]at this;have:=this.1.2;omega
 ·rw[c9 oO]at h1;exact of_decide_eq_true (bH.1 h1 x hx)
theorem Pk (p:cq) (k:Key) (tp tq:Bytes) (r:nF) (hr:k.r.length<4611686018427387904) (h1:r.rs.length<4611686018427387904) (h2:r.gs.length<4611686018427387904) (h3:r.ls.length<4611686018427387904) (h4: ∀l∈r.ls,l.length<4611686018427387904):aE 5 [jg p k tp tq,r.pv] (.b true):=by
 have hf:=y8 p k tp tq hr;have ht:=Kc r h1 h2 h3 h4;have ha:=xt
 cases hfb:qo p k tp tq with
 |false=>
  rw[hfb]at hf;clear hfb;unfold jg nF.pv at*;refine eW call5 func5 ?_;exact z2 @hf @ha
 |true=>
 rw[hfb]at hf;unfold qo at hfb;simp only[ba,bM]at hfb;obtain⟨b1,b2,-,-⟩:=hfb
 cases htb:yU r with
 |false=>
  rw[htb]at ht;clear htb b1 b2;unfold jg nF.pv at*;refine eW call5 func5 ?_;exact z4 @hf @ht @ha oT
 |true=>
 rw[htb]at ht;obtain⟨hfw,h24⟩:=Nl htb;obtain⟨lm,lo,lr,ln,-,-,-⟩:=DT b2;have hp:=sD b1;have s1:=FC hp lm ln oO hfw;have s2:=EH hp lm ln oO hfw h24;have e1:=fW (uW p k r);generalize uW p k r=e at*;clear htb b1 b2 hp hfw h24;unfold jg cq.pv Key.pv nF.pv at*;refine eW call5 func5 ?_;exact VX @e1 @hf @ht @ha @s1 @s2 oT oT
end Go.Proofs.Tryz
namespace Go.Proofs.YtnhhajlcpjgkjaaGreatDoor
open Go Go.Dom Go.ChangeShapes Go.WideShapes Go.ChangeAt Go.RowKit Go.Proofs.Tryz
theorem zK (os:Os) (started:os.Started) (H:Type) (enc:TypeId×Value->H):
  ReturnsInHanded {} Tryz.checked os 5 .any (fun w args=>(Rows.blindissueChecksSpec.pre enc Tryz.prog Tryz.f5 [] false w args/\laidMetH Tryz.prog pf w)/\sizedMet enc Tryz.prog Tryz.f5 (OpenSpec.ofChange Rows.blindissueChecksSpec) false w args)
   (Rows.blindissueChecksSpec.post enc Tryz.prog Tryz.f5 false true false false):=by
 refine returnsInHanded_of_change_and (C:=Tryz.checked) (X:=fun w _=>laidMetH Tryz.prog pf w) (fun _ _ _ hh h=>h.of_heap hh) Xq started (by kernel_rfl) Tryz.func5
  (ChangeSpec.witness_shaped (enc:=enc) (C:=Tryz.checked) (os:=os) (X:=fun w _=>laidMetH Tryz.prog pf w) false (World.laidAll Tryz.prog os pf) #[.agg #[.string ⟨#[]⟩, .string ⟨#[]⟩, .string ⟨#[]⟩, .string ⟨#[]⟩, .string ⟨#[]⟩, .string ⟨#[]⟩, .string ⟨#[]⟩, .string ⟨#[]⟩, .string ⟨#[]⟩, .string ⟨#[]⟩, .string ⟨#[]⟩, .string ⟨#[]⟩, .string ⟨#[]⟩, .string ⟨#[]⟩, .string ⟨#[]⟩, .string ⟨#[]⟩, .string ⟨#[]⟩, .string ⟨#[]⟩, .string ⟨#[]⟩, .string ⟨#[]⟩, .string ⟨#[]⟩, .string ⟨#[]⟩, .slice none 0 0, .string ⟨#[]⟩, .string ⟨#[]⟩, .string ⟨#[]⟩, .string ⟨#[]⟩], .agg #[.string ⟨#[]⟩, .string ⟨#[]⟩, .string ⟨#[]⟩, .slice none 0 0, .slice none 0 0, .slice none 0 0]] 8 (World.laidAll_os _ _ _)
   (World.shaped_of_ZipB (by kernel_rfl) (by kernel_rfl)) (by kernel_rfl) (by kernel_rfl) (by kernel_rfl)
   (by rw[MakeChecks.laidMetH_plain _ _ _ (by kernel_rfl)];exact laidMet_laidAll _ (by kernel_rfl) (by kernel_rfl))) ?_
 intro W base args ds gs before hval0 hW hcnd hwt hL _;rw[MakeChecks.laidMetH_plain _ _ _ (by kernel_rfl)]at hL
 have hval: ∀(j:Nat) t v,Tryz.f5.params[j]?=some t->args[j]?=some v->Value.okWide Tryz.prog W .any base t v:=hval0;have hW':=hW;obtain⟨p,q,hA0,hV,rfl,hfz,hnd⟩:=hW;have hA:DataW.TrodAll enc Tryz.prog W 0 (fun _=>true) true Tryz.f5.params.toList args.toList ds p:=hA0
 have hlt: ∀x∈p++q,x.block<W.heap.size:=fun x hx=>hW'.lt x hx
 rw[Tryz.params5]at hA hval;obtain⟨v0,v1,d0,d1,p0,p1,rfl,rfl,rfl,h0,h1⟩:=trodAll_two hA;obtain⟨rfl,rfl⟩:=trodVars_none hV;have hall:=bH.1 hwt;have rb:=reachBytes_lt;have hv0:=hval 0 37 v0 rfl rfl;unfold Value.okWide at hv0;rw[Tryz.underlying37]at hv0;simp only at hv0;obtain⟨c0,rfl,s0,-⟩:=hv0;have w0: ∀m∈d0.weights Tryz.prog 37,m<=reachBytes:=fun m hm=>of_decide_eq_true (hall m (DataW.weights_mem_each (j:=0) rfl rfl m hm))
 obtain⟨n0,t0⟩:=id h0;obtain⟨Ol,r0,o0,y0⟩:=sY 10 n0 _ c0.toList d0 p0 Xm t0 w0;obtain⟨pa,ke,tp,tq,ea0,hb0⟩:=Iz y0;have q0:PR (zS W) (jg pa ke tp tq) (.agg c0):=by
  rw[<-ea0];have:=PR.agg (rd:=zS W) Ol c0.toList o0 r0.1 r0.2;simpa using this
 have hv1:=hval 1 50 v1 rfl rfl;unfold Value.okWide at hv1;rw[Tryz.underlying50]at hv1;simp only at hv1;obtain⟨c1,rfl,s1,-⟩:=hv1;have w1: ∀m∈d1.weights Tryz.prog 50,m<=reachBytes:=fun m hm=>of_decide_eq_true (hall m (DataW.weights_mem_each (j:=1) rfl rfl m hm))
 obtain⟨n1,t1⟩:=id h1;obtain⟨zx,r1,o1,y1⟩:=sY 10 n1 _ c1.toList d1 p1 ZN t1 w1;obtain⟨r,ea1,hb1,hb2,hb3,hb4⟩:=Yt y1;have q1:PR (zS W) (r.pv) (.agg c1):=by
  rw[<-ea1];have:=PR.agg (rd:=zS W) zx c1.toList o1 r1.1 r1.2;simpa using this
 obtain⟨g,hg,hc⟩:=Pk pa ke tp tq r (by omega) (by omega) (by omega) (by omega) (fun l hl=>by have:=hb4 l hl;omega)
 have hg3:g=5:=by
  have a1:=hg #[] W;have a2:=Tryz.call5 #[] W;rw[a1]at a2;injection a2 with a2 _
  injection a2
 subst hg3;refine(hc W (zS W) [.agg c0, .agg c1] (Bf hL) (fun _ _ _ h=>h) (.cons q0 (.cons q1 .nil))).mono ?_
 rintro e W' ⟨v,rfl,hb,hpr⟩;cases hpr;refine⟨_,rfl,AH (pa:=p0++p1) (pv:=[]) hW' (fun _ _ _=>trodAll_mk1 (shut_bool IA true)) (fun sp hsp=>trodAll_mk2 (WideElems.Trod_stays Ef (by kernel_rfl) (of_decide_eq_true (by kernel_rfl)) h0 (fun x hx=>hb.same (hlt x (by simp[hx]))) (fun x hx=>hsp x (by simp[hx]))) (WideElems.Trod_stays Ef (by kernel_rfl) (of_decide_eq_true (by kernel_rfl)) h1 (fun x hx=>hb.same (hlt x (by simp[hx]))) (fun x hx=>hsp x (by simp[hx])))) (fun _ _=>rfl) (by simp) hb (ok_one (by kernel_rfl) rfl (okWide_bool_mk IA true))⟩
