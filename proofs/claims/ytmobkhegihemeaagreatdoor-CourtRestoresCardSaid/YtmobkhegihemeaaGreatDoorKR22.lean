/-
  Part of the proof, part KR22. Own work.
-/
import Derived.Test.YtmobkhegihemeaaGreatDoorKR20
set_option linter.all false
namespace Go.Proofs.YtmobkhegihemeaaGreatDoor
open Go Go.Dom
set_option maxRecDepth 100000
set_option maxHeartbeats 16000000
def wl (l:List Nat):List PV:=l.map fun n:Nat=>PV.i .u32 n
theorem J9 (l:List Nat):List.map AV.v (wl l)=ax .u32 l:=by simp[wl,ax]
theorem ve (l:List Nat):(wl l).length=l.length:=List.length_map ..
theorem iH {g:AV→Option PV} (hg: ∀n:Nat,g (.v (.i .u32 (n:Int)))=some (.i .u32 n)) (l:List Nat):aI g (ax .u32 l)=some (wl l):=by
 unfold ax wl
 induction l with
 |nil=>rfl
 |cons x l ih=>rw[List.map_cons,List.map_cons,aI,hg,ih]
theorem OX: ∀n:Fin 32,0<n.val→gV .u64 (IntKind.u64.wrap (-(n.val:Int))) 31=((32-n.val:Nat):Int):=by decide+kernel
theorem Lg (x n:Nat) (h0:0<n) (h:n<32):aB Tryz.prog 385 [.i .u32 x,E (-(n:Int))] (.i .u32 (rr x n)):=by
 have e1:=OX ⟨n,h⟩ h0;simp only at e1;have e2: ∀ _:True,(if 32-n≤32 then 32-n else 32)=32-n:=fun _=>if_pos (by omega)
 have e3: ∀ _:True,(32:Int)-((32-n:Nat):Int)=(n:Int):=fun _=>by omega
 have e4: ∀ _:True,(if n≤32 then n else 32)=n:=fun _=>if_pos (by omega)
 refine eW Tryz.call385 Tryz.func385 ?_;repeat' first|simp only[go_sem,seval,e1,e2 trivial,e3 trivial,e4 trivial,P8,RH]|refine sB ?_|(first|apply pX|apply bX)<;>intro hc|refine⟨oD,?_⟩|exact oD|fail
 rw[rr,FI]
theorem fH (x n:Nat) (h0:0<n) (h:n<32):aB Tryz.prog 383 [.i .u32 x,E n] (.i .u32 (rr x n)):=by
 have hr:=Lg x n h0 h;have e:(0:Int)-(n:Int)= -(n:Int):=by omega
 refine eW Tryz.call383 Tryz.func383 ?_;repeat' first|simp only[go_sem,seval,e]|refine cP hr ?_|refine sB ?_|(first|apply pX|apply bX)<;>intro hc|refine⟨oD,?_⟩|exact oD|fail
theorem EI:aB Tryz.prog 368 [] (.agg (wl mI)):=by
 refine eW Tryz.call368 Tryz.func368 ?_;repeat' first|simp only[go_sem,seval]|refine sB ?_|(first|apply pX|apply bX)<;>intro hc|refine⟨oD,?_⟩|exact oD|fail
 all_goals rfl
theorem tP:aB Tryz.prog 381 [] (.agg (wl qV)):=by
 refine eW Tryz.call381 Tryz.func381 ?_;repeat' first|simp only[go_sem,seval]|refine sB ?_|(first|apply pX|apply bX)<;>intro hc|refine⟨oD,?_⟩|exact oD|fail
 all_goals rfl
theorem PZ (a b c d:UInt8):sO (sO (sO (og a.toNat 24) (og b.toNat 16)) (og c.toNat 8)) d.toNat=num [a,b,c,d]:=by
 have ha:=a.toNat_lt;have hb:=b.toNat_lt;have hc:=c.toNat_lt;have hd:=d.toNat_lt;have e1:og a.toNat 24=a.toNat*2^24:=by unfold og;omega
 have e2:og b.toNat 16=b.toNat*2^16:=by unfold og;omega
 have e3:og c.toNat 8=c.toNat*2^8:=by unfold og;omega
 have f1:sO (og a.toNat 24) (og b.toNat 16)=a.toNat*2^24+b.toNat*2^16:=by
  rw[sO,e1,e2,Nat.mod_eq_of_lt (by omega),Nat.mod_eq_of_lt (by omega),xd (by omega)]
 have f2:sO (sO (og a.toNat 24) (og b.toNat 16)) (og c.toNat 8)=(a.toNat*2^8+b.toNat)*2^16+c.toNat*2^8:=by
  rw[sO,f1,e3,Nat.mod_eq_of_lt (by omega),Nat.mod_eq_of_lt (by omega),show a.toNat*2^24+b.toNat*2^16=(a.toNat*2^8+b.toNat)*2^16 by omega,xd (by omega)]
 rw[sO,f2,Nat.mod_eq_of_lt (by omega),Nat.mod_eq_of_lt (by omega),show(a.toNat*2^8+b.toNat)*2^16+c.toNat*2^8=((a.toNat*2^8+b.toNat)*2^8+c.toNat)*2^8 by omega,xd (by omega)]
 simp[num];omega
theorem four (l:Bytes) {i:Nat} (h:4*i+4≤l.length): ∃a b c d,(l.drop (4*i)).take 4=[a,b,c,d]∧((l.map u8).take (4*i+4)).drop (4*i)=[u8 a,u8 b,u8 c,u8 d]:=by
 have hl:((l.drop (4*i)).take 4).length=4:=by simp;omega
 have e:((l.map u8).take (4*i+4)).drop (4*i)=((l.drop (4*i)).take 4).map u8:=by
  rw[←List.map_take,←List.map_drop,List.drop_take];congr 2;omega
 generalize (l.drop (4*i)).take 4=m at hl e
 match m,hl with
 |[a,b,c,d],_=>exact⟨a,b,c,d,rfl,e⟩
theorem Q7 (a:Nat):IntKind.u32.wrap ((a:Int)*16777216)=((og a 24:Nat):Int):=P8 a 24
theorem Q6 (a:Nat):IntKind.u32.wrap ((a:Int)*65536)=((og a 16:Nat):Int):=P8 a 16
theorem SE (a:Nat):IntKind.u32.wrap ((a:Int)*256)=((og a 8:Nat):Int):=P8 a 8
theorem Ri (c:UInt8):IntKind.u32.wrap ((c.toNat:Nat):Int)=((c.toNat:Nat):Int):=by
 have:=c.toNat_lt;rw[Ka];omega
theorem Bq (l:List Nat) (n x:Nat) (h:l.length<n):(l++List.replicate (n-l.length) 0).set l.length x=(l++[x])++List.replicate (n-(l++[x]).length) 0:=by
 obtain⟨k,hk⟩: ∃k,n-l.length=k+1:=⟨n-l.length-1,by omega⟩
 rw[hk,List.replicate_succ,List.set_append_right _ _ (Nat.le_refl _),Nat.sub_self,List.set_cons_zero];have:n-(l++[x]).length=k:=by simp;omega
 rw[this];simp
theorem EP (l:List Nat) (k i:Nat) (h:i<l.length):(l++List.replicate k 0).getD i 0=l.getD i 0:=by
 simp[List.getD_eq_getElem?_getD,List.getElem?_append_left h]
def zz (n:Nat):List Nat:=List.replicate n 0
theorem Bu:(ax .u32 (zz 64)).length=64:=by rw[aM];rfl
theorem xE {blk:Bytes} (hb:blk.length=64):aB Tryz.prog 382 [.sl (blk.map u8)] (.agg (wl (sched blk))):=by
 have lb:(blk.map u8).length=64:=by rw[List.length_map,hb]
 refine eW Tryz.call382 Tryz.func382 ?_;repeat' first|simp only[go_sem,seval]|refine sB ?_|(first|apply pX|apply bX)<;>intro hc|refine⟨oD,?_⟩|exact oD|fail
 refine aj (α:=List Nat) (fun l=>16-l.length) (fun l=>⟨[(0, .v (.sl (blk.map u8))),(2, .p 1000 0 0),(3, .p 1001 0 0),(9,E' l.length)],[(1000,⟨0,ax .u32 (zz 64),false,some 406⟩),(1001,⟨0,ax .u32 (l++List.replicate (64-l.length) 0),false,some 406⟩)],_⟩) (fun l=>l.length≤16∧l=(List.range l.length).map (zx blk)) [] (fun _=>Nat.le_refl _) ⟨by decide,rfl⟩ ?_ ?_
 ·(refine AS.Le.of (by first|decide|omega) ?_ ?_<;>simp[bL,bK,aD,ai,AV.bd,AV.bd.bdL,u8,af,ah,ak])
  all_goals exact⟨rfl,rfl⟩
 ·rintro l ⟨hl,he⟩ R hR;have hL:(ax .u32 (l++List.replicate (64-l.length) 0)).length=64:=by rw[aM];simp;omega
  obtain⟨i,hi⟩: ∃i,i=l.length:=⟨_,rfl⟩
  by_cases hlt:l.length<16
  ·obtain⟨a,b,c,d,h4,h5⟩:=four blk (i:=i) (by omega)
   have hV:zx blk i=sO (sO (sO (og a.toNat 24) (og b.toNat 16)) (og c.toNat 8)) d.toNat:=by rw[PZ,zx,h4]
   have hgo:=hR (l++[zx blk i]) ⟨by simp;omega,by
    rw[List.length_append,List.length_singleton,List.range_succ,List.map_append,←he,←hi];rfl⟩ (by simp;omega)
   have hse:=Bq l 64 (zx blk i) (by omega)
   rw[hV]at hgo hse;have t1: ∀ _:True,((4:Int)*(i:Int)).toNat=4*i:=fun _=>by omega
   have t2: ∀ _:True,((4:Int)*(i:Int)+4).toNat=4*i+4:=fun _=>by omega
   have hcl: ∀x∈blk.map u8,x.cells.length=1:=fun x hx=>by obtain⟨c,-,rfl⟩:=List.mem_map.1 hx;rfl
   rw[←hi]at hL⊢;clear hR he h4 hV;repeat' first|simp only[go_sem,seval,lb,hL,t1 trivial,t2 trivial,h5,Q7,Q6,SE,Ri,RH]|refine sB ?_|(first|apply pX|apply bX)<;>intro hc|refine⟨oD,?_⟩|exact oD|fail
   refine⟨⟨by omega,hcl⟩,by omega,by omega,?_⟩
   repeat' first|simp only[go_sem,seval]|refine sB ?_|(first|apply pX|apply bX)<;>intro hc|refine⟨oD,?_⟩|exact oD|fail
   refine hgo _ ?_;rw[←hi]at hse;rw[cK (x:=sO (sO (sO (og a.toNat 24) (og b.toNat 16)) (og c.toNat 8)) d.toNat) (by rw[aM]at hL;omega) rfl,hse]
   (refine AS.Le.of (by first|decide|omega) ?_ ?_<;>simp[bL,bK,aD,ai,AV.bd,AV.bd.bdL,u8,af,ah,ak])
   all_goals first|omega|skip
  ·have hl16:l.length=16:=by omega
   have hs0:l=(List.range 16).map (zx blk):=by rw[←hl16];exact he
   rw[hl16];rw[hl16]at hL;clear hR he hlt hl hi;repeat' first|simp only[go_sem,seval]|refine sB ?_|(first|apply pX|apply bX)<;>intro hc|refine⟨oD,?_⟩|exact oD|fail
   refine aj (α:=List Nat) (fun l=>64-l.length) (fun l=>⟨[(2, .p 1000 0 0),(3, .p 1001 0 0),(6,E' l.length)],[(1000,⟨0,ax .u32 (zz 64),false,some 406⟩),(1001,⟨0,ax .u32 (l++List.replicate (64-l.length) 0),false,some 406⟩)],_⟩) (fun l=>16≤l.length∧l.length≤64∧Gy (64-l.length) l=sched blk) l (fun _=>Nat.le_refl _) ⟨by omega,by omega,by rw[hl16,hs0];rfl⟩ ?_ ?_
   ·rw[hl16];exact lE
   ·clear hs0 hL hl16 i l;rintro l ⟨hl1,hl2,he⟩ R hR;have hL:(ax .u32 (l++List.replicate (64-l.length) 0)).length=64:=by rw[aM];simp;omega
    obtain⟨i,hi⟩: ∃i,i=l.length:=⟨_,rfl⟩
    by_cases hlt:l.length<64
    ·have hgo:=hR (l++[Gv l]) ⟨by simp;omega,by simp;omega,by
      have:64-l.length=(64-(l++[Gv l]).length)+1:=by simp;omega
      rw[this]at he;exact he⟩ (by simp;omega)
     have hse:=Bq l 64 (Gv l) hlt;have hg: ∀k:Nat,0<k→k≤16→(ax .u32 (l++List.replicate (64-l.length) 0)).getD ((i:Int)-(k:Int)).toNat .u= .v (.i .u32 (l.getD (i-k) 0:Nat)):=fun k h0 h1=>by
      rw[show((i:Int)-(k:Int)).toNat=i-k by omega,cf (by simp;omega),EP l _ _ (by omega)]
     have g15:(ax .u32 (l++List.replicate (64-l.length) 0)).getD ((i:Int)-15).toNat .u= _:=hg 15 (by decide) (by decide)
     have g2:(ax .u32 (l++List.replicate (64-l.length) 0)).getD ((i:Int)-2).toNat .u= _:=hg 2 (by decide) (by decide)
     have g16:(ax .u32 (l++List.replicate (64-l.length) 0)).getD ((i:Int)-16).toNat .u= _:=hg 16 (by decide) (by decide)
     have g7:(ax .u32 (l++List.replicate (64-l.length) 0)).getD ((i:Int)-7).toNat .u= _:=hg 7 (by decide) (by decide)
     have hN:Gv l=ad (ad (ad (l.getD (i-16) 0) (mQ (mQ (rr (l.getD (i-15) 0) 7) (rr (l.getD (i-15) 0) 18)) (l.getD (i-15) 0/8))) (l.getD (i-7) 0)) (mQ (mQ (rr (l.getD (i-2) 0) 17) (rr (l.getD (i-2) 0) 19)) (l.getD (i-2) 0/1024)):=by rw[hi];rfl
     rw[hN]at hgo hse;rw[←hi]at hL hse g15 g2 g16 g7⊢;clear hR he hN hg;generalize l.getD (i-16) 0=w16 at*;generalize l.getD (i-15) 0=w15 at*;generalize l.getD (i-7) 0=w7 at*;generalize l.getD (i-2) 0=w2 at*;have r7:=fH w15 7 (by decide) (by decide)
     have r18:=fH w15 18 (by decide) (by decide)
     have r17:=fH w2 17 (by decide) (by decide)
     have r19:=fH w2 19 (by decide) (by decide)
     repeat' first|simp only[go_sem,seval,hL,g15,g2,g16,g7,mZ,Rp]|refine cP r7 ?_|refine cP r18 ?_|refine cP r17 ?_|refine cP r19 ?_|refine sB ?_|(first|apply pX|apply bX)<;>intro hc|refine⟨oD,?_⟩|exact oD|fail
     refine hgo _ ?_;rw[cK (x:=ad (ad (ad w16 (mQ (mQ (rr w15 7) (rr w15 18)) (w15/8))) w7) (mQ (mQ (rr w2 17) (rr w2 19)) (w2/1024))) (by rw[aM]at hL;omega) rfl,hse]
     (refine AS.Le.of (by first|decide|omega) ?_ ?_<;>simp[bL,bK,aD,ai,AV.bd,AV.bd.bdL,u8,af,ah,ak])
     all_goals first|omega|skip
    ·have hl64:l.length=64:=by omega
     rw[hl64]at he hi hL⊢;have he:l=sched blk:=he;rw[Nat.sub_self,List.replicate_zero,List.append_nil]at hL⊢;rw[←he];have k1:List.take 64 (ax .u32 l)=ax .u32 l:=List.take_of_length_le (by rw[aM];omega)
     have k2:List.drop 64 (ax .u32 (zz 64))=[]:=List.drop_of_length_le (by rw[Bu];decide)
     have k3:(wl l).length=64:=by rw[ve,hl64]
     repeat' first|simp only[go_sem,seval,hL,k1,k2,k3,iH,J9,Bu]|refine sB ?_|(first|apply pX|apply bX)<;>intro hc|refine⟨oD,?_⟩|exact oD|fail
     all_goals skip
theorem QB {l:List Nat} (h:l.length=8): ∃a b c d e f g i,l=[a,b,c,d,e,f,g,i]:=by
 match l,h with
 |[a,b,c,d,e,f,g,i],_=>exact⟨_,_,_,_,_,_,_,_,rfl⟩
theorem RE (a b c d e f g h:Nat):ax .u32 [a,b,c,d,e,f,g,h]=[.v (.i .u32 (a:Int)), .v (.i .u32 (b:Int)), .v (.i .u32 (c:Int)), .v (.i .u32 (d:Int)), .v (.i .u32 (e:Int)), .v (.i .u32 (f:Int)), .v (.i .u32 (g:Int)), .v (.i .u32 (h:Int))]:=rfl
theorem Ph (k w a b c d e f g h:Nat):JS k w [a,b,c,d,e,f,g,h]=[ad (Gx k w [a,b,c,d,e,f,g,h]) (Nz [a,b,c,d,e,f,g,h]),a,b,c,ad d (Gx k w [a,b,c,d,e,f,g,h]),e,f,g]:=rfl
theorem Pl (k w a b c d e f g h:Nat):Gx k w [a,b,c,d,e,f,g,h]=ad (ad (ad (ad h (mQ (mQ (rr e 6) (rr e 11)) (rr e 25))) (mQ (Dn e f) (Dn (OT e) g))) k) w:=rfl
theorem Pm (a b c d e f g h:Nat):Nz [a,b,c,d,e,f,g,h]=ad (mQ (mQ (rr a 2) (rr a 13)) (rr a 22)) (mQ (mQ (Dn a b) (Dn a c)) (Dn b c)):=rfl
theorem OV (e:Nat):IntKind.u32.wrap ((@BitVec.toNat 32 (@HXor.hXor (BitVec 32) (BitVec 32) (BitVec 32) (@instHXorOfXorOp (BitVec (IntKind.bits .u32)) (@BitVec.instXorOp (IntKind.bits .u32))) (BitVec.ofInt 32 (if IntKind.u32.signed=true then-1 else IntKind.u32.max)) (BitVec.ofNat 32 e)):Nat):Int)=((OT e:Nat):Int):=by
 have h:=SF e;rw[dr]at h;exact h
theorem DI {st:List Nat} (hs:st.length=8) {blk:Bytes} (hb:blk.length=64):aB Tryz.prog 369 [.agg (wl st), .sl (blk.map u8)] (.agg (wl (uU st blk))):=by
 have hc:=tP;have hd:=xE hb;have k0:(wl st).length=8:=by rw[ve,hs]
 have k1:(wl qV).length=64:=rfl;have k2:(wl (sched blk)).length=64:=by rw[ve,ky]
 have k3:(ax .u32 st).length=8:=by rw[aM,hs]
 have k4:List.take 64 (ax .u32 (sched blk))=ax .u32 (sched blk):=List.take_of_length_le (by rw[aM,ky];omega)
 have k5:List.take 64 (ax .u32 qV)=ax .u32 qV:=List.take_of_length_le (by rw[aM];decide)
 have k6:List.take 8 (ax .u32 st)=ax .u32 st:=List.take_of_length_le (by rw[aM];omega)
 have k7:(ax .u32 (sched blk)).length=64:=by rw[aM,ky]
 have k8:(ax .u32 qV).length=64:=by rw[aM];rfl
 refine eW Tryz.call369 Tryz.func369 ?_;repeat' first|simp only[go_sem,seval,k0,k1,k2,k3,k4,k5,k6,k7,k8,J9,iH]|refine cP hc ?_|refine cP hd ?_|refine sB ?_|(first|apply pX|apply bX)<;>intro hc|refine⟨oD,?_⟩|exact oD|fail
 refine aj (α:=List Nat×Nat) (fun p=>64-p.2) (fun p=>⟨[(2, .p 1000 0 0),(4, .p 1001 0 0),(5, .p 1005 0 0),(6, .p 1006 0 0),(7, .p 1010 0 0),(22,E' p.2)],[(1000,⟨0,ax .u32 st,false,none⟩),(1001,⟨0,[.v (.i .u32 0), .v (.i .u32 0), .v (.i .u32 0), .v (.i .u32 0), .v (.i .u32 0), .v (.i .u32 0), .v (.i .u32 0), .v (.i .u32 0)],false,some 393⟩),(1005,⟨0,ax .u32 qV,false,some 406⟩),(1006,⟨0,ax .u32 (sched blk),false,some 406⟩),(1010,⟨0,ax .u32 p.1,false,some 393⟩)],_⟩) (fun p=>p.1.length=8∧p.2≤64∧zw (sched blk) (64-p.2) p.1=zw (sched blk) 64 st) (st,0) (fun _=>Nat.le_refl _) ⟨hs,Nat.zero_le _,rfl⟩ ?_ ?_
 ·exact lE
 ·rintro⟨v,i⟩ ⟨hv,hi,he⟩ R hR;obtain⟨a,b,c,d,e,f,g,h,rfl⟩:=QB hv
  by_cases hlt:i<64
  ·have hgo:=hR (JS (qV.getD i 0) ((sched blk).getD i 0) [a,b,c,d,e,f,g,h],i+1) ⟨rfl,hlt,by
    rw[show 64-i=(64-(i+1))+1 by omega,zw,show 63-(64-(i+1))=i by omega]at he;exact he⟩ (by simp;omega)
   have gk:(ax .u32 qV).getD i .u= .v (.i .u32 (qV.getD i 0:Nat)):=cf (by exact hlt)
   have gw:(ax .u32 (sched blk)).getD i .u= .v (.i .u32 ((sched blk).getD i 0:Nat)):=cf (by rw[ky];exact hlt)
   have r6:=fH e 6 (by decide) (by decide)
   have r11:=fH e 11 (by decide) (by decide)
   have r25:=fH e 25 (by decide) (by decide)
   have r2:=fH a 2 (by decide) (by decide)
   have r13:=fH a 13 (by decide) (by decide)
   have r22:=fH a 22 (by decide) (by decide)
   simp only[Ph,Pl,Pm,RE]at hgo⊢;generalize qV.getD i 0=ki at hgo gk;generalize (sched blk).getD i 0=wi at hgo gw;clear hR he hv;repeat' first|simp only[go_sem,seval,k7,k8,gk,gw,mZ,Rp,Rz,OV]|refine cP r6 ?_|refine cP r11 ?_|refine cP r25 ?_|refine cP r2 ?_|refine cP r13 ?_|refine cP r22 ?_|refine sB ?_|(first|apply pX|apply bX)<;>intro hc|refine⟨oD,?_⟩|exact oD|fail
   refine hgo _ ?_
   (refine AS.Le.of (by first|decide|omega) ?_ ?_<;>simp[bL,bK,aD,ai,AV.bd,AV.bd.bdL,u8,af,ah,ak])
   all_goals first|omega|(erw [OV e];simp only[Rz,Rp,mZ,and_self])
  ·have hl:i=64:=by omega
   subst hl;have he:[a,b,c,d,e,f,g,h]=zw (sched blk) 64 st:=he;have hw:uU st blk=List.zipWith ad [a,b,c,d,e,f,g,h] st:=by rw[uU,←he]
   rw[hw];clear hR he hv hw;obtain⟨s0,s1,s2,s3,s4,s5,s6,s7,rfl⟩:=QB hs;simp only[RE];repeat' first|simp only[go_sem,seval,k7,k8,mZ]|refine sB ?_|(first|apply pX|apply bX)<;>intro hc|refine⟨oD,?_⟩|exact oD|fail
   all_goals refine ae ?_
   repeat' first|simp only[go_sem,seval,k7,k8,mZ]|refine sB ?_|(first|apply pX|apply bX)<;>intro hc|refine⟨oD,?_⟩|exact oD|fail
   all_goals refine ae ?_
   repeat' first|simp only[go_sem,seval,k7,k8,mZ]|refine sB ?_|(first|apply pX|apply bX)<;>intro hc|refine⟨oD,?_⟩|exact oD|fail
   all_goals refine ae ?_
   repeat' first|simp only[go_sem,seval,k7,k8,mZ]|refine sB ?_|(first|apply pX|apply bX)<;>intro hc|refine⟨oD,?_⟩|exact oD|fail
   all_goals refine ae ?_
   repeat' first|simp only[go_sem,seval,k7,k8,mZ]|refine sB ?_|(first|apply pX|apply bX)<;>intro hc|refine⟨oD,?_⟩|exact oD|fail
   all_goals refine ae ?_
   repeat' first|simp only[go_sem,seval,k7,k8,mZ]|refine sB ?_|(first|apply pX|apply bX)<;>intro hc|refine⟨oD,?_⟩|exact oD|fail
   all_goals refine ae ?_
   repeat' first|simp only[go_sem,seval,k7,k8,mZ]|refine sB ?_|(first|apply pX|apply bX)<;>intro hc|refine⟨oD,?_⟩|exact oD|fail
   all_goals refine ae ?_
   repeat' first|simp only[go_sem,seval,k7,k8,mZ]|refine sB ?_|(first|apply pX|apply bX)<;>intro hc|refine⟨oD,?_⟩|exact oD|fail
   all_goals refine ae ?_
   repeat' first|simp only[go_sem,seval,k7,k8,mZ]|refine sB ?_|(first|apply pX|apply bX)<;>intro hc|refine⟨oD,?_⟩|exact oD|fail
   all_goals refine ae ?_
   repeat' first|simp only[go_sem,seval,k7,k8,mZ]|refine sB ?_|(first|apply pX|apply bX)<;>intro hc|refine⟨oD,?_⟩|exact oD|fail
   all_goals rfl
end Go.Proofs.YtmobkhegihemeaaGreatDoor
