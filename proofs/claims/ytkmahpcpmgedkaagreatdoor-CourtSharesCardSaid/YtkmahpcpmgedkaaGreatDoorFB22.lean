/- Part of the proof. -/
import Derived.Test.YtkmahpcpmgedkaaGreatDoorFB21
set_option linter.all false
set_option maxHeartbeats 8000000
set_option maxRecDepth 100000
namespace Go.Proofs.Tryz
open Go Go.Dom
theorem aK (a:Bytes):aD 36 [.s a] (.b (aa a)):=by
 rw[wG];refine eW call36 func36 ?_;repeat' first|simp only[go_sem,seval]|refine oE ?_|apply xX<;>intro hc
 all_goals simp_all
 all_goals first|omega|(cases a<;>simp_all)
theorem HN (l:Bytes) {i:Nat} (hi:i<l.length) (h:l.getD i 0=0):fL (l.drop i)=fL (l.drop (i+1)):=by
 rw[jf hi,fL,ah (by rw[<-h,bu,bC hi];rfl)]
theorem HO (l:Bytes) {i:Nat} (hi:i<l.length) (h:l.getD i 0≠0):fL (l.drop i)=l.drop i:=by
 rw[jf hi,fL,ae (by rw[bu,bC hi]at h;exact h)]
theorem qu (l:Bytes) (hl:l.length<4611686018427387904):aD 116 [.sl (l.map u8)] (.s (fL l)):=by
 refine eW call116 func116 ?_;simp only[go_sem,seval];refine af (α:=Nat) (fun i=>l.length-i) (fun i=>⟨[(0, .v (.sl (l.map u8))),(3, .v (.i .i64 i))],[],_⟩) (fun i=>i<=l.length/\fL (l.drop i)=fL l) 0 (fun _=>ay _) ⟨aJ _,rfl⟩ ?_ ?_
 ·exact lE
 ·rintro i ⟨hi,hx⟩ R hR
  by_cases hlt:i<l.length
  ·have e1:=Ra hlt
   by_cases h0:l.getD i 0=0
   ·have e2: ∀ _:True,(((l.getD i 0).toNat:Int)==0)=true:=fun _=>by rw[h0];rfl
    refine dH (aN @e1 (e2 oT)) ?_;refine hR (i+1) ⟨oO,by rw[<-hx,HN l hlt h0]⟩ oO _ ?_
    exact lE
   ·have e2: ∀ _:True,(((l.getD i 0).toNat:Int)==0)=false:=fun _=>by
     rw[ey];intro e;exact h0 (u8z e)
    rw[<-hx,HO l hlt h0];refine dH (aN @e1 (e2 oT)) ?_;refine⟨⟨oO,fun x hx=>yY hx⟩,fun y hy=>vH (pH hy),?_⟩
    rw[<-uG,yV]
  ·obtain rfl:i=l.length:=oO;rw[<-hx];refine xB ?_;refine⟨⟨oO,fun x hx=>yY hx⟩,fun y hy=>vH (pH hy),?_⟩
   rw[<-uG,yV,cO];rfl
theorem ig (n:Nat) (hn:n<18446744073709551616):aD 55 [.i .u64 n] (.s (aX n)):=by
 refine eW call55 func55 ?_;refine pU ?_;refine af (α:=Nat) (fun i=>8-i) (fun i=>⟨[(0, .v (.i .u64 (n/256^i:Nat))),(3, .rs 1001 0 0 8 1),(4, .v (.i .i64 (7-(i:Int))))],[(1001,⟨0,aG (List.replicate (8-i) 0++be i n),false,none⟩)],_⟩) (fun i=>i<=8) 0 (fun _=>ay _) (aJ _) ?_ ?_
 ·(refine AS.Le.of (by first|decide|omega) ?_ ?_<;>simp[dy,dx,aO,az,AV.bd,AV.bd.bdL,u8,ar,ax,aA])
  all_goals rfl
 ·intro i hi R hR;have hl:(List.replicate (8-i) (0:UInt8)++be i n).length=8:=by simp[cv];omega
  have hle:n/256^i<=n:=fg _ _
  by_cases hlt:i<8
  ·have e2: ∀ _:True,((7:Int)-i).toNat=8-1-i:=fun _=>oO
   have e3: ∀ _:True,n/256^i/256=n/256^(i+1):=fun _=>by rw[eZ,<-Nat.pow_succ]
   have hle2:n/256^(i+1)<=n:=fg _ _;have e4: ∀ _:True,IntKind.u64.wrap ((n/256^(i+1):Nat):Int)=((n/256^(i+1):Nat):Int):=fun _=>by
    generalize n/256^(i+1)=z at hle2⊢;exact IntWalk.u64_in _ oO
   refine dH (aN @hl (aN (e3 oT) (e4 oT))) ?_;refine hR (i+1) oO oO _ ?_;rw[e2 oT,sV (c:=UInt8.ofNat (n/256^i)) oO (by rw[lu,ix,ix,ep]),ir hlt]
   (refine AS.Le.of (by first|decide|omega) ?_ ?_<;>simp[dy,dx,aO,az,AV.bd,AV.bd.bdL,u8,ar,ax,aA])
   all_goals first|omega|rfl|skip
  ·obtain rfl:i=8:=oO;have:=qu (be 8 n) (by rw[cv];decide)
   have hl:(be 8 n).length=8:=cv 8 n;repeat' first|simp only[go_sem,seval,hl]|(refine im this rfl rfl hl.symm ?_)|refine oE ?_|apply xX<;>intro hc
   rw[jZ oO]
theorem tV (a:Bytes) (hl:a.length<=8):aD 347 [.s a] (.i .u64 (num a)):=by
 refine eW call347 func347 ?_;refine pU ?_;refine af (α:=Nat) (fun i=>a.length-i) (fun i=>⟨[(0, .v (.s a)),(3, .v (.i .u64 (num (a.take i)))),(4, .v (.i .i64 i))],[],_⟩) (fun i=>i<=a.length) 0 (fun _=>ay _) (aJ _) ?_ ?_
 ·(refine AS.Le.of (by first|decide|omega) ?_ ?_<;>simp[dy,dx,aO,az,AV.bd,AV.bd.bdL,u8,ar,ax,aA])
  all_goals rfl
 ·intro i hi R hR
  by_cases hlt:i<a.length
  ·have h1:=lh hlt;have h2:=cL (a.take (i+1));have h3:(256:Nat)^(a.take (i+1)).length<=256^8:=dF oC (by simp;omega)
   refine xB ?_;refine hR (i+1) oO oO _ ?_;rw[h1]
   (refine AS.Le.of (by first|decide|omega) ?_ ?_<;>simp[dy,dx,aO,az,AV.bd,AV.bd.bdL,u8,ar,ax,aA])
   all_goals first|omega|rfl|skip
  ·obtain rfl:i=a.length:=oO;rw[ct];exact z0
theorem ia {a b:Bytes} (ha:Canon a) (hb:Canon b) (la:a.length<4611686018427387904) (lb:b.length<4611686018427387904):aD 82 [.s a, .s b] (E (ba (num a) (num b))):=by
 by_cases h1:a.length<b.length
 ·have:=iE (a:=a) hb h1;have e:ba (num a) (num b)= -1:=by simp[ba,this]
  rw[e];refine eW call82 func82 ?_;exact z0
 by_cases h2:b.length<a.length
 ·have:=iE (a:=b) ha h2;have e:ba (num a) (num b)=1:=by unfold ba;rw[ae oO,ah this]
  rw[e];refine eW call82 func82 ?_;exact z0
 have hl:a.length=b.length:=oO;rw[<-kI hl];refine eW call82 func82 ?_;refine pU ?_;refine af (α:=Nat) (fun i=>a.length-i) (fun i=>⟨[(0, .v (.s a)),(1, .v (.s b)),(5, .v (.i .i64 i))],[],_⟩) (fun i=>i<=a.length/\Lib.compareBytes (a.drop i) (b.drop i)=Lib.compareBytes a b) 0 (fun _=>ay _) ⟨aJ _,rfl⟩ ?_ ?_
 ·exact lE
 ·rintro i ⟨hi,hx⟩ R hR
  by_cases hlt:i<a.length
  ·have d1:a.drop i=a.getD i 0::a.drop (i+1):=by rw[jf hlt,bu,bC hlt];rfl
   have hltb:i<b.length:=oO;have d2:b.drop i=b.getD i 0::b.drop (i+1):=by rw[jf hltb,bu,bC hltb];rfl
   have hgo:=hR (i+1);rw[<-hx]at hgo⊢;rw[d1,d2]at hgo⊢;simp only[Lib.compareBytes]at hgo⊢;clear d1 d2 hx hR;have e1:a.getD i 0<b.getD i 0↔(a.getD i 0).toNat<(b.getD i 0).toNat:=yn;have e2:b.getD i 0<a.getD i 0↔(b.getD i 0).toNat<(a.getD i 0).toNat:=yn;simp only[e1,e2]at hgo⊢;obtain⟨x,hx⟩: ∃x,x=a.getD i 0:=⟨_,rfl⟩;obtain⟨y,hy⟩: ∃y,y=b.getD i 0:=⟨_,rfl⟩;rw[<-hx,<-hy]at hgo⊢;clear e1 e2;repeat' first|simp only[go_sem,seval,<-hx,<-hy]|refine oE ?_|apply xX<;>intro hc
   ·refine hgo ⟨oO,?_⟩ oO _ ?_
    ·rw[ae oO,ae oO]
    ·exact lE
   ·rw[ah oO]
   ·rw[ae oO,ah oO]
  ·obtain rfl:i=a.length:=oO;refine xB ?_;rw[<-hx,cO,hl,cO];rfl
theorem mA (a b:Bytes):aD 39 [.s a, .s b] (E (if aa a&&aa b then ba (num a) (num b)else 0)):=by
 by_cases h:aa a=true/\aa b=true
 case neg=>
  refine eW call39 func39 ?_;repeat' first|simp only[go_sem,seval]|refine cP (aK _) ?_|refine oE ?_|apply xX<;>intro hc
  all_goals simp_all
 have la:=cT h.1;have lb:=cT h.2;have ho:=ia (bL h.1) (bL h.2) oO oO;refine eW call39 func39 ?_;repeat' first|simp only[go_sem,seval]|refine cP (aK _) ?_|refine cP ho ?_|refine oE ?_|apply xX<;>intro hc
 all_goals simp_all
theorem sr (a:Bytes) (i:Nat) (ha:a.length<4611686018427387904):aD 350 [.s a,E i] (E ((num a/256^i%256:Nat):Int)):=by
 refine eW call350 func350 ?_;repeat' first|simp only[go_sem,seval]|refine oE ?_|apply xX<;>intro hc
 ·rw[si a oO];rfl
 ·have h:=vO a (i:=i) oO;rw[<-h,show((a.length:Int)-1-(i:Int)).toNat=a.length-1-i by omega]
  have:=(a.getD (a.length-1-i) 0).toNat_lt;rw[IntWalk.i64_in _ oO]
theorem Fx (a b:Bytes) (la:a.length<1099511627776) (lb:b.length<1099511627776):aD 318 [.s a, .s b] (.s (aX (num a+num b))):=by
 have hmax:(if(b.length:Int)>(a.length:Int)then(b.length:Int)else(a.length:Int))=((max a.length b.length:Nat):Int):=by
  split<;>omega
 obtain⟨n,hn⟩: ∃n,n=max a.length b.length+1:=⟨_,rfl⟩;have hn2:((max a.length b.length:Nat):Int)+1=(n:Int):=oO;refine eW call318 func318 ?_;refine cU (aN @hmax (aN @hn2 @nY)) ?_;refine af (α:=Nat) (fun i=>n-i) (fun i=>⟨[(0, .v (.s a)),(1, .v (.s b)),(5, .v (.i .i64 n)),(6, .rs 1009 0 0 n 1),(7, .v (.i .i64 (carry (num a) (num b) (256^i)))),(8, .v (.i .i64 i))],[(1009,⟨0,aG (List.replicate (n-i) 0++be i (num a+num b)),false,none⟩)],_⟩) (fun i=>i<=n) 0 (fun _=>ay _) (aJ _) ?_ ?_
 ·(refine AS.Le.of (by first|decide|omega) ?_ ?_<;>simp[dy,dx,aO,az,AV.bd,AV.bd.bdL,u8,ar,ax,aA])
  ·simp[carry,mB]
  ·simp[be]
 ·intro i hi R hR;have hl:=oY n i (num a+num b) hi;have hp:=jq i;have hc1:=EA (num a) (num b) hp
  by_cases hlt:i<n
  ·have e0: ∀ _:True,((num a/256^i%256:Nat):Int)+((num b/256^i%256:Nat):Int)+((carry (num a) (num b) (256^i):Nat):Int)=((carry (num a) (num b) (256^i)+(num a/256^i%256+num b/256^i%256):Nat):Int):=fun _=>oO
   repeat' first|simp only[go_sem,seval,hl,e0 oT]|refine cP (sr a i oO) ?_|refine cP (sr b i oO) ?_|refine oE ?_|apply xX<;>intro hc
   refine hR (i+1) oO oO _ ?_;have e2:((n:Int)-1-i).toNat=n-1-i:=oO;rw[e2,sV (c:=UInt8.ofNat ((num a+num b)/256^i)) oO (by rw[lu,<-yW _ _ hp,ix,ix,ep]),ir hlt,yX _ _ hp,<-Nat.pow_succ]
   (refine AS.Le.of (by first|decide|omega) ?_ ?_<;>simp[dy,dx,aO,az,AV.bd,AV.bd.bdL,u8,ar,ax,aA])
   all_goals first|omega|rfl|skip
  ·obtain rfl:i=n:=oO;have:=qu (be i (num a+num b)) (by rw[cv];omega)
   have hl:(be i (num a+num b)).length=i:=cv _ _;repeat' first|simp only[go_sem,seval,hl,fA,List.replicate_zero]|(refine im this rfl rfl hl.symm ?_)|refine oE ?_|apply xX<;>intro hc
   have h1:num a+num b<256^i:=by
    have g1:=cL a;have g2:=cL b;have p1:256^a.length<=256^(i-1):=dF oC oO;have p2:256^b.length<=256^(i-1):=dF oC oO;have p3:256^i=256^(i-1)*256:=by rw[<-Nat.pow_succ];congr 1;omega
    omega
   rw[jZ h1]
theorem oJ (a b:Bytes) (la:a.length<1099511627776) (lb:b.length<1099511627776) (h:num b<=num a):aD 226 [.s a, .s b] (.s (aX (num a-num b))):=by
 obtain⟨n,hn⟩: ∃n,n=a.length:=⟨_,rfl⟩;refine eW call226 func226 ?_;simp only[go_sem,seval,<-hn];repeat' first|simp only[go_sem,seval,<-hn,nY]|refine oE ?_|apply xX<;>intro hc
 refine af (α:=Nat) (fun i=>n-i) (fun i=>⟨[(0, .v (.s a)),(1, .v (.s b)),(5, .v (.i .i64 n)),(6, .rs 1005 0 0 n 1),(7, .v (.i .i64 (borrow (num a) (num b) (256^i)))),(8, .v (.i .i64 i))],[(1005,⟨0,aG (List.replicate (n-i) 0++be i (num a-num b)),false,none⟩)],_⟩) (fun i=>i<=n) 0 (fun _=>ay _) (aJ _) ?_ ?_
 ·(refine AS.Le.of (by first|decide|omega) ?_ ?_<;>simp[dy,dx,aO,az,AV.bd,AV.bd.bdL,u8,ar,ax,aA])
  ·simp[borrow,mB]
  ·simp[be]
 ·intro i hi R hR;have hl:=oY n i (num a-num b) hi;have hp:=jq i;have hc1:=BH (num a) (num b) (256^i);have hb1:=wL (num a) (num b) hp;have hb2:=wK (num a) (num b) hp h;have e2:((n:Int)-1-i).toNat=n-1-i:=oO
  by_cases hlt:i<n
  ·repeat' first|simp only[go_sem,seval,hl]|refine cP (sr a i oO) ?_|refine cP (sr b i oO) ?_|refine oE ?_|apply xX<;>intro hc
   ·refine hR (i+1) oO oO _ ?_;rw[e2,sV (c:=UInt8.ofNat ((num a-num b)/256^i)) oO (by rw[Wn,ix,<-hb2 _ rfl];omega),ir hlt]
    (refine AS.Le.of (by first|decide|omega) ?_ ?_<;>simp[dy,dx,aO,az,AV.bd,AV.bd.bdL,u8,ar,ax,aA])
    ·rw[Nat.pow_succ,hb1,ah hc];rfl
    ·rfl
   ·refine hR (i+1) oO oO _ ?_;rw[e2,sV (c:=UInt8.ofNat ((num a-num b)/256^i)) oO (by rw[Wn,ix,<-hb2 _ rfl]),ir hlt]
    (refine AS.Le.of (by first|decide|omega) ?_ ?_<;>simp[dy,dx,aO,az,AV.bd,AV.bd.bdL,u8,ar,ax,aA])
    ·rw[Nat.pow_succ,hb1,ae hc];rfl
    ·rfl
  ·obtain rfl:i=n:=oO;have:=qu (be i (num a-num b)) (by rw[cv];omega)
   have hl:(be i (num a-num b)).length=i:=cv _ _;repeat' first|simp only[go_sem,seval,hl,fA,List.replicate_zero]|(refine im this rfl rfl hl.symm ?_)|refine oE ?_|apply xX<;>intro hc
   have h1:num a-num b<256^i:=by have:=cL a;rw[hn];omega
   rw[jZ h1]
end Go.Proofs.Tryz
namespace Go.Proofs.Tryz
open Go Go.Dom
variable {a b n:Nat} {x y:Int}
theorem wj (a b:Bytes) (la:a.length<1048576) (lb:b.length<1048576):aD 295 [.s a, .s b] (.s (aX (num a*num b))):=by
 obtain⟨n,hn⟩: ∃n,n=a.length+b.length:=⟨_,rfl⟩;have hn':((a.length:Int)+(b.length:Int))=(n:Int):=oO;have hmul:num a*num b<256^n:=by rw[hn,cZ];exact gQ (cL a) (cL b)
 by_cases h8:n<=8
 ·have hu1:=tV a oO;have hu2:=tV b oO;have hp:num a*num b<(2^64):=bH hmul (dF oC h8);have ho:=ig (num a*num b) hp;have hw: ∀ _:True,IntKind.u64.wrap ((num a:Int)*(num b:Int))=((num a*num b:Nat):Int):=fun _=>by
   rw[<-Int.natCast_mul,IntWalk.u64_in _ oO]
  clear hmul;refine eW call295 func295 ?_;exact yG (aN @hn' (hw oT)) @hu1 @hu2 @ho oT
 have hcz: ∀m:Nat,(List.replicate m [AV.v (PV.i IntKind.i64 0)]).flatten=aC .i64 (List.replicate m 0):=by
  intro m
  induction m with
  |zero=>rfl
  |succ m ih=>rw[List.replicate_succ,List.flatten_cons,ih,List.replicate_succ];rfl
 have hw1: ∀ _:True,((n:Int)+1)=((n+1:Nat):Int):=fun _=>rfl
 refine eW call295 func295 ?_;refine cU (aN @hn' (aN @nY (aN (hw1 oT) @hcz))) ?_;refine af (α:=Nat×List Nat) (fun x=>a.length-x.1) (fun x=>⟨[(0, .v (.s a)),(1, .v (.s b)),(5,E' n),(6, .rs 1015 0 0 (n+1) 1),(7, .v (.i .i64 x.1))],[(1015,⟨0,aC .i64 x.2,false,none⟩)],_⟩) (fun x=>x.1<=a.length/\xc (n+1) (num a) (num b) x.1 0 x.2) (0,List.replicate (n+1) 0) (fun _=>ay _) ⟨aJ _, .start _ _ _⟩ ?_ ?_
 ·(refine AS.Le.of (by first|decide|omega) ?_ ?_<;>simp[dy,dx,aO,az,AV.bd,AV.bd.bdL,u8,ar,ax,aA])
  all_goals skip
 ·rintro⟨i,l⟩ ⟨hi,hl⟩ R hR;simp only at hi hl;have l1:(aC .i64 l).length=n+1:=by rw[bc,hl.len]
  by_cases hlt:i<a.length
  ·refine cU @l1 ?_;refine af (α:=Nat×List Nat) (fun x=>b.length-x.1) (fun x=>⟨[(0, .v (.s a)),(1, .v (.s b)),(5,E' n),(6, .rs 1015 0 0 (n+1) 1),(7,E' i),(8,E' x.1)],[(1015,⟨0,aC .i64 x.2,false,none⟩)],_⟩) (fun x=>x.1<=b.length/\xc (n+1) (num a) (num b) i x.1 x.2) (0,l) (fun _=>ay _) ⟨aJ _,hl⟩ ?_ ?_
   ·exact lE
   ·rintro⟨k,m⟩ ⟨hk,hm⟩ R' hR';simp only at hk hm;have m1:(aC .i64 m).length=n+1:=by rw[bc,hm.len]
    by_cases hklt:k<b.length
    ·obtain⟨x,hx⟩: ∃x,x=num a/256^i%256:=⟨_,rfl⟩;obtain⟨y,hy⟩: ∃y,y=num b/256^k%256:=⟨_,rfl⟩;have hst:=hm.step oO;rw[<-hx,<-hy]at hst;have hxy:x*y<=65025:=j8 (by omega:x<=255) (by omega:y<=255)
     have hc:=hm.hi (i+k) (ay _);have g1: ∀ _:True,(aC .i64 m).getD ((i:Int)+(k:Int)).toNat .u= .v (.i .i64 (m.getD (i+k) 0:Nat)):=fun _=>by
      rw[show((i:Int)+(k:Int)).toNat=i+k by omega,dA (by rw[hm.len];omega)]
     have g2: ∀ _:True,IntKind.i64.wrap ((x:Int)*(y:Int))=((x*y:Nat):Int):=fun _=>by
      rw[<-Int.natCast_mul,IntWalk.i64_in _ oO]
     have g3: ∀ _:True,IntKind.i64.wrap (((m.getD (i+k) 0:Nat):Int)+((x*y:Nat):Int))=((m.getD (i+k) 0+x*y:Nat):Int):=fun _=>by
      rw[<-Int.natCast_add,IntWalk.i64_in _ oO]
     have hd1:=sr a i oO;have hd:=sr b k oO;rw[<-hy]at hd;rw[<-hx]at hd1;clear hy hxy hx;refine pV (aN @m1 (aN (g1 oT) (aN (g2 oT) (g3 oT)))) @hd1 @hd ?_;refine hR' (k+1,m.set (i+k) (m.getD (i+k) 0+x*y)) ⟨by show k+1<= _;omega,hst⟩ (by show b.length-(k+1)<b.length-k;omega) _ ?_
     rw[show((i:Int)+(k:Int)).toNat=i+k by omega,eH (by rw[hm.len];omega) rfl]
     exact lE
    ·obtain rfl:k=b.length:=oO;refine xB ?_;refine hR (i+1,m) ⟨by show i+1<= _;omega,hm.row (cL b)⟩ (by show a.length-(i+1)<a.length-i;omega) _ ?_
     exact lE
  ·obtain rfl:i=a.length:=oO;refine dH (aN @l1 @nY) ?_;have hv:=hl.v;have ha:=cL a;rw[bY ha]at hv;simp only[Nat.pow_zero,mB,Nat.mul_zero,pE,Nat.add_zero]at hv;obtain⟨T,hT⟩: ∃T,T=num a*num b:=⟨_,rfl⟩;rw[<-hT]at hv;have hTl:T<256^n:=by rw[hT];exact hmul
   rw[<-hT];refine af (α:=Nat) (fun i=>n-i) (fun i=>⟨[(5,E' n),(6, .rs 1015 0 0 (n+1) 1),(9, .rs 1023 0 0 n 1),(10,E' (le (l.take i)/256^i)),(11,E' i)],[(1015,⟨0,aC .i64 l,false,none⟩),(1023,⟨0,aG (List.replicate (n-i) 0++be i T),false,none⟩)],_⟩) (fun i=>i<=n) 0 (fun _=>ay _) (aJ _) ?_ ?_
   ·(refine AS.Le.of (by first|decide|omega) ?_ ?_<;>simp[dy,dx,aO,az,AV.bd,AV.bd.bdL,u8,ar,ax,aA])
    all_goals first|rfl|simp[le,be]
   ·intro i hi R hR;have hb:=oY n i T hi
    by_cases hlt:i<n
    ·obtain⟨e1,e2⟩:=s8 (l:=l) (i:=i) (by rw[hl.len];omega) hv.symm
     have hm:=hl.lo i;have hc:=hl.lo.carry i;have g1: ∀ _:True,(aC .i64 l).getD i .u= .v (.i .i64 (l.getD i 0:Nat)):=fun _=>dA (by rw[hl.len];omega)
     have g2: ∀ _:True,IntKind.i64.wrap (((l.getD i 0:Nat):Int)+((le (l.take i)/256^i:Nat):Int))=((le (l.take i)/256^i+l.getD i 0:Nat):Int):=fun _=>by
      have hs:le (l.take i)/256^i+l.getD i 0<=65025*(a.length+1)+65025*(a.length+1):=Nat.add_le_add hc hm;rw[<-Int.natCast_add,ij];generalize le (l.take i)/256^i+l.getD i 0=z at hs⊢;rw[IntWalk.i64_in _ oO]
     clear e1 e2 hm hc;refine dH (aN @l1 (aN (g1 oT) (aN (g2 oT) @hb))) ?_;obtain⟨e1,e2⟩:=s8 (l:=l) (i:=i) (by rw[hl.len];omega) hv.symm
     have hs:le (l.take (i+1))/256^(i+1)<=65025*(a.length+1):=hl.lo.carry (i+1);have hw:IntKind.i64.wrap ((le (l.take (i+1))/256^(i+1):Nat):Int)=((le (l.take (i+1))/256^(i+1):Nat):Int):=by
      generalize le (l.take (i+1))/256^(i+1)=z at hs⊢;rw[IntWalk.i64_in _ oO]
     refine hR (i+1) oO oO _ ?_;rw[e2,hw,show((n:Int)-1-i).toNat=n-1-i by omega,sV (c:=UInt8.ofNat (T/256^i)) oO (by rw[lu,ix,ix];exact congrArg _ oO),ir hlt]
     (refine AS.Le.of (by first|decide|omega) ?_ ?_<;>simp[dy,dx,aO,az,AV.bd,AV.bd.bdL,u8,ar,ax,aA])
     all_goals rfl
    ·obtain rfl:i=n:=oO;have:=qu (be i T) (by rw[cv];omega)
     have hl':(be i T).length=i:=cv _ _;repeat' first|simp only[go_sem,seval,hl',fA,List.replicate_zero]|(refine im this rfl rfl hl'.symm ?_)|refine oE ?_|apply xX<;>intro hc
     rw[jZ hTl]
theorem Ia {k:Nat} (h1:2^k<=n) (h2:n<2^(k+1)):cE n=k+1:=by
 have hp:0<2^k:=gR oC;unfold cE;rw[ae oO,(Nat.log2_eq_iff oO).2 ⟨h1,h2⟩]
theorem sT (n:Nat):n<2^cE n:=by
 unfold cE;split
 ·rename_i h;rw[h];decide
 ·exact uQ
theorem sS (h:n≠0):2^(cE n-1)<=n/\0<cE n:=by
 unfold cE;rw[ae h];exact⟨Nat.log2_self_le h,oO⟩
theorem JI (h:n≠0):cE n=cE (n/2)+1:=by
 obtain⟨h1,h2⟩:=sS h;have h3:=sT n;obtain⟨k,hk⟩: ∃k,cE n=k+1:=⟨cE n-1,oO⟩;rw[hk]at h1 h3⊢;simp only[jw]at h1
 cases k with
 |zero=>
  have:n/2=0:=by simp at h3;omega
  rw[this];rfl
 |succ k=>
  rw[Nat.pow_succ]at h1 h3;rw[Ia (n:=n/2) (k:=k) oO oO]
theorem JH {c:UInt8} (r:Bytes) (h:c≠0):cE (num (c::r))=8*r.length+cE c.toNat:=by
 have hc:c.toNat≠0:=fun e=>h (jv.1 e)
 obtain⟨h1,h2⟩:=sS hc;have h3:=sT c.toNat;have e256:256^r.length=2^(8*r.length):=by rw[show 256=2^8 from rfl,<-ko]
 have hn:num (c::r)=c.toNat*256^r.length+num r:=rfl;have hr:=cL r;have a1:2^(8*r.length+cE c.toNat-1)=2^(cE c.toNat-1)*256^r.length:=by rw[e256,<-cZ];congr 1;omega
 have a2:2^(8*r.length+cE c.toNat-1+1)=2^cE c.toNat*256^r.length:=by rw[e256,<-cZ];congr 1;omega
 have b1:=du (256^r.length) h1;have b2:=du (256^r.length) (show c.toNat+1<=2^cE c.toNat from h3)
 rw[c9]at b2;rw[Ia (k:=8*r.length+cE c.toNat-1) oO oO];omega
theorem TC (x:Nat):(x:Int).tdiv 2=((x/2:Nat):Int):=rfl
theorem An {a:Bytes} (h:Canon a) (la:a.length<1048576):aD 348 [.s a] (E (cE (num a))):=by
 cases a with
 |nil=>
  refine eW call348 func348 ?_;repeat' first|simp only[go_sem,seval,nn]|refine oE ?_|apply xX<;>intro hc
  rfl
 |cons c r=>
  have hc0:c≠0:=by rcases h with e|e;cases e;exact e
  have hb:=JH r hc0;obtain⟨B,hB⟩: ∃B,B=cE (num (c::r)):=⟨_,rfl⟩;rw[<-hB]at hb⊢;have hcl:=c.toNat_lt;have hl:r.length<1048576:=by simp at la;omega
  have hb8:cE c.toNat<=8:=by
   obtain⟨g1,g2⟩:=sS (n:=c.toNat) (fun e=>hc0 (jv.1 e))
   have:=(qX (by decide:1<2)).1 (show 2^(cE c.toNat-1)<2^8 by omega)
   omega
  refine eW call348 func348 ?_;refine cU @cn ?_;refine af (α:=Nat) (fun x=>x) (fun x=>⟨[(3,E' (B-cE x)),(4,E' x)],[],_⟩) (fun x=>x<256/\cE x<=B) c.toNat (fun _=>ay _) ⟨hcl,oO⟩ ?_ ?_
  ·(refine AS.Le.of (by first|decide|omega) ?_ ?_<;>simp[dy,dx,aO,az,AV.bd,AV.bd.bdL,u8,ar,ax,aA])
   all_goals omega
  ·rintro x ⟨hx,hxb⟩ R hR
   by_cases h0:x=0
   ·subst h0;repeat' first|simp only[go_sem,seval]|refine oE ?_|apply xX<;>intro hc
    rfl
   ·have hh:=JI h0;have hw: ∀ _:True,IntKind.i64.wrap (((B-cE x:Nat):Int)+1)=((B-cE (x/2):Nat):Int):=fun _=>by rw[IntWalk.i64_in _ oO];omega
    refine dH (aN @TC (hw oT)) ?_;refine hR (x/2) ⟨oO,oO⟩ oO _ ?_;exact lE
theorem I8 (a:Bytes) (i:Nat) (la:a.length<1048576) (hi:i<1099511627776):aD 349 [.s a,E i] (.b ((num a).testBit i)):=by
 have hd:=sr a (i/8) oO;have e0:(i:Int).tdiv 8=((i/8:Nat):Int):=rfl;have e1:(i:Int).tmod 8=((i%8:Nat):Int):=rfl;have key:(num a).testBit i=decide (num a/256^(i/8)%256/2^(i%8)%2=1):=by
  rw[lA];congr 1;have e2:256^(i/8)=2^(8*(i/8)):=by rw[show 256=2^8 from rfl,<-ko]
  have e3:2^i=256^(i/8)*2^(i%8):=by rw[e2,<-cZ];congr 1;omega
  rw[e3,<-eZ];generalize num a/256^(i/8)=z;have h8:i%8<8:=aL _ oC;generalize i%8=j at h8;have:2^j*2^(8-j)=256:=by rw[<-cZ,show j+(8-j)=8 by omega]
  have e5:z%256/2^j=z/2^j%2^(8-j):=by rw[<-this,rh]
  rw[e5];have e6:2^(8-j)=2*2^(7-j):=by rw[<-yd];congr 1;omega
  rw[e6,Nat.mod_mul_right_mod]
 rw[key];clear key;obtain⟨d,hdd⟩: ∃d,d=num a/256^(i/8)%256:=⟨_,rfl⟩;rw[<-hdd]at hd⊢;have hdl:d<256:=by rw[hdd];exact aL _ oC
 obtain⟨e,he⟩: ∃e,e=i%8:=⟨_,rfl⟩;rw[<-he]at e1⊢;clear hdd;refine eW call349 func349 ?_;refine nc (aN @e0 @e1) @hd ?_;refine af (α:=Nat) (fun j=>e-j) (fun j=>⟨[(1,E' i),(5,E' (d/2^j)),(6,E' j)],[],_⟩) (fun j=>j<=e) 0 (fun _=>ay _) (aJ _) ?_ ?_
 ·(refine AS.Le.of (by first|decide|omega) ?_ ?_<;>simp[dy,dx,aO,az,AV.bd,AV.bd.bdL,u8,ar,ax,aA])
  all_goals simp
 ·intro j hj R hR;have hle:d/2^j<=d:=fg _ _
  by_cases hlt:j<e
  ·have hw: ∀ _:True,IntKind.i64.wrap ((d/2^j/2:Nat):Int)=((d/2^(j+1):Nat):Int):=fun _=>by
    rw[Nat.pow_succ,<-eZ];generalize d/2^j=z at hle⊢;rw[IntWalk.i64_in _ oO]
   refine dH (aN @e1 (aN @TC (hw oT))) ?_;refine hR (j+1) oO oO _ ?_;exact lE
  ·obtain rfl:j=e:=oO;have e3:((d/2^j:Nat):Int).tmod 2=((d/2^j%2:Nat):Int):=rfl;repeat' first|simp only[go_sem,seval,e1,e3]|refine oE ?_|apply xX<;>intro hc
   congr 1;rw[dK];simp only[eT,cq];omega
theorem Hq {x y:Nat} (hx:(aX x).length<1099511627776) (hy:(aX y).length<1099511627776):aD 318 [N x,N y] (N (x+y)):=by
 have:=Fx (aX x) (aX y) hx hy
 rwa[aP,aP]at this
theorem xN {x y:Nat} (hx:(aX x).length<1099511627776) (hy:(aX y).length<1099511627776) (h:y<=x):aD 226 [N x,N y] (N (x-y)):=by
 have:=oJ (aX x) (aX y) hx hy (by rw[aP,aP];exact h)
 rwa[aP,aP]at this
theorem Dm {x y:Nat} (hx:(aX x).length<1048576) (hy:(aX y).length<1048576):aD 295 [N x,N y] (N (x*y)):=by
 have:=wj (aX x) (aX y) hx hy
 rwa[aP,aP]at this
theorem xO {x y:Nat} (hx:(aX x).length<1099511627776) (hy:(aX y).length<1099511627776):aD 82 [N x,N y] (E (ba x y)):=by
 have:=ia (gZ x) (gZ y) oO oO
 rwa[aP,aP]at this
theorem IX:(.s [1]:PV)=N 1:=rfl
theorem QG (n:Nat):be n 0=List.replicate n 0:=by
 induction n with
 |zero=>rfl
 |succ n ih=>rw[be,ih,Nat.zero_div,List.replicate_succ];rfl
theorem tU {a b:Bytes} (ha:Canon a) (hb:Canon b) (h0:0<num b) (la:a.length<1048576) (lb:b.length<1048576):aD 225 [.s a, .s b] (.tup [N (num a/num b),N (num a%num b)]):=by
 by_cases h8:a.length<=8/\b.length<=8
 ·have hu1:=tV a h8.1;have hu2:=tV b h8.2;have na:=eP h8.1;have nb:=eP h8.2;have hq:num a/num b<(2^64):=fh (fg _ _) na;have hr:num a%num b<(2^64):=fh (uA _ _) na;refine eW call225 func225 ?_;repeat' first|simp only[go_sem,seval,uw,bY hq]|refine cP hu1 ?_|refine cP hu2 ?_|refine cP (ig _ hq) ?_|refine cP (ig _ hr) ?_|refine oE ?_|apply xX<;>intro hc
 have hbits:=An ha la;obtain⟨n,hn⟩: ∃n,n=a.length:=⟨_,rfl⟩;have hone:=fun i hi=>I8 a i la hi
 have hAn:num a<256^n:=by rw[hn];exact cL a
 obtain⟨A,hA⟩: ∃A,A=num a:=⟨_,rfl⟩;obtain⟨B,hB⟩: ∃B,B=num b:=⟨_,rfl⟩;have hbB:aX B=b:=by rw[hB];exact Ic hb
 have hBl:(aX B).length<1048576:=by rw[hbB];exact lb
 have hlen: ∀{x:Nat},x<2*B->(aX x).length<1099511627776:=by
  intro x hx;have h1:B<256^b.length:=by rw[hB];exact cL b
  have h2:x<256^(b.length+1):=by rw[Nat.pow_succ];omega
  have:=oV.2 h2;omega
 have hbl:cE A<8388608:=by
  by_cases hz:A=0
  ·rw[hz];decide
  ·obtain⟨g1,g2⟩:=sS hz;have g3:2^(cE A-1)<2^(8*n):=fh g1 (by rw[ko];rw[hA];exact hAn)
   have:=(qX (by decide:1<2)).1 g3
   omega
 rw[<-hA]at hbits hone hAn⊢;rw[<-hB]at h0⊢;have eb:PV.s b=N B:=by show PV.s b=PV.s (aX B);rw[hbB]
 have hb2:A/2^cE A=0:=iD (sT A);rcases(show 8<a.length\/(a.length<=8/\8<b.length) by omega)with g|g
 all_goals
  refine eW call225 func225 ?_;simp only[go_sem,seval,<-hn];repeat' first|simp only[go_sem,seval,<-hn,nY]|refine cP hbits ?_|refine oE ?_|apply xX<;>intro hc
  refine af (α:=Nat) (fun k=>k) (fun k=>⟨[(0, .v (.s a)),(1, .v (.s b)),(8, .rs 1012 0 0 n 1),(9, .v (N (A/2^k%B))),(10, .v (.i .i64 ((k:Int)-1)))],[(1012,⟨0,aG (be n (A/2^k/B*2^k)),false,none⟩)],_⟩) (fun k=>k<=cE A) (cE A) (fun _=>ay _) (ay _) ?_ ?_
  ·(refine AS.Le.of (by first|decide|omega) ?_ ?_<;>simp[dy,dx,aO,az,AV.bd,AV.bd.bdL,u8,ar,ax,aA])
   all_goals simp[hb2,QG]
   all_goals rfl
  ·intro k hk R hR;have hbe: ∀q,(be n q).length=n:=fun q=>cv _ _
   cases k with
   |zero=>
    have:=qu (be n (A/1/B)) (by rw[cv];omega)
    repeat' first|simp only[go_sem,seval,hbe]|(refine im this rfl rfl (hbe _).symm ?_)|refine oE ?_|apply xX<;>intro hc
    rw[iR,jZ (fh (fg _ _) hAn)]
   |succ i=>
    have hz:=EV A i;have ht:A/2^i%2<2:=aL _ oC;obtain⟨s1,s2⟩:=MD (z:=A/2^(i+1)) (t:=A/2^i%2) (B:=B) h0 ht;rw[<-hz]at s1 s2;have hr1:A/2^(i+1)%B<B:=aL _ h0;have hbit:=hone i oO;rw[lA]at hbit;have hQn:A/2^i/B*2^i<=A:=fZ (du _ (fg _ _)) (q9 _ _);obtain⟨Q,hQ⟩: ∃Q,Q=A/2^(i+1)/B:=⟨_,rfl⟩;obtain⟨r,hr⟩: ∃r,r=A/2^(i+1)%B:=⟨_,rfl⟩;obtain⟨t,htt⟩: ∃t,t=A/2^i%2:=⟨_,rfl⟩;rw[<-hQ,<-hr,<-htt]at s1;rw[<-hr,<-htt]at s2;rw[<-hr]at hr1;rw[<-htt]at ht hbit;rw[<-hQ,<-hr];have hQ2:Q*2^(i+1)=2*Q*2^i:=by rw[Nat.pow_succ,bO (2^i),<-cF,bO Q]
    have p1:=Hq (x:=r) (y:=r) (hlen oO) (hlen oO);have p2:=Hq (x:=r+r) (y:=1) (hlen oO) oC;have hw0: ∀ _:True,((i+1:Nat):Int)-1=(i:Int):=fun _=>oO
    have hge0: ∀ _:True,decide ((i:Int)>=0)=true:=fun _=>by simp
    have hrt:r+r+t=2*r+t:=oO
    by_cases hge:B<=r+r+t
    ·rw[ah oO]at s1 s2;have m1:=xN (x:=r+r+t) (y:=B) (hlen oO) oO hge;have o1:=xO (x:=r+r+t) (y:=B) (hlen oO) oO;obtain⟨cm,hcm⟩: ∃cm,cm=ba (r+r+t) B:=⟨_,rfl⟩;have hcg: ∀ _:True,decide (cm>=0)=true:=fun _=>by rw[hcm];unfold ba;rw[ae oO];split<;>rfl
     rw[<-hcm]at o1;rw[<-eb]at m1 o1;have s2':A/2^i%B=r+r+t-B:=by rw[s2];omega
     have s1':A/2^i/B*2^i=Q*2^(i+1)+2^(i%8)*256^(i/8):=by rw[s1,c9,Md,hQ2,kW]
     have hbf:=Me (Q:=Q) (i:=i);have hj:i/8<n:=by
      have h1:256^(i/8)<=A:=by
       rw[s1']at hQn;have:=DT (256^(i/8)) (gR (n:=i%8) (show 0<2 by decide))
       omega
      exact(qX (by decide:1<256)).1 (fh h1 hAn)
     have hadd:=UH hj hbf;rw[<-s1']at hadd;have hq1:(i:Int).tdiv 8=((i/8:Nat):Int):=rfl;have hq2:(i:Int).tmod 8=((i%8:Nat):Int):=rfl;have hix: ∀ _:True,((n:Int)-1-((i/8:Nat):Int)).toNat=n-1-i/8:=fun _=>oO
     have hdig:=vO (be n (Q*2^(i+1))) (i:=i/8) (by rw[cv];exact hj)
     rw[cv,zX]at hdig;have hdig2:Q*2^(i+1)%256^n/256^(i/8)%256=Q*2^(i+1)/256^(i/8)%256:=by
      have this:Q*2^(i+1)<=A/2^i/B*2^i:=by rw[s1'];exact Nat.le_add_right _ _
      rw[bY (fh (fZ this hQn) hAn)]
     rw[hdig2]at hdig;obtain⟨L,hL⟩: ∃L,L=be n (Q*2^(i+1)):=⟨_,rfl⟩;have hLl:L.length=n:=by rw[hL];exact cv _ _
     obtain⟨y,hy⟩: ∃y,y=Q*2^(i+1)/256^(i/8)%256:=⟨_,rfl⟩;rw[<-hL,<-hy]at hadd hdig;rw[<-hy]at hbf;rw[<-hL];have hrd: ∀ _:True,(aG L).getD (n-1-i/8) .u= .v (.i .u8 (y:Int)):=fun _=>by
      have:n-1-i/8<L.length:=oO;rw[<-hdig];simp[aG,bu,this,u8]
     have he7:i%8<8:=aL _ oC;clear hQ hr htt hz hQ2 hdig2 hL hy;rcases(show t=0\/t=1 by omega)with h0|h1
     ·subst h0;have hbit':aD 349 [.s a,E i] (.b false):=hbit;refine uV (aN (hw0 oT) (aN (hge0 oT) (hcg oT))) @p1 @hbit' @o1 @m1 ?_;refine af (α:=Nat) (fun j=>i%8-j) (fun j=>⟨[(0, .v (.s a)),(1, .v (.s b)),(8, .rs 1012 0 0 n 1),(9, .v (N (r+r-B))),(10, .v (.i .i64 (i:Int))),(11, .v (.i .u8 ((2^j:Nat):Int))),(12, .v (.i .i64 (j:Int)))],[(1012,⟨0,aG L,false,none⟩)],_⟩) (fun j=>j<=i%8) 0 (fun _=>ay _) (aJ _) ?_ ?_
      ·exact lE
      ·intro j hj R2 hR2
       by_cases hlt:j<i%8
       ·have hp7:2^(j+1)<=2^7:=dF oC oO;have hwj: ∀ _:True,IntKind.u8.wrap (((2^j:Nat):Int)*2)=((2^(j+1):Nat):Int):=fun _=>by
         rw[Wn,Nat.pow_succ,Int.natCast_mul];rw[Nat.pow_succ]at hp7;omega
        refine dH (aN @hq2 (hwj oT)) ?_;refine hR2 (j+1) oO oO _ ?_;exact lE
       ·obtain rfl:j=i%8:=oO;repeat' first|simp only[go_sem,seval,<-hn,hq1,hq2,hLl,hix oT,hrd oT]|refine oE ?_|apply xX<;>intro hc
        refine hR i oO oO _ ?_;rw[s2',sV (c:=UInt8.ofNat (y+2^(i%8))) oO (by rw[<-Int.natCast_add,lu]),hadd]
        exact lE
     ·subst h1;have hbit':aD 349 [.s a,E i] (.b true):=hbit;refine Gj (aN (hw0 oT) (aN (hge0 oT) (aN (hcg oT) @IX))) @p1 @hbit' @p2 @o1 @m1 oT oT ?_;refine af (α:=Nat) (fun j=>i%8-j) (fun j=>⟨[(0, .v (.s a)),(1, .v (.s b)),(8, .rs 1012 0 0 n 1),(9, .v (N (r+r+1-B))),(10, .v (.i .i64 (i:Int))),(11, .v (.i .u8 ((2^j:Nat):Int))),(12, .v (.i .i64 (j:Int)))],[(1012,⟨0,aG L,false,none⟩)],_⟩) (fun j=>j<=i%8) 0 (fun _=>ay _) (aJ _) ?_ ?_
      ·exact lE
      ·intro j hj R2 hR2
       by_cases hlt:j<i%8
       ·have hp7:2^(j+1)<=2^7:=dF oC oO;have hwj: ∀ _:True,IntKind.u8.wrap (((2^j:Nat):Int)*2)=((2^(j+1):Nat):Int):=fun _=>by
         rw[Wn,Nat.pow_succ,Int.natCast_mul];rw[Nat.pow_succ]at hp7;omega
        refine dH (aN @hq2 (hwj oT)) ?_;refine hR2 (j+1) oO oO _ ?_;exact lE
       ·obtain rfl:j=i%8:=oO;repeat' first|simp only[go_sem,seval,<-hn,hq1,hq2,hLl,hix oT,hrd oT]|refine oE ?_|apply xX<;>intro hc
        refine hR i oO oO _ ?_;rw[s2',sV (c:=UInt8.ofNat (y+2^(i%8))) oO (by rw[<-Int.natCast_add,lu]),hadd]
        exact lE
    ·rw[ae oO]at s1 s2;have o1:=xO (x:=r+r+t) (y:=B) (hlen oO) oO;have hcm:ba (r+r+t) B= -1:=by unfold ba;rw[ah oO]
     rw[hcm,<-eb]at o1;have s2':A/2^i%B=r+r+t:=by rw[s2];omega
     have s1':A/2^i/B*2^i=Q*2^(i+1):=by rw[s1,hQ2];rfl
     clear hQ hr htt hz hQ2;have hR':=hR i oO oO;rw[s1',s2']at hR';rcases(show t=0\/t=1 by omega)with h0|h1
     ·subst h0;have hbit':aD 349 [.s a,E i] (.b false):=hbit;refine wI (aN (hw0 oT) (hge0 oT)) @p1 @hbit' @o1 oT ?_;refine hR' _ ?_;exact lE
     ·subst h1;have hbit':aD 349 [.s a,E i] (.b true):=hbit;refine wI (aN (hw0 oT) (aN (hge0 oT) @IX)) @p1 @hbit' @p2 @o1 ?_;refine hR' _ ?_;exact lE
theorem I7 (a:Bytes):aD 404 [.s a] (.tup [.s (if a.length<=128 then a else[]),E (if a.length<=128 then 0 else 5)]):=by
 refine eW call404 func404 ?_;repeat' first|simp only[go_sem,seval]|refine oE ?_|apply xX<;>intro hc
 ·have h: ¬a.length<=128:=oO;simp[h]
 ·have h:a.length<=128:=oO;simp[h]
theorem R9 (a b:Bytes):aD 302 [.s a, .s b] (.tup [.s (Bf a b).1,E (Bf a b).2]):=by
 by_cases hv:aa a=true/\aa b=true
 case neg=>
  refine eW call302 func302 ?_;repeat' first|simp only[go_sem,seval]|refine cP (aK _) ?_|refine oE ?_|apply xX<;>intro hc
  all_goals simp_all[Bf]
 have la:=cT hv.1;have lb:=cT hv.2;have hp:=Fx a b oO oO;refine eW call302 func302 ?_;repeat' first|simp only[go_sem,seval]|refine cP (aK _) ?_|refine cP hp ?_|refine cP (I7 _) ?_|refine oE ?_|apply xX<;>intro hc
 all_goals simp only[lf,Bf,hv.1,hv.2,dE,au]
 all_goals (split<;>simp_all)
theorem Sk (a b:Bytes):aD 301 [.s a, .s b] (.tup [.s (wD a b).1,E (wD a b).2]):=by
 by_cases hv:aa a=true/\aa b=true
 case neg=>
  refine eW call301 func301 ?_;repeat' first|simp only[go_sem,seval]|refine cP (aK _) ?_|refine oE ?_|apply xX<;>intro hc
  all_goals simp_all[wD]
 have la:=cT hv.1;have lb:=cT hv.2;have ho:=ia (bL hv.1) (bL hv.2) oO oO;have v1:=aK a;have v2:=aK b;rw[hv.1]at v1;rw[hv.2]at v2;refine eW call301 func301 ?_;repeat' first|simp only[go_sem,seval]|refine cP v1 ?_|refine cP v2 ?_|refine cP ho ?_|(refine jb (oJ a b oO oO (by rw[fP]at hc;omega)) rfl ?_)|refine oE ?_|apply xX<;>intro hc
 ·rw[fP]at hc;simp[wD,hv.1,hv.2,show¬num b<=num a by omega]
 ·rw[fP]at hc;simp[wD,hv.1,hv.2,show num b<=num a by omega]
theorem Sg (a b:Bytes):aD 354 [.s a, .s b] (.tup [.s (xl a b).1,E (xl a b).2]):=by
 by_cases hv:aa a=true/\aa b=true
 case neg=>
  refine eW call354 func354 ?_;repeat' first|simp only[go_sem,seval]|refine cP (aK _) ?_|refine oE ?_|apply xX<;>intro hc
  all_goals simp_all[xl]
 have la:=cT hv.1;have lb:=cT hv.2;have hp:=wj a b oO oO;refine eW call354 func354 ?_;repeat' first|simp only[go_sem,seval]|refine cP (aK _) ?_|refine cP hp ?_|refine cP (I7 _) ?_|refine oE ?_|apply xX<;>intro hc
 all_goals simp only[lf,xl,hv.1,hv.2,dE,au]
 all_goals (split<;>simp_all)
theorem Hi (a b:Bytes):aD 410 [.s a, .s b] (.tup [.s (tc a b).1, .s (tc a b).2.1,E (tc a b).2.2]):=by
 by_cases hv:aa a=true/\aa b=true
 case neg=>
  refine eW call410 func410 ?_;repeat' first|simp only[go_sem,seval]|refine cP (aK _) ?_|refine oE ?_|apply xX<;>intro hc
  all_goals simp_all[tc]
 have la:=cT hv.1;have lb:=cT hv.2
 by_cases h0:b=[]
 ·subst h0;refine eW call410 func410 ?_;repeat' first|simp only[go_sem,seval,nn]|refine cP (aK _) ?_|refine oE ?_|apply xX<;>intro hc
  all_goals simp_all[tc]
 have hp:=qP (bL hv.2) h0;have ho:=tU (bL hv.1) (bL hv.2) hp oO oO;refine eW call410 func410 ?_;repeat' first|simp only[go_sem,seval]|refine cP (aK _) ?_|refine cP ho ?_|refine oE ?_|apply xX<;>intro hc
 all_goals simp_all[tc]
theorem we (a:Bytes):aD 353 [.s a] (.tup [.i .u64 (if aa a&&decide (a.length<=8)then num a else 0), .b (aa a&&decide (a.length<=8))]):=by
 by_cases h:aa a=true/\a.length<=8
 ·have hu:=tV a h.2;refine eW call353 func353 ?_;repeat' first|simp only[go_sem,seval]|refine cP (aK _) ?_|refine cP hu ?_|refine oE ?_|apply xX<;>intro hc
  all_goals simp_all
 ·refine eW call353 func353 ?_;repeat' first|simp only[go_sem,seval]|refine cP (aK _) ?_|refine oE ?_|apply xX<;>intro hc
  all_goals simp_all
  all_goals omega
theorem Cb {a:Bytes} (h:aa a=true):aD 403 [.s a] (E (cE (num a))):=by
 have la:=cT h;have hb:=An (bL h) oO;refine eW call403 func403 ?_;repeat' first|simp only[go_sem,seval]|refine cP (aK _) ?_|refine cP hb ?_|refine oE ?_|apply xX<;>intro hc
 all_goals simp_all
theorem Sa {a:Bytes} (h:aa a=true) (i:Nat) (hi:i<1099511627776):aD 430 [.s a,E i] (.b ((num a).testBit i)):=by
 have la:=cT h;have hb:=An (bL h) oO;have ho:=I8 a i oO hi;have hv:=aK a;rw[h]at hv;have hlt: ¬i<cE (num a)->(num a).testBit i=false:=by
  intro g;rw[lA,iD (bH (sT _) (dF oC oO))];rfl
 generalize (num a).testBit i=tb at*;refine eW call430 func430 ?_;repeat' first|simp only[go_sem,seval]|refine cP hv ?_|refine cP hb ?_|refine cP ho ?_|refine oE ?_|apply xX<;>intro hc
 all_goals simp_all
 all_goals (first|omega|skip)
theorem Ol (ha:a<cW) (hb:b<cW):aD 228 [N a,N b] (N (Nat.gcd a b)):=by
 have hlim: ∀{x:Nat},x<cW->(aX x).length<1048576:=fun h=>by have:=lf.2 h;omega
 refine eW call228 func228 ?_;simp only[go_sem,seval];refine af (α:=Nat×Nat) (fun x=>x.2) (fun x=>⟨[(0, .v (N x.1)),(1, .v (N x.2))],[],_⟩) (fun x=>x.1<cW/\x.2<cW/\Nat.gcd x.1 x.2=Nat.gcd a b) (a,b) (fun _=>ay _) ⟨ha,hb,rfl⟩ ?_ ?_
 ·exact lE
 ·rintro⟨x,y⟩ ⟨hx,hy,hg⟩ R hR;simp only at hx hy hg
  by_cases h0:y=0
  ·subst h0;refine dH @G1 ?_;rw[<-hg,DY]
  ·have e:=tJ h0;have hd:=tU (gZ x) (gZ y) (by rw[aP];omega) (hlim hx) (hlim hy)
   rw[aP,aP]at hd;refine kz @e @hd ?_;have hm:x%y<y:=aL _ oO;refine hR (y,x%y) ⟨hy,by show x%y< _;omega,?_⟩ hm _ ?_
   ·show Nat.gcd y (x%y)= _;rw[<-hg,iK x y,mE y x,iK]
   ·exact lE
theorem Fu (h:a+b<cW):aD 302 [N a,N b] (.tup [N (a+b),E 0]):=by
 have:=R9 (aX a) (aX b);simp only[Bf,vB (show a<cW by omega),vB (show b<cW by omega),dE,au,aP,h]at this
 exact this
theorem Fy (h:b<=a) (ha:a<cW):aD 301 [N a,N b] (.tup [N (a-b),E 0]):=by
 have:=Sk (aX a) (aX b);simp only[wD,vB ha,vB (show b<cW by omega),dE,au,aP,h]at this
 exact this
theorem Tu (h:a*b<cW) (ha:a<cW) (hb:b<cW):aD 354 [N a,N b] (.tup [N (a*b),E 0]):=by
 have:=Sg (aX a) (aX b);simp only[xl,vB ha,vB hb,dE,au,aP,h]at this;exact this
theorem qp (ha:a<cW) (hb:b<cW) (h0:0<b):aD 410 [N a,N b] (.tup [N (a/b),N (a%b),E 0]):=by
 have:=Hi (aX a) (aX b);have e:aX b≠[]:=fun h=>by rw[gM]at h;omega
 simpa only[tc,vB ha,vB hb,dE,au,e,an,aP]using this
theorem X4 (ha:a<cW) (hb:b<cW):aD 39 [N a,N b] (E (ba a b)):=by
 have:=mA (aX a) (aX b);simpa only[vB ha,vB hb,dE,au,aP]using this
theorem iw (n:Bool) (a:Bytes):aD 111 [.agg [.b n, .s a]] (.b (aa a&& !(n&&a==[]))):=by
 have hv:=aK a;refine eW call111 func111 ?_;exact Zj @hv
theorem Ar (n:Bool) (a:Bytes):aD 96 [.b n, .s a] (.agg [.b (n&& !(a==[])), .s a]):=by
 refine eW call96 func96 ?_;exact Zi
theorem jX (b:Bool) (n:Nat) {z:Int} (h:(if b then-(n:Int)else n)=z):aD 96 [.b b,N n] (Z z):=by
 have:=Ar b (aX n);rw[zmk,h]at this;exact this
theorem iZ (h:x.natAbs<cW):aD 111 [Z x] (.b true):=by
 have:=iw (zs x) (zb x)
 rwa[Wv h]at this
theorem ss (h:n<cW):aD 45 [N n] (Z n):=by
 have hv:=aK (aX n);rw[vB h]at hv;have hm:=jX false n rfl;refine eW call45 func45 ?_;repeat' first|simp only[go_sem,seval,Z]|refine cP hv ?_|refine cP hm ?_|refine oE ?_|apply xX<;>intro hc
theorem X7:aD 54 [E 1] (Z 1):=by
 have h1:=ig 1 oC;have hm:=jX false 1 rfl;refine eW call54 func54 ?_;repeat' first|simp only[go_sem,seval,Z]|refine cP h1 ?_|refine cP hm ?_|refine oE ?_|apply xX<;>intro hc
theorem aat:aD 54 [E 0] (Z 0):=by
 have h1:=ig 0 oC;have hm:=jX false 0 rfl;refine eW call54 func54 ?_;repeat' first|simp only[go_sem,seval,Z]|refine cP h1 ?_|refine cP hm ?_|refine oE ?_|apply xX<;>intro hc
theorem X6 (h:y.natAbs<cW):aD 406 [Z y] (Z (-y)):=by
 have hv:=iZ h;have hm:=jX (!zs y) y.natAbs (Y4 y);refine eW call406 func406 ?_;repeat' first|simp only[go_sem,seval,Z]|refine cP hv ?_|refine cP hm ?_|refine oE ?_|apply xX<;>intro hc
theorem Aq (hx:x.natAbs<cW) (hy:y.natAbs<cW) (h:x.natAbs*y.natAbs<cW):aD 299 [Z x,Z y] (.tup [Z (x*y),E 0]):=by
 have v1:=iZ hx;have v2:=iZ hy;have hm:=Tu (a:=x.natAbs) (b:=y.natAbs) h hx hy;have hk:=jX (zs x !=zs y) (x.natAbs*y.natAbs) (Y3 x y);refine eW call299 func299 ?_;repeat' first|simp only[go_sem,seval,Z]|refine cP v1 ?_|refine cP v2 ?_|refine cP hm ?_|refine cP hk ?_|refine oE ?_|apply xX<;>intro hc
theorem Oo (hx:x.natAbs<dL) (hy:y.natAbs<dL):aD 299 [Z x,Z y] (.tup [Z (x*y),E 0]):=
 have hw:=xz
 Aq oO oO (bH (gQ hx hy) Gd)
theorem On (hlim:x.natAbs+y.natAbs<cW):aD 405 [Z x,Z y] (.tup [Z (x+y),E 0]):=by
 have v1:=iZ (x:=x) oO;have v2:=iZ (x:=y) oO
 by_cases hs:zs x=zs y
 ·have ha:=Fu hlim;have hk:=jX (zs x) (x.natAbs+y.natAbs) (Ps hs);have hb: ∀ _:True,(zs x==zs y)=true:=fun _=>by rw[hs];simp
  clear hs hlim;refine eW call405 func405 ?_;repeat' first|simp only[go_sem,seval,Z,hb oT]|refine cP v1 ?_|refine cP v2 ?_|refine cP ha ?_|refine cP hk ?_|refine oE ?_|apply xX<;>intro hc
 have hb: ∀ _:True,(zs x==zs y)=false:=fun _=>by simpa using hs
 have hcm:=X4 (a:=x.natAbs) (b:=y.natAbs) oO oO
 by_cases hl:y.natAbs<=x.natAbs
 ·have hd:=Fy hl oO;have hk:=jX (zs x) (x.natAbs-y.natAbs) (Ju hs hl);have hg: ∀ _:True,decide (ba x.natAbs y.natAbs>=0)=true:=fun _=>aI (kZ.2 hl)
  generalize ba x.natAbs y.natAbs=cm at*;clear hs hlim;refine eW call405 func405 ?_;repeat' first|simp only[go_sem,seval,Z,hb oT,hg oT]|refine cP v1 ?_|refine cP v2 ?_|refine cP hcm ?_|refine cP hd ?_|refine cP hk ?_|refine oE ?_|apply xX<;>intro hc
 ·have hd:=Fy (a:=y.natAbs) (b:=x.natAbs) oO oO;have hk:=jX (zs y) (y.natAbs-x.natAbs) (Pt hs oO);have hg: ∀ _:True,decide (ba x.natAbs y.natAbs>=0)=false:=fun _=>aH (fun h=>hl (kZ.1 h))
  generalize ba x.natAbs y.natAbs=cm at*;clear hs hlim;refine eW call405 func405 ?_;repeat' first|simp only[go_sem,seval,Z,hb oT,hg oT]|refine cP v1 ?_|refine cP v2 ?_|refine cP hcm ?_|refine cP hd ?_|refine cP hk ?_|refine oE ?_|apply xX<;>intro hc
theorem V5 (hx:x.natAbs<dL) (hy:y.natAbs<dL):aD 405 [Z x,Z y] (.tup [Z (x+y),E 0]):=
 On (bH (show _<dL*dL by unfold dL at*;omega) Gd)
theorem Oq (hlim:x.natAbs+y.natAbs<cW):aD 303 [Z x,Z y] (.tup [Z (x-y),E 0]):=by
 have v1:=iZ (x:=x) oO;have v2:=iZ (x:=y) oO;have hn:=X6 (y:=y) oO;have ha:=On (x:=x) (y:= -y) oO;rw[<-Int.sub_eq_add_neg]at ha;refine eW call303 func303 ?_;repeat' first|simp only[go_sem,seval,Z]|refine cP v1 ?_|refine cP v2 ?_|refine cP hn ?_|refine cP ha ?_|refine oE ?_|apply xX<;>intro hc
theorem V7 (hx:x.natAbs<dL) (hy:y.natAbs<dL):aD 303 [Z x,Z y] (.tup [Z (x-y),E 0]):=
 Oq (bH (show _<dL*dL by unfold dL at*;omega) Gd)
