import Derived.Test.YtgphljokbodciaaGreatS12
namespace Go.Proofs.YtgphljokbodciaaGreat
set_option linter.unusedVariables false
set_option linter.unusedSimpArgs false
open Go.RowKit
section
set_option maxRecDepth 100000
attribute [local irreducible] ah aV ad ab
def Pj:CF Tryz.f271:=⟨_,by conv=>lhs;cbv⟩
theorem Zc:aD Tryz.prog 271 Pj.1 Tryz.f271.ntmps:=aO Tryz.func271 Pj.2 Tryz.call271
def My:List Nat:=[4,0,1,2,3]
def Pk:CF Tryz.f371:=⟨_,by conv=>lhs;cbv⟩
theorem Zd:aD Tryz.prog 371 Pk.1 Tryz.f371.ntmps:=aO Tryz.func371 Pk.2 Tryz.call371
def xO:List Nat:=[2,3,5,4,0,1,21]
def Pl:CF Tryz.f268:=⟨_,by conv=>lhs;cbv⟩
theorem Ze:aD Tryz.prog 268 Pl.1 Tryz.f268.ntmps:=aO Tryz.func268 Pl.2 Tryz.call268
def Mz:List Nat:=[4,0,1,2,3]
def Pm:CF Tryz.f141:=⟨_,by conv=>lhs;cbv⟩
theorem Zf:aD Tryz.prog 141 Pm.1 Tryz.f141.ntmps:=aO Tryz.func141 Pm.2 Tryz.call141
def G1:List Nat:=[2,3,4,0,1]
def Pn:CF Tryz.f217:=⟨_,by conv=>lhs;cbv⟩
theorem Zg:aD Tryz.prog 217 Pn.1 Tryz.f217.ntmps:=aO Tryz.func217 Pn.2 Tryz.call217
def MA:List Nat:=[4,0,1,2,3]
def Po:CF Tryz.f225:=⟨_,by conv=>lhs;cbv⟩
theorem Zh:aD Tryz.prog 225 Po.1 Tryz.f225.ntmps:=aO Tryz.func225 Po.2 Tryz.call225
def MB:List Nat:=[4,0,1]
def Pp:CF Tryz.f337:=⟨_,by conv=>lhs;cbv⟩
theorem Zi:aD Tryz.prog 337 Pp.1 Tryz.f337.ntmps:=aO Tryz.func337 Pp.2 Tryz.call337
def z9:List Nat:=[2,3,5,4,0,1,12,21]
def Pq:CF Tryz.f216:=⟨_,by conv=>lhs;cbv⟩
theorem Zj:aD Tryz.prog 216 Pq.1 Tryz.f216.ntmps:=aO Tryz.func216 Pq.2 Tryz.call216
def MC:List Nat:=[4,0,1,2,3]
def Pr:CF Tryz.f107:=⟨_,by conv=>lhs;cbv⟩
theorem Zk:aD Tryz.prog 107 Pr.1 Tryz.f107.ntmps:=aO Tryz.func107 Pr.2 Tryz.call107
def G2:List Nat:=[2,3,4,0,1]
def sM (x y:At):Int:=cR (tP x.n y.n) (cR (eQ x.a.length y.a.length) (e_ x.a y.a))
def r6 (x y:Gl):Bool:=x.op == y.op && x.n.toList == y.n.toList && decide ((x.a.length:Int)=y.a.length) && e_ x.a y.a == 0
theorem KA:∀ (a b:List Tm) (k:Nat),(a.length<=k\/b.length<=k)->k<=a.length->k<=b.length->e_ (a.drop k) (b.drop k)=eQ a.length b.length:=by
 intro a b k h h1 h2
 rcases Nat.lt_or_ge k a.length with h3|h3
 ·obtain⟨x,hx,aQ⟩:=aA h3
  rw [aQ,List.drop_eq_nil_of_le (show b.length<=k by omega),e_]
  unfold eQ;(repeat' split)<;>first|rfl|omega
 ·rw [List.drop_eq_nil_of_le (show a.length<=k by omega),e_,List.length_drop]
  unfold eQ;(repeat' split)<;>first|rfl|omega
section
variable {w0:World}{ρ:Hd}
theorem CR {a b:List Tm}(ih:∀ x ∈ a,∀ y,x.ok->y.ok->ah Tryz.prog w0 338 [tm ρ x,tm ρ y] (iv (fR x y))) (yK:er a) (s5:er b) (hl:a.length<=1099511627776) (ef:b.length<=1099511627776) :
  ah Tryz.prog w0 343 [tl ρ a,tl ρ b] (iv (e_ a b)):=by
 refine Za.aH (by simp [Tryz.ntmps343]) (.v) ?_
 refine gq jc ?_
 repeat' (first
  |(refine bq (fun hb=>?_) (fun hb=>?_)<;>(try simp only [aq] at hb)<;>(first|exact absurd hb (by decide)|refine gq jc ?_))
  |(refine az fun m hm=>?_;(try rw [af] at hm);refine gq jc ?_)
  |(refine aS fun _ _=>?_;refine gq jc ?_)
  |(refine cvq fun _ _=>?_;refine gq jc ?_)
  |(refine ab.str rfl (ad.cat rfl rfl (by assumption)) fun _ _=>?_;refine gq jc ?_)
  |(refine ab.ao ?_;refine gq jc ?_)
  |(refine ab.bK ?_;refine gq jc ?_)
  |(refine fq ?_))
 refine ab.aP (σ:=Int) 0 0 [] (fun i=>[(0,tl ρ a),(1,tl ρ b),(5,.v (.int .i64 i))]) [] (fun _=>[])
  (fun i=>∃ k:Nat,i=k/\k<=a.length/\k<=b.length/\e_ a b=e_ (a.drop k) (b.drop k)) (fun i=>a.length - i.toNat) 0 ⟨0,rfl,by simp,by simp,by simp⟩ rfl cq ?_
 rintro i ⟨k,hi,hk,dD,hp⟩
 refine gq jc ?_
 by_cases au:k < a.length/\k < b.length
 ·obtain⟨x,hx,aQ⟩:=aA au.1
  obtain⟨y,hy,cT⟩:=aA au.2
  rw [aQ,cT,e_,cR] at hp
  repeat' (first
   |(refine ab.op rfl (ad.ind rfl rfl (fL (l:=a) hi hx) fM) ?_;refine gq jc ?_)
   |(refine ab.op rfl (ad.ind rfl rfl (fL (l:=b) hi hy) fM) ?_;refine gq jc ?_)
   |(refine ab.int rfl (ad.ag rfl (ih x (aZ hx) y (yK.mem x (aZ hx)) (s5.mem y (aZ hy))) ⟨bf _,bf _,trivial⟩) fun _ _=>?_;refine gq jc ?_)
   |(refine ab.int rfl (ad.ag rfl (qJ _ _) ⟨.v,.v,trivial⟩) fun _ _=>?_;refine gq jc ?_)
   |(refine bq (fun hb=>?_) (fun hb=>?_)<;>(try simp only [aq] at hb)<;>(first|refine gq jc ?_))
   |(refine az fun m hm=>?_;(try rw [af] at hm);refine gq jc ?_)
   |(refine aS fun _ _=>?_;refine gq jc ?_)
   |(refine ab.ao ?_;refine gq jc ?_)
   |(refine ab.bK ?_;refine gq jc ?_)
   |(refine fq ?_))
  all_goals first
   |(exfalso;omega)
   |(subst_vars;rw [if_neg (by omega)] at hp;exact dK hp.symm)
   |(subst_vars;rw [if_pos (by omega)] at hp
     refine ab.aK (σ:=Int) _ [] ?_ ?_ cq
     ·exact⟨k+1,by omega,by omega,by omega,hp⟩
     ·omega)
 ·skip
  repeat' (first
   |(refine ab.int rfl (ad.ag rfl (qJ _ _) ⟨.v,.v,trivial⟩) fun _ _=>?_;refine gq jc ?_)
   |(refine bq (fun hb=>?_) (fun hb=>?_)<;>(try simp only [aq] at hb)<;>(first|refine gq jc ?_))
   |(refine az fun m hm=>?_;(try rw [af] at hm);refine gq jc ?_)
   |(refine ab.ao ?_;refine gq jc ?_)
   |(refine fq ?_))
  all_goals first
   |(exfalso;omega)
   |(rw [KA a b k (by omega) hk dD] at hp;subst_vars;exact dK hp.symm)
theorem G3 (k i k' i':Int) (n n':ByteArray) (a a':List Tm) (ih:∀ x ∈ a,∀ y:Tm,x.ok->y.ok->ah Tryz.prog w0 338 [tm ρ x,tm ρ y] (iv (fR x y)))
  (db:a.length<=1099511627776) (eM:er a) (fc:a'.length<=1099511627776) (mY:er a') (hr:fH k=0):ah Tryz.prog w0 338 [tm ρ ⟨k,i,n,a⟩,tm ρ ⟨k',i',n',a'⟩] (iv (fR ⟨k,i,n,a⟩ ⟨k',i',n',a'⟩)):=by
 have h0:ah Tryz.prog w0 435 [tm ρ ⟨k,i,n,a⟩] (iv 0):=by rw [<-hr];exact mX _
 have h1:ah Tryz.prog w0 435 [tm ρ ⟨k',i',n',a'⟩] (iv (fH k')):=mX _
 rw [fR,hr]
 dsimp only
 refine Cj.aH (by simp [Tryz.ntmps338]) (.v) ?_
 refine gq g9 ?_
 repeat' (first
  |(refine ab.op rfl (ad.ag rfl h0 ⟨bf ⟨k,i,n,a⟩,trivial⟩) ?_;refine gq g9 ?_)
  |(refine ab.int rfl (ad.ag rfl h1 ⟨bf ⟨k',i',n',a'⟩,trivial⟩) fun _ _=>?_;refine gq g9 ?_)
  |(refine ab.int rfl (ad.ag rfl (qJ _ _) ⟨.v,.v,trivial⟩) fun _ _=>?_;refine gq g9 ?_)
  |(refine bq (fun hb=>?_) (fun hb=>?_)<;>(try simp only [aq] at hb)<;>(first|exact absurd hb (by decide)|refine gq g9 ?_))
  |(refine fq ?_))
 all_goals (subst_vars;refine dK ?_;simp only [cR,pJ,true_or,or_true,if_true];(repeat' split)<;>first|rfl|omega)
theorem G4 (k i k' i':Int) (n n':ByteArray) (a a':List Tm) (ih:∀ x ∈ a,∀ y:Tm,x.ok->y.ok->ah Tryz.prog w0 338 [tm ρ x,tm ρ y] (iv (fR x y)))
  (db:a.length<=1099511627776) (eM:er a) (fc:a'.length<=1099511627776) (mY:er a') (hr:fH k=1):ah Tryz.prog w0 338 [tm ρ ⟨k,i,n,a⟩,tm ρ ⟨k',i',n',a'⟩] (iv (fR ⟨k,i,n,a⟩ ⟨k',i',n',a'⟩)):=by
 have h0:ah Tryz.prog w0 435 [tm ρ ⟨k,i,n,a⟩] (iv 1):=by rw [<-hr];exact mX _
 have h1:ah Tryz.prog w0 435 [tm ρ ⟨k',i',n',a'⟩] (iv (fH k')):=mX _
 rw [fR,hr]
 dsimp only
 refine Cj.aH (by simp [Tryz.ntmps338]) (.v) ?_
 refine gq g9 ?_
 repeat' (first
  |(refine ab.op rfl (ad.ag rfl h0 ⟨bf ⟨k,i,n,a⟩,trivial⟩) ?_;refine gq g9 ?_)
  |(refine ab.int rfl (ad.ag rfl h1 ⟨bf ⟨k',i',n',a'⟩,trivial⟩) fun _ _=>?_;refine gq g9 ?_)
  |(refine ab.int rfl (ad.ag rfl (qJ _ _) ⟨.v,.v,trivial⟩) fun _ _=>?_;refine gq g9 ?_)
  |(refine bq (fun hb=>?_) (fun hb=>?_)<;>(try simp only [aq] at hb)<;>(first|exact absurd hb (by decide)|refine gq g9 ?_))
  |(refine fq ?_))
 all_goals (subst_vars;refine dK ?_;simp only [cR,pJ,true_or,or_true,if_true];(repeat' split)<;>first|rfl|omega)
theorem G5 (k i k' i':Int) (n n':ByteArray) (a a':List Tm) (ih:∀ x ∈ a,∀ y:Tm,x.ok->y.ok->ah Tryz.prog w0 338 [tm ρ x,tm ρ y] (iv (fR x y)))
  (db:a.length<=1099511627776) (eM:er a) (fc:a'.length<=1099511627776) (mY:er a') (hr:fH k=2):ah Tryz.prog w0 338 [tm ρ ⟨k,i,n,a⟩,tm ρ ⟨k',i',n',a'⟩] (iv (fR ⟨k,i,n,a⟩ ⟨k',i',n',a'⟩)):=by
 have h0:ah Tryz.prog w0 435 [tm ρ ⟨k,i,n,a⟩] (iv 2):=by rw [<-hr];exact mX _
 have h1:ah Tryz.prog w0 435 [tm ρ ⟨k',i',n',a'⟩] (iv (fH k')):=mX _
 rw [fR,hr]
 dsimp only
 refine Cj.aH (by simp [Tryz.ntmps338]) (.v) ?_
 refine gq g9 ?_
 repeat' (first
  |(refine ab.op rfl (ad.ag rfl h0 ⟨bf ⟨k,i,n,a⟩,trivial⟩) ?_;refine gq g9 ?_)
  |(refine ab.int rfl (ad.ag rfl h1 ⟨bf ⟨k',i',n',a'⟩,trivial⟩) fun _ _=>?_;refine gq g9 ?_)
  |(refine ab.int rfl (ad.ag rfl (qJ _ _) ⟨.v,.v,trivial⟩) fun _ _=>?_;refine gq g9 ?_)
  |(refine ab.int rfl (ad.ag rfl (z8 _ _) ⟨.v,.v,trivial⟩) fun _ _=>?_;refine gq g9 ?_)
  |(refine ab.int rfl (ad.ag rfl (CR (a:=a) (b:=a') ih eM mY db fc) ⟨bB _,bB _,trivial⟩) fun _ _=>?_;refine gq g9 ?_)
  |(refine bq (fun hb=>?_) (fun hb=>?_)<;>(try simp only [aq] at hb)<;>(first|exact absurd hb (by decide)|refine gq g9 ?_))
  |(refine az fun m hm=>?_;(try rw [af] at hm);refine gq g9 ?_)
  |(refine fq ?_))
 all_goals (subst_vars;refine dK ?_;simp only [cR,pJ,true_or,or_true,if_true];(repeat' split)<;>first|rfl|omega)
theorem G6 (k i k' i':Int) (n n':ByteArray) (a a':List Tm) (ih:∀ x ∈ a,∀ y:Tm,x.ok->y.ok->ah Tryz.prog w0 338 [tm ρ x,tm ρ y] (iv (fR x y)))
  (db:a.length<=1099511627776) (eM:er a) (fc:a'.length<=1099511627776) (mY:er a') (hr:fH k=3):ah Tryz.prog w0 338 [tm ρ ⟨k,i,n,a⟩,tm ρ ⟨k',i',n',a'⟩] (iv (fR ⟨k,i,n,a⟩ ⟨k',i',n',a'⟩)):=by
 have h0:ah Tryz.prog w0 435 [tm ρ ⟨k,i,n,a⟩] (iv 3):=by rw [<-hr];exact mX _
 have h1:ah Tryz.prog w0 435 [tm ρ ⟨k',i',n',a'⟩] (iv (fH k')):=mX _
 rw [fR,hr]
 dsimp only
 refine Cj.aH (by simp [Tryz.ntmps338]) (.v) ?_
 refine gq g9 ?_
 repeat' (first
  |(refine ab.op rfl (ad.ag rfl h0 ⟨bf ⟨k,i,n,a⟩,trivial⟩) ?_;refine gq g9 ?_)
  |(refine ab.int rfl (ad.ag rfl h1 ⟨bf ⟨k',i',n',a'⟩,trivial⟩) fun _ _=>?_;refine gq g9 ?_)
  |(refine ab.int rfl (ad.ag rfl (qJ _ _) ⟨.v,.v,trivial⟩) fun _ _=>?_;refine gq g9 ?_)
  |(refine ab.int rfl (ad.ag rfl (z8 _ _) ⟨.v,.v,trivial⟩) fun _ _=>?_;refine gq g9 ?_)
  |(refine bq (fun hb=>?_) (fun hb=>?_)<;>(try simp only [aq] at hb)<;>(first|exact absurd hb (by decide)|refine gq g9 ?_))
  |(refine fq ?_))
 all_goals (subst_vars;refine dK ?_;simp only [cR,pJ,true_or,or_true,if_true];(repeat' split)<;>first|rfl|omega)
theorem MD (k:Int):fH k=0\/fH k=1\/fH k=2\/fH k=3:=by
 unfold fH
 (repeat' split)<;>simp
theorem yL (x y:Tm) (hx:x.ok) (hy:y.ok):ah Tryz.prog w0 338 [tm ρ x,tm ρ y] (iv (fR x y)):=by
 revert y hx hy
 refine Tm.ind (p:=fun x=>∀ y:Tm,x.ok->y.ok->ah Tryz.prog w0 338 [tm ρ x,tm ρ y] (iv (fR x y))) ?_ x
 intro k i n a ih y hx hy
 obtain⟨db,eH,eM⟩:=hx.out
 obtain⟨fc,ft,mY⟩:=hy.out
 obtain⟨k',i',n',a'⟩:=y
 rcases MD k with h|h|h|h
 ·exact G3 k i k' i' n n' a a' ih db eM fc mY h
 ·exact G4 k i k' i' n n' a a' ih db eM fc mY h
 ·exact G5 k i k' i' n n' a a' ih db eM fc mY h
 ·exact G6 k i k' i' n n' a a' ih db eM fc mY h
theorem KB (a b:List Tm) (yK:er a) (s5:er b) (hl:a.length<=1099511627776) (hn:a.length=b.length):ah Tryz.prog w0 265 [tl ρ a,tl ρ b] (iv (e_ a b)):=Ft (fun x _ y hx hy=>A9 x y hx hy) yK s5 hl hn
theorem Fu (a b:List Tm) (yK:er a) (s5:er b) (hl:a.length<=1099511627776) (ef:b.length<=1099511627776):ah Tryz.prog w0 343 [tl ρ a,tl ρ b] (iv (e_ a b)):=CR (fun x _ y hx hy=>yL x y hx hy) yK s5 hl ef
theorem U0 (x y:Tm) (hx:x.ok) (hy:y.ok):ah Tryz.prog w0 271 [tm ρ x,tm ρ y] (.v (.bool (fR x y == 0))):=by
 refine Zc.aH (by simp [Tryz.ntmps271]) (.v) ?_
 refine gq My ?_
 repeat' (first
  |(refine ab.int rfl (ad.ag rfl (A9 (ρ:=ρ) x y hx hy) ⟨bf _,bf _,trivial⟩) fun _ _=>?_;refine gq My ?_)
  |(refine bq (fun hb=>?_) (fun hb=>?_)<;>(try simp only [aq] at hb)<;>(first|refine gq My ?_))
  |(refine fq ?_))
 all_goals (refine aX.of_eq ?_;simp_all)
theorem Tq (x y:Tm) (hx:x.ok) (hy:y.ok):ah Tryz.prog w0 217 [tm ρ x,tm ρ y] (.v (.bool (fR x y == 0))):=by
 refine Zg.aH (by simp [Tryz.ntmps217]) (.v) ?_
 refine gq MA ?_
 repeat' (first
  |(refine ab.int rfl (ad.ag rfl (yL (ρ:=ρ) x y hx hy) ⟨bf _,bf _,trivial⟩) fun _ _=>?_;refine gq MA ?_)
  |(refine bq (fun hb=>?_) (fun hb=>?_)<;>(try simp only [aq] at hb)<;>(first|refine gq MA ?_))
  |(refine fq ?_))
 all_goals (refine aX.of_eq ?_;simp_all)
theorem KC (a b:List Tm) (yK:er a) (s5:er b) (hl:a.length<=1099511627776) (ef:b.length<=1099511627776):ah Tryz.prog w0 225 [tl ρ a,tl ρ b] (.v (.bool (e_ a b == 0))):=by
 refine Zh.aH (by simp [Tryz.ntmps225]) (.v) ?_
 refine gq MB ?_
 repeat' (first
  |(refine ab.int rfl (ad.ag rfl (Fu a b yK s5 hl ef) ⟨bB _,bB _,trivial⟩) fun _ _=>?_;refine gq MB ?_)
  |(refine bq (fun hb=>?_) (fun hb=>?_)<;>(try simp only [aq] at hb)<;>(first|refine gq MB ?_))
  |(refine fq ?_))
 all_goals (refine aX.of_eq ?_;simp_all)
def At.ok (x:At):Prop:=x.a.length<=1099511627776/\er x.a
def Gl.ok (x:Gl):Prop:=x.a.length<=1099511627776/\er x.a
theorem Ps (x y:Int):ah Tryz.prog w0 355 [bY .plain bJ false [x,y]] (iv (pJ [x,y])):=UZ [x,y] (by simp [CQ])
theorem G7 (x y:At) (hx:x.ok) (hy:y.ok):ah Tryz.prog w0 371 [at_ ρ x,at_ ρ y] (iv (sM x y)):=by
 obtain⟨db,eH⟩:=hx
 obtain⟨fc,ft⟩:=hy
 obtain⟨n,a⟩:=x
 obtain⟨n',a'⟩:=y
 dsimp only at db eH fc ft
 rw [sM]
 dsimp only
 refine Zd.aH (by simp [Tryz.ntmps371]) (.v) ?_
 refine gq xO ?_
 repeat' (first
  |(refine ab.int rfl (ad.ag rfl (yJ _ _) ⟨.v,.v,trivial⟩) fun _ _=>?_;refine gq xO ?_)
  |(refine ab.int rfl (ad.ag rfl (Ky _ _) ⟨.v,.v,trivial⟩) fun _ _=>?_;refine gq xO ?_)
  |(refine ab.int rfl (ad.nt rfl (Ps _ _) ⟨bR _,trivial⟩ ⟨Wk.sl,trivial⟩) fun _ _=>?_;refine gq xO ?_)
  |(refine ab.int rfl (ad.ag rfl (KB a a' eH ft db (by subst_vars;simp only [pJ] at *;have:=r5 (a:=a.length) (b:=a'.length);have:=r5 (a:=a.length) (b:=a'.length) (by (repeat' split at *)<;>omega);omega)) ⟨bB _,bB _,trivial⟩) fun _ _=>?_;refine gq xO ?_)
  |(refine bq (fun hb=>?_) (fun hb=>?_)<;>(try simp only [aq] at hb)<;>(first|refine gq xO ?_))
  |(refine az fun m hm=>?_;(try rw [af] at hm);refine gq xO ?_)
  |(refine fq ?_))
 all_goals (subst_vars;refine dK ?_;simp only [cR,pJ] at *;(repeat' split at *)<;>first|rfl|omega)
theorem ET (x y:At) (hx:x.ok) (hy:y.ok):ah Tryz.prog w0 337 [at_ ρ x,at_ ρ y] (iv (sM x y)):=by
 obtain⟨db,eH⟩:=hx
 obtain⟨fc,ft⟩:=hy
 obtain⟨n,a⟩:=x
 obtain⟨n',a'⟩:=y
 dsimp only at db eH fc ft
 rw [sM]
 dsimp only
 refine Zi.aH (by simp [Tryz.ntmps337]) (.v) ?_
 refine gq z9 ?_
 repeat' (first
  |(refine ab.int rfl (ad.ag rfl (qJ _ _) ⟨.v,.v,trivial⟩) fun _ _=>?_;refine gq z9 ?_)
  |(refine ab.int rfl (ad.ag rfl (z8 _ _) ⟨.v,.v,trivial⟩) fun _ _=>?_;refine gq z9 ?_)
  |(refine ab.int rfl (ad.ag rfl (Fu a a' eH ft db fc) ⟨bB _,bB _,trivial⟩) fun _ _=>?_;refine gq z9 ?_)
  |(refine bq (fun hb=>?_) (fun hb=>?_)<;>(try simp only [aq] at hb)<;>(first|refine gq z9 ?_))
  |(refine az fun m hm=>?_;(try rw [af] at hm);refine gq z9 ?_)
  |(refine fq ?_))
 all_goals (subst_vars;refine dK ?_;simp only [cR,pJ,true_or,or_true,if_true];(repeat' split)<;>first|rfl|omega)
theorem Ts (x y:At) (hx:x.ok) (hy:y.ok):ah Tryz.prog w0 268 [at_ ρ x,at_ ρ y] (.v (.bool (sM x y == 0))):=by
 refine Ze.aH (by simp [Tryz.ntmps268]) (.v) ?_
 refine gq Mz ?_
 repeat' (first
  |(refine ab.int rfl (ad.ag rfl (G7 (ρ:=ρ) x y hx hy) ⟨cX _,cX _,trivial⟩) fun _ _=>?_;refine gq Mz ?_)
  |(refine bq (fun hb=>?_) (fun hb=>?_)<;>(try simp only [aq] at hb)<;>(first|refine gq Mz ?_))
  |(refine fq ?_))
 all_goals (refine aX.of_eq ?_;simp_all)
theorem MF (x y:At) (hx:x.ok) (hy:y.ok):ah Tryz.prog w0 216 [at_ ρ x,at_ ρ y] (.v (.bool (sM x y == 0))):=by
 refine Zj.aH (by simp [Tryz.ntmps216]) (.v) ?_
 refine gq MC ?_
 repeat' (first
  |(refine ab.int rfl (ad.ag rfl (ET (ρ:=ρ) x y hx hy) ⟨cX _,cX _,trivial⟩) fun _ _=>?_;refine gq MC ?_)
  |(refine bq (fun hb=>?_) (fun hb=>?_)<;>(try simp only [aq] at hb)<;>(first|refine gq MC ?_))
  |(refine fq ?_))
 all_goals (refine aX.of_eq ?_;simp_all)
theorem Tt (x y:Gl) (hx:x.ok) (hy:y.ok):ah Tryz.prog w0 141 [gl ρ x,gl ρ y] (.v (.bool (r6 x y))):=by
 obtain⟨db,eH⟩:=hx
 obtain⟨fc,ft⟩:=hy
 obtain⟨o,n,a⟩:=x
 obtain⟨o',n',a'⟩:=y
 dsimp only at db eH fc ft
 rw [r6]
 dsimp only
 refine Zf.aH (by simp [Tryz.ntmps141]) (.v) ?_
 refine gq G1 ?_
 repeat' (first
  |(refine ab.int rfl (ad.ag rfl (KB a a' eH ft db (by omega)) ⟨bB _,bB _,trivial⟩) fun _ _=>?_;refine gq G1 ?_)
  |(refine bq (fun hb=>?_) (fun hb=>?_)<;>(try simp only [aq] at hb)<;>(first|refine gq G1 ?_))
  |(refine az fun m hm=>?_;(try rw [af] at hm);refine gq G1 ?_)
  |(refine fq ?_))
 all_goals (refine aX.of_eq ?_;subst_vars;simp_all)
theorem MG (x y:Gl) (hx:x.ok) (hy:y.ok):ah Tryz.prog w0 107 [gl ρ x,gl ρ y] (.v (.bool (r6 x y))):=by
 obtain⟨db,eH⟩:=hx
 obtain⟨fc,ft⟩:=hy
 obtain⟨o,n,a⟩:=x
 obtain⟨o',n',a'⟩:=y
 dsimp only at db eH fc ft
 rw [r6]
 dsimp only
 refine Zk.aH (by simp [Tryz.ntmps107]) (.v) ?_
 refine gq G2 ?_
 repeat' (first
  |(refine ab.bif rfl (ad.ag rfl (KC a a' eH ft db fc) ⟨bB _,bB _,trivial⟩) (fun _=>?_) (fun _=>?_)<;>refine gq G2 ?_)
  |(refine bq (fun hb=>?_) (fun hb=>?_)<;>(try simp only [aq] at hb)<;>(first|refine gq G2 ?_))
  |(refine az fun m hm=>?_;(try rw [af] at hm);refine gq G2 ?_)
  |(refine fq ?_))
 all_goals (refine aX.of_eq ?_;subst_vars;simp_all)
end
end
end Go.Proofs.YtgphljokbodciaaGreat
