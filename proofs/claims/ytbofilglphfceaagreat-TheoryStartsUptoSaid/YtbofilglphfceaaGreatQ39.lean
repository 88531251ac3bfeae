import Derived.Test.YtbofilglphfceaaGreatQ38
namespace Go.Proofs.YtbofilglphfceaaGreat
set_option linter.unusedVariables false
set_option linter.unusedSimpArgs false
open Go.RowKit
section
set_option maxRecDepth 100000
attribute [local irreducible] ah bc ad ab
def U9:CF Tryz.f38:=⟨_,by conv=>lhs;cbv⟩
theorem ab4:aH Tryz.prog 38 U9.1 Tryz.f38.ntmps:=aQ Tryz.func38 U9.2 Tryz.call38
def qB:List Nat:=[5,0,1,4,10,14,26]
section
variable {w0:World}{ρ:Hd}
theorem oq {a:AV}:Wk a a:=fun _ _ _ h=>h
theorem j9 (g:FuncId):Pure (.fn (.func g) [] []):=.fn (fun a ha=>by cases ha) fun a ha=>by cases ha
theorem Eb (a b:List Im) (ha:a.length<=1099511627776) (fL:b.length<=1099511627776) (o8:∀ x ∈ a,x.ok) (lU:∀ x ∈ b,x.ok):ah Tryz.prog w0 63 [fJ ρ a,fJ ρ b] (.v (.bool (cR nX a b))):=by
 have hE:=Xt (w0:=w0) (ρ:=ρ) nX a b 138 [] [] ha fL (j9 _) fun x hx y hy=>⟨_,_,rfl,⟨nH x,nH y,trivial⟩,U6 x y (o8 x hx) (lU y hy)⟩
 obtain⟨R,hR⟩:∃ R,R=cR nX a b:=⟨_,rfl⟩
 rw [<-hR] at hE ⊢
 clear hR o8 lU
 refine ab0.aG (by simp [Tryz.ntmps63]) (.v) ?_
 refine gq g63 ?_
 repeat' (first
  |(refine ab.a_ rfl (ad.mP rfl hE ⟨cb _,cb _,j9 _,trivial⟩ ⟨oq,oq,yJ,trivial⟩) (fun _=>?_) (fun _=>?_)<;>refine gq g63 ?_)
  |(refine fq ?_))
 all_goals (rw [show R=_ by assumption];exact aC rfl)
theorem Ec (a b:List Bd) (ha:a.length<=1099511627776) (fL:b.length<=1099511627776) (o8:∀ x ∈ a,x.ok) (lU:∀ x ∈ b,x.ok):ah Tryz.prog w0 64 [eJ ρ a,eJ ρ b] (.v (.bool (cR nY a b))):=by
 have hE:=Xu (w0:=w0) (ρ:=ρ) nY a b 141 [] [] ha fL (j9 _) fun x hx y hy=>⟨_,_,rfl,⟨pH x,pH y,trivial⟩,U7 x y (o8 x hx) (lU y hy)⟩
 obtain⟨R,hR⟩:∃ R,R=cR nY a b:=⟨_,rfl⟩
 rw [<-hR] at hE ⊢
 clear hR o8 lU
 refine ab1.aG (by simp [Tryz.ntmps64]) (.v) ?_
 refine gq g64 ?_
 repeat' (first
  |(refine ab.a_ rfl (ad.mP rfl hE ⟨bT _,bT _,j9 _,trivial⟩ ⟨oq,oq,yJ,trivial⟩) (fun _=>?_) (fun _=>?_)<;>refine gq g64 ?_)
  |(refine fq ?_))
 all_goals (rw [show R=_ by assumption];exact aC rfl)
theorem GH (a b:List Fi) (ha:a.length<=1099511627776) (fL:b.length<=1099511627776) (o8:∀ x ∈ a,x.ok) (lU:∀ x ∈ b,x.ok):ah Tryz.prog w0 65 [gO ρ a,gO ρ b] (.v (.bool (cR nZ a b))):=by
 have hE:=Xv (w0:=w0) (ρ:=ρ) nZ a b 144 [] [] ha fL (j9 _) fun x hx y hy=>⟨_,_,rfl,⟨eu x,eu y,trivial⟩,U8 x y (o8 x hx) (lU y hy)⟩
 obtain⟨R,hR⟩:∃ R,R=cR nZ a b:=⟨_,rfl⟩
 rw [<-hR] at hE ⊢
 clear hR o8 lU
 refine ab2.aG (by simp [Tryz.ntmps65]) (.v) ?_
 refine gq g65 ?_
 repeat' (first
  |(refine ab.a_ rfl (ad.mP rfl hE ⟨cJ _,cJ _,j9 _,trivial⟩ ⟨oq,oq,yJ,trivial⟩) (fun _=>?_) (fun _=>?_)<;>refine gq g65 ?_)
  |(refine fq ?_))
 all_goals (rw [show R=_ by assumption];exact aC rfl)
set_option maxHeartbeats 2000000 in
theorem Ev (s t:dP) (hs:v8 s) (ht:v8 t):ah Tryz.prog w0 14 [r5 ρ s,r5 ρ t] (.v (.bool (pb s t))):=by
 have hG:=OC (w0:=w0) (ρ:=ρ) iy s.goals t.goals 62 [] [] hs.gl ht.gl (j9 _) fun x hx y hy=>⟨_,_,rfl,⟨dy x,dy y,trivial⟩,EH x y ⟨(hs.gx x hx).1.len,(hs.gx x hx).1.1⟩ ⟨(ht.gx y hy).1.len,(ht.gx y hy).1.1⟩⟩
 have hK:=OC (w0:=w0) (ρ:=ρ) iy s.known t.known 62 [] [] hs.kl ht.kl (j9 _) fun x hx y hy=>⟨_,_,rfl,⟨dy x,dy y,trivial⟩,EH x y ⟨(hs.kx x hx).1.len,(hs.kx x hx).1.1⟩ ⟨(ht.kx y hy).1.len,(ht.kx y hy).1.1⟩⟩
 have hM:=Eb (w0:=w0) (ρ:=ρ) s.store t.store hs.st ht.st hs.sx ht.sx
 have hB:=Ec (w0:=w0) (ρ:=ρ) s.binds t.binds hs.bl ht.bl hs.bx ht.bx
 have hF:=GH (w0:=w0) (ρ:=ρ) s.cg t.cg hs.fl ht.fl hs.fx ht.fx
 obtain⟨R,hR⟩:∃ R,R=pb s t:=⟨_,rfl⟩
 rw [<-hR]
 unfold pb at hR
 obtain⟨x1,h1⟩:∃ b,b=cR iy s.goals t.goals:=⟨_,rfl⟩
 obtain⟨x2,h2⟩:∃ b,b=cR nX s.store t.store:=⟨_,rfl⟩
 obtain⟨x3,h3⟩:∃ b,b=cR nY s.binds t.binds:=⟨_,rfl⟩
 obtain⟨x4,h4⟩:∃ b,b=cR nZ s.cg t.cg:=⟨_,rfl⟩
 obtain⟨x5,h5⟩:∃ b,b=cR iy s.known t.known:=⟨_,rfl⟩
 rw [<-h1,<-h2,<-h3,<-h4,<-h5] at hR
 rw [<-h1] at hG
 rw [<-h2] at hM
 rw [<-h3] at hB
 rw [<-h4] at hF
 rw [<-h5] at hK
 clear h1 h2 h3 h4 h5 hs ht
 obtain⟨goals,store,binds,cg,known,next,fresh,failed⟩:=s
 obtain⟨U_,Va,Vb,Vc,Vd,next',u0,zR⟩:=t
 dsimp only at hR hG hK hM hB hF
 refine ab3.aG (by simp [Tryz.ntmps14]) (.v) ?_
 refine gq De ?_
 repeat' (first
  |(refine ab.a_ rfl (ad.mP rfl hG ⟨bw _,bw _,j9 _,trivial⟩ ⟨oq,oq,yJ,trivial⟩) (fun _=>?_) (fun _=>?_)<;>refine gq De ?_)
  |(refine ab.a_ rfl (ad.ag rfl hM ⟨cb _,cb _,trivial⟩) (fun _=>?_) (fun _=>?_)<;>refine gq De ?_)
  |(refine ab.a_ rfl (ad.ag rfl hB ⟨bT _,bT _,trivial⟩) (fun _=>?_) (fun _=>?_)<;>refine gq De ?_)
  |(refine ab.a_ rfl (ad.ag rfl hF ⟨cJ _,cJ _,trivial⟩) (fun _=>?_) (fun _=>?_)<;>refine gq De ?_)
  |(refine ab.a_ rfl (ad.mP rfl hK ⟨bw _,bw _,j9 _,trivial⟩ ⟨oq,oq,yJ,trivial⟩) (fun _=>?_) (fun _=>?_)<;>refine gq De ?_)
  |(refine bq (fun hb=>?_) (fun hb=>?_)<;>(try simp only [aq] at hb)<;>(first|refine gq De ?_))
  |(refine fq ?_))
 all_goals first
  |(refine aC ?_;rw [hR,show x1=false by assumption];rfl)
  |(refine aC ?_;rw [hR,show x2=false by assumption];simp;done)
  |(refine aC ?_;rw [hR,show x3=false by assumption];simp;done)
  |(refine aC ?_;rw [hR,show x4=false by assumption];simp;done)
  |(refine aC ?_;rw [hR,show x5=false by assumption];simp;done)
  |(refine aC ?_;rw [hR,show (next == next')=false from beq_eq_false_iff_ne.2 (by omega)];simp;done)
  |(refine aC ?_;rw [hR,show (fresh == u0)=false from beq_eq_false_iff_ne.2 (by omega)];simp;done)
  |(rw [show x1=true by assumption,show x2=true by assumption,show x3=true by assumption,show x4=true by assumption,show x5=true by assumption,show (next == next')=true from beq_iff_eq.2 (by omega),show (fresh == u0)=true from beq_iff_eq.2 (by omega)] at hR
    refine aC ?_;rw [hR];cases failed<;>cases zR<;>simp_all;done)
end
end
section
variable {P:Program}{w0:World}{n:Nat}{α:AA}{S S' N:ae}{r:AV}
theorem St.Eu {A:Nat->Prop}{g:Gh}{w:World}(hS:St w0 A g S w) (hN:∀ k o,N.get k=some o->S.get k=some o) (hx:S.nx<=S'.nx) (h':∀ k o,S'.get k=some o->S.get k=some o/\N.get k=none) :
  Ext A g w (g.still N) w/\St w0 A (g.still N) S' w:=by
 have An:∀ b q,(g.still N).fz b q ↔ (g.fz b q\/∃ k sz rows fz ex,N.get k=some (.arr sz rows fz ex)/\g.al k/\b=g.ob k/\q < rows.length*sz):=fun b q=>Iff.rfl
 have hL:Later g w (g.still N) w:=⟨fun _ h=>h,fun _ _=>rfl,fun _ _=>rfl,fun b q h=>.inl h,fun _ _ _=>rfl⟩
 have R_:∀ k o q,S'.get k=some o->g.al k->(g.still N).fz (g.ob k) q->g.fz (g.ob k) q:=fun k o q hk ha hq=>by
  rcases (An _ q).1 hq with hq|⟨j,sz,rows,fz,ex,hj,bN,e,_⟩
  ·exact hq
  ·obtain⟨k1,k2⟩:=h' k o hk
   have:=hS.inj k j _ _ k1 (hN j _ hj) ha bN e
   rw [this,hj] at k2
   cases k2
 refine⟨{ hL with size:=Nat.le_refl _,aV:=fun _ _ _=>rfl,f_:=fun b q hq=>?_ },⟨hS.base,hS.up,hS.lo,fun k hk=>Nat.lt_of_lt_of_le (hS.al k hk) hx,fun k o hk ha=>?_,fun i j o p hi hj ai aj e=>hS.inj i j o p (h' i o hi).1 (h' j p hj).1 ai aj e,fun b q hq=>?_,fun b q hb=>.inl (hS.mL b q hb),
  fun k J hk ha c hc=>hS.gX k J (h' k _ hk).1 ha c hc,fun k J j o hk ha hj aj bG hc=>hS.jE k J j o (h' k _ hk).1 ha (h' j o hj).1 aj bG hc,fun j k J J' hj hk aj ak=>hS.lP j k J J' (h' j _ hj).1 (h' k _ hk).1 aj ak⟩⟩
 ·rcases (An b q).1 hq with hq|⟨k,sz,rows,fz,ex,hk,bN,rfl,_⟩
  ·exact .inl hq
  ·exact .inr (hS.cC k _ (hN k _ hk) bN).1
 ·obtain⟨k2,k3,k4⟩:=hS.cC k o (h' k o hk).1 ha
  refine⟨k2,k3,k4.later hL rfl (fun q hq=>R_ k o q hk ha hq) fun J hJ=>⟨rfl,Nat.le_refl _,fun _ _=>rfl,fun c q hc hq=>?_⟩⟩
  rcases (An c q).1 hq with hq|⟨j,sz,rows,fz,ex,hj,bN,rfl,_⟩
  ·exact hq
  ·subst hJ
   refine absurd hc (hS.jE k J j _ (h' k _ hk).1 ha (hN j _ hj) bN fun e=>?_)
   have:=(h' k _ hk).2
   rw [<-e,hj] at this
   cases this
 ·rcases (An b q).1 hq with hq|⟨k,sz,rows,fz,ex,hk,bN,rfl,_⟩
  ·exact hS.cG b q hq
  ·exact (hS.cC k _ (hN k _ hk) bN).2.1
theorem ov.Eu {k:Nat}{args bL:List AV}{S'':ae}(hN:∀ k o,N.get k=some o->S.get k=some o) (hx:S.nx<=S'.nx) (h':∀ k o,S'.get k=some o->S.get k=some o/\N.get k=none) (hf:ff N args bL) (h:ov P w0 k bL S' r S''):ov P w0 k args S r S'':=by
 intro F m A g xs w hF hS bN hA
 obtain⟨hE,gR⟩:=hS.Eu hN hx h'
 have hSN:St w0 A g N w->True:=fun _=>trivial
 have w_:jm (g.still N) w bL xs:=by
  refine⟨hA.1.trans hf.len,fun i a x ha hx=>?_⟩
  have hi:i < args.length:=by rw [hf.len];exact (List.getElem?_eq_some_iff.1 ha).1
  have h0:=List.getElem?_eq_getElem hi
  have Ve:St w0 A g ⟨N.get,S.nx⟩ w:=hS.forget (Nat.le_refl _) fun j p hj _=>hN j p hj
  have hr:=(hf.at i _ a h0 ha)
  exact (hr.mono (S:=N) (T:=⟨N.get,S.nx⟩) fun _ _ _ _ _ h=>h).rep Ve (hA.2 i _ x h0 hx)
 obtain⟨l,f,tmps,assign,body,h1,h2⟩:=h F m A (g.still N) xs w hF gR bN w_
 refine⟨l,f,tmps,assign,body,h1,RoundIn.mono h2 ?_⟩
 rintro e w' ⟨v,g',rfl,k1,k2,k3⟩
 exact⟨v,g',rfl,k1,k2,hE.trans k3⟩
theorem Cv.ab5 {t:Nat}{a':AV}(hN:∀ k o,N.get k=some o->S.get k=some o) (hx:S.nx<=S'.nx) (h':∀ k o,S'.get k=some o->S.get k=some o/\N.get k=none) (ht:α.tm t ≠ .u) (hf:aU N (α.tm t) a'):Cv w0 n α S ⟨bO α.tm t a',α.df⟩ S':=by
 intro A g q w hS hA
 obtain⟨hE,gR⟩:=hS.Eu hN hx h'
 have Ve:St w0 A g ⟨N.get,S.nx⟩ w:=hS.forget (Nat.le_refl _) fun j p hj _=>hN j p hj
 have au:t < n:=by
  rcases Nat.lt_or_ge t n with h1|h1
  ·exact h1
  ·exact absurd (hA.out t h1) ht
 refine⟨g.still N,gR,(hA.later hE.toLater).slot ht ?_,hE⟩
 exact (hf.mono (S:=N) (T:=⟨N.get,S.nx⟩) fun _ _ _ _ _ h=>h).rep Ve (hA.tm t au)
end
def u4 (F:AV->List Nat):List AV->List Nat
 |[]=>[]
 |a::l=>F a++u4 F l
def GI (F:AV->List Nat):List (List AV)->List Nat
 |[]=>[]
 |a::l=>u4 F a++GI F l
def u5 (S:ae):Nat->AV->List Nat
 |0,_=>[]
 |m+1,a=>match a with
  |.agg l|.bg l|.ip l=>u4 (u5 S m) l
  |.sl _ rows=>GI (u5 S m) rows
  |.fn _ l c=>u4 (u5 S m) l++u4 (u5 S m) c
  |.ob k _ _ _ _|.pt k _ _ _|.gr k _ _=>match S.get k with
   |some (.arr _ rows _ _)=>k::GI (u5 S m) rows
   |_=>[]
  |_=>[]
def jn (k:Nat):List Nat->Bool
 |[]=>false
 |j::l=>match Nat.beq j k with|true=>true|false=>jn k l
def Mi (K:List Nat) (S:ae):ae:=⟨fun k=>match jn k K with|true=>S.get k|false=>none,S.nx⟩
def rz (s:XS):List Nat->XS
 |[]=>s
 |k::ks=>rz (lD s k none) ks
theorem Fk:∀ {K:List Nat}{s:XS}{k:Nat},fS (rz s K) k=if jn k K=true then none else fS s k
 |[],s,k=>by simp [rz,jn]
 |j::K,s,k=>by
  rw [rz,Fk]
  simp only [jn]
  have e:fS (lD s j none) k=if k=j then none else fS s k:=by
   unfold fS lD
   simp only [kM]
   by_cases e:k=j
   ·rw [if_pos e,if_pos e]
   ·rw [if_neg e,if_neg e]
  rw [e]
  by_cases Kb:k=j
  ·subst Kb
   simp [Nat.beq_refl]
  ·have hb:Nat.beq j k=false:=by
    cases hb:Nat.beq j k with
    |true=>exact absurd (Nat.eq_of_beq_eq_true hb).symm Kb
    |false=>rfl
   simp [hb,Kb]
theorem zS:∀ {K:List Nat}{s:XS},dU s (rz s K)/\(rz s K).lg=s.lg/\(rz s K).nx=s.nx/\(rz s K).yk=s.yk/\(rz s K).an=s.an
 |[],s=>⟨.refl _,rfl,rfl,rfl,rfl⟩
 |j::K,s=>by
  obtain⟨h1,h2,h3,h4,h5⟩:=zS (K:=K) (s:=lD s j none)
  exact⟨dU.wr.trans h1,h2,h3,h4,h5⟩
theorem Mj {K:List Nat}{J:FJ}{s:XS}{k:Nat}{o:Ob}(h:(Mi K (ez s)).get k=some o):jn k K=true/\dZ s.yk k=false/\(den J s).get k=some o:=by
 have h:(match jn k K with|true=>(ez s).get k|false=>none)=some o:=h
 cases e:jn k K with
 |true=>rw [e] at h;obtain⟨h1,h2⟩:=du (J:=J) h;exact⟨rfl,h2,h1⟩
 |false=>rw [e] at h;cases h
theorem Rs {K:List Nat}{J:FJ}{s:XS}{k:Nat}{o:Ob}(h:(den J (rz s K)).get k=some o):(den J s).get k=some o/\(Mi K (ez s)).get k=none:=by
 have h:(match dZ (rz s K).yk k with|true=>some (Ob.fo J)|false=>fS (rz s K) k)=some o:=h
 rw [zS.2.2.2.1] at h
 show (match dZ s.yk k with|true=>some (Ob.fo J)|false=>fS s k)=some o/\(match jn k K with|true=>(match dZ s.yk k with|true=>none|false=>fS s k)|false=>none)=none
 cases e:dZ s.yk k with
 |true=>rw [e] at h;exact⟨h,by cases jn k K<;>rfl⟩
 |false =>
  rw [e] at h
  have h:fS (rz s K) k=some o:=h
  rw [Fk] at h
  cases e2:jn k K with
  |true=>rw [e2] at h;simp at h
  |false=>rw [e2] at h;simp at h;exact⟨h,rfl⟩
def GJ (s:XS) (aZ9:List AV):Option (List AV × XS):=match fD (iA 60) aZ9 with
 |true=>some (aZ9,s)
 |false=>match jW (fT (Mi (u4 (u5 (ez s) 60) aZ9) (ez s)) 60) aZ9 with
  |some qC=>some (qC,rz s (u4 (u5 (ez s) 60) aZ9))
  |none=>none
theorem u6 {S:ae}{m:Nat}:∀ {l l':List AV},jW (fT S m) l=some l'->ff S l l'/\db l'
 |[],l',h=>by obtain rfl:=Option.some.inj h;exact⟨trivial,trivial⟩
 |b::l,l',h=>by
  simp only [jW] at h
  split at h
  ·rename_i b' hb
   split at h
   ·rename_i m hm
    obtain rfl:=Option.some.inj h
    obtain⟨h1,h2⟩:=u6 hm
    obtain⟨h3,h4⟩:=pv hb
    exact⟨⟨h3,h1⟩,⟨h4,h2⟩⟩
   ·cases h
  ·cases h
theorem yK {s s':XS}{aZ9 qC:List AV}(h:GJ s aZ9=some (qC,s')):∃ N:ae,(∀ J k o,N.get k=some o->(den J s).get k=some o)/\(∀ J k o,(den J s').get k=some o->(den J s).get k=some o/\N.get k=none)/\ff N aZ9 qC/\db qC/\dU s s'/\s'.lg=s.lg/\s'.nx=s.nx/\s'.yk=s.yk/\s'.an=s.an:=by
 unfold GJ at h
 split at h
 ·rename_i hp
  simp only [Option.some.injEq,Prod.mk.injEq] at h
  obtain⟨rfl,rfl⟩:=h
  exact⟨ae.none_,fun J k o h=>(by cases h),fun J k o h=>⟨h,rfl⟩,ff.refl _ _,ti hp,.refl _,rfl,rfl,rfl,rfl⟩
 ·split at h
  ·rename_i as1 hf
   simp only [Option.some.injEq,Prod.mk.injEq] at h
   obtain⟨rfl,rfl⟩:=h
   obtain⟨h1,h2⟩:=u6 hf
   obtain⟨k1,k2,k3,k4,k5⟩:=zS (K:=u4 (u5 (ez s) 60) aZ9) (s:=s)
   exact⟨_,fun J k o h=>(Mj h).2.2,fun J k o h=>Rs h,h1,h2,k1,k2,k3,k4,k5⟩
  ·cases h
def rX (B:Nat):Nat->AV->Bool
 |0,_=>false
 |m+1,a=>match a with
  |.u|.v _=>true
  |.agg l|.bg l|.ip l=>fD (rX B m) l
  |.sl _ rows=>qq (rX B m) rows
  |.fn _ l c=>match fD (rX B m) l with|true=>fD (rX B m) c|false=>false
  |.ob k _ _ _ _|.pt k _ _ _|.mp k|.yl k|.gr k _ _=>Nat.blt k B
theorem je {B:Nat}:∀ {m:Nat}{a:AV},rX B m a=true->dH B a
 |0,a,h=>by cases h
 |m+1,a,h=>by
  cases a with
  |u=>exact .u
  |v x=>exact .v
  |agg l=>exact .agg fun a ha=>je (dF h a ha)
  |bg l=>exact .bg fun a ha=>je (dF h a ha)
  |ip l=>exact .ip fun a ha=>je (dF h a ha)
  |sl ex rows=>exact .sl fun r hr a ha=>je (jX h r hr a ha)
  |fn f l c =>
   simp only [rX] at h
   split at h
   ·rename_i h1
    exact .fn (fun a ha=>je (dF h1 a ha)) (fun a ha=>je (dF h a ha))
   ·cases h
  |ob=>exact .ob (dR h)
  |pt=>exact .pt (dR h)
  |mp=>exact .mp (dR h)
  |yl=>exact .yl (dR h)
  |gr=>exact .gr (dR h)
def GK (B:Nat):List (Value × AV)->Bool
 |[]=>true
 |p::l=>match rX B 60 p.2 with|true=>GK B l|false=>false
theorem Df {B:Nat}:∀ {l:List (Value × AV)},GK B l=true->∀ p ∈ l,dH B p.2
 |[],_,a,h=>by cases h
 |b::l,hp,a,h=>by
  simp only [GK] at hp
  split at hp
  ·rename_i hb
   rcases List.mem_cons.1 h with rfl|h
   ·exact je hb
   ·exact Df hp a h
  ·cases hp
def Mk (B:Nat):Ob->Bool
 |.arr _ rows _ _=>qq (rX B 60) rows
 |.mp es=>GK B es
 |.df|.si _ _|.un=>true
 |_=>false
theorem Dg {B:Nat}{o:Ob}(h:Mk B o=true):oy B o:=by
 cases o with
 |arr sz rows fz ex=>exact fun r hr a ha=>je (jX h r hr a ha)
 |mp es=>exact Df h
 |df=>trivial
 |si=>trivial
 |un=>trivial
 |_=>cases h
def Vf (m:List (Nat × Nat)) (k:Nat):Option Nat:=match m with
 |[]=>none
 |p::m=>match Nat.beq p.2 k with|true=>some p.1|false=>Vf m k
def zT (B N:Nat) (m:List (Nat × Nat)) (k:Nat):Option Nat:=match Vf m k with
 |some j=>match Nat.beq k (cW B (bX m) j) && Nat.blt j N with
  |true=>some j
  |false=>none
 |none=>none
theorem mC {B N:Nat}{m:List (Nat × Nat)}{k j:Nat}(h:zT B N m k=some j):k=cW B (bX m) j/\Nat.blt j N=true:=by
 unfold zT at h
 split at h
 ·split at h
  ·rename_i hb
   simp only [Bool.and_eq_true] at hb
   obtain rfl:=Option.some.inj h
   exact⟨Nat.eq_of_beq_eq_true hb.1,hb.2⟩
  ·cases h
 ·cases h
def Dh (B N:Nat) (m:List (Nat × Nat)) (a:AV):Option AV:=match rX B 60 a with
 |true=>some a
 |false=>match a with
  |.ob k sz off len cx=>match zT B N m k with|some j=>some (.ob j sz off len cx)|none=>none
  |.gr k sz len=>match zT B N m k with|some j=>some (.gr j sz len)|none=>none
  |.pt k sz i q=>match zT B N m k with|some j=>some (.pt j sz i q)|none=>none
  |.mp k=>match zT B N m k with|some j=>some (.mp j)|none=>none
  |_=>none
theorem Rt {B N:Nat}{m:List (Nat × Nat)}{a a':AV}(h:Dh B N m a=some a'):gF B m N a a':=by
 unfold Dh at h
 split at h
 ·rename_i hk
  obtain rfl:=Option.some.inj h
  exact .aD (je hk)
 ·split at h
  ·split at h
   ·rename_i j hj;obtain rfl:=Option.some.inj h;exact .new (mC hj).1 (mC hj).2
   ·cases h
  ·split at h
   ·rename_i j hj;obtain rfl:=Option.some.inj h;exact .lI (mC hj).1 (mC hj).2
   ·cases h
  ·split at h
   ·rename_i j hj;obtain rfl:=Option.some.inj h;exact .sW (mC hj).1 (mC hj).2
   ·cases h
  ·split at h
   ·rename_i j hj;obtain rfl:=Option.some.inj h;exact .sX (mC hj).1 (mC hj).2
   ·cases h
  ·cases h
theorem Di {B N:Nat}{m:List (Nat × Nat)}:∀ {l l':List AV},jW (Dh B N m) l=some l'->sF B m N l l'
 |[],l',h=>by obtain rfl:=Option.some.inj h;trivial
 |b::l,l',h=>by
  simp only [jW] at h
  split at h
  ·rename_i b' hb
   split at h
   ·rename_i q hq
    obtain rfl:=Option.some.inj h
    exact⟨Rt hb,Di hq⟩
   ·cases h
  ·cases h
theorem Dj {B N:Nat}{m:List (Nat × Nat)}:∀ {l l':List (List AV)},qp (Dh B N m) l=some l'->yL B m N l l'
 |[],l',h=>by obtain rfl:=Option.some.inj h;trivial
 |b::l,l',h=>by
  simp only [qp] at h
  split at h
  ·rename_i b' hb
   split at h
   ·rename_i q hq
    obtain rfl:=Option.some.inj h
    exact⟨Di hb,Dj hq⟩
   ·cases h
  ·cases h
def Vg (B N:Nat) (m:List (Nat × Nat)) (o:Ob):Option Ob:=match Mk B o with
 |true=>some o
 |false=>match o with
  |.arr sz rows fz ex=>match qp (Dh B N m) rows with
   |some cI=>some (.arr sz cI fz ex)
   |none=>none
  |_=>none
theorem Vh {B N:Nat}{m:List (Nat × Nat)}{o o':Ob}(h:Vg B N m o=some o'):u7 B m N o o':=by
 unfold Vg at h
 split at h
 ·rename_i hk
  obtain rfl:=Option.some.inj h
  exact .same (Dg hk)
 ·split at h
  ·split at h
   ·rename_i cI hr
    obtain rfl:=Option.some.inj h
    exact .arr (Dj hr)
   ·cases h
  ·cases h
def zU (B N:Nat) (m:List (Nat × Nat)) (s:XS):List Nat->Tr (Option Ob)->Tr (Option Ob)
 |[],t=>t
 |j::l,t=>match (ez s).get (cW B (bX m) j) with
  |some o=>match Vg B N m o with
   |some o'=>zU B N m s l (put t j (some o'))
   |none=>zU B N m s l t
  |none=>zU B N m s l t
theorem tt {B N:Nat}{m:List (Nat × Nat)}{s:XS}:∀ {l:List Nat}{t:Tr (Option Ob)},(∀ j o,eY t j=some (some o)->∃ ck,(ez s).get (cW B (bX m) j)=some ck/\u7 B m N ck o) ->
  ∀ j o,eY (zU B N m s l t) j=some (some o)->∃ ck,(ez s).get (cW B (bX m) j)=some ck/\u7 B m N ck o
 |[],t,h=>h
 |i::l,t,h=>by
  simp only [zU]
  split
  ·rename_i o ho
   split
   ·rename_i o' OM
    refine tt fun j p hj=>?_
    rw [kM] at hj
    by_cases e:j=i
    ·subst e
     rw [if_pos rfl] at hj
     injection hj with hj
     injection hj with hj
     subst hj
     exact⟨o,ho,Vh OM⟩
    ·rw [if_neg e] at hj
     exact h j p hj
   ·exact tt h
  ·exact tt h
def ab6 (B:Nat) (a:AV):List Nat:=match a with
 |.ob k _ _ _ _|.gr k _ _|.pt k _ _ _|.mp k=>match Nat.blt k B with|true=>[]|false=>[k]
 |_=>[]
def ab7 (B:Nat):Ob->List Nat
 |.arr _ rows _ _=>GI (ab6 B) rows
 |_=>[]
def dedup:List Nat->List Nat->List Nat
 |[],acc=>acc
 |k::l,acc=>match jn k acc with|true=>dedup l acc|false=>dedup l (acc++[k])
def GM (B:Nat) (s:XS):List Nat->List Nat
 |[]=>[]
 |k::l=>(match (ez s).get k with|some o=>ab7 B o|none=>[])++GM B s l
def grow (B:Nat) (s:XS):Nat->List Nat->List Nat
 |0,W=>W
 |m+1,W=>grow B s m (dedup (GM B s W) W)
def Vi:Nat->List Nat->List (Nat × Nat)
 |_,[]=>[]
 |i,k::l=>(i,k)::Vi (i+1) l
def Bv (B:Nat):List (Nat × Option Ob)->List Nat
 |[]=>[]
 |p::l=>match Nat.blt p.1 B with|true=>p.1::Bv B l|false=>Bv B l
def yM (s:XS):List (Nat × Option Ob)->List Nat
 |[]=>[]
 |p::l=>match dZ s.yk p.1,p.2 with
  |false,some _=>p.1::yM s l
  |_,_=>yM s l
def ykL:Option Nat->List Nat
 |some k=>[k]
 |none=>[]
def u_ (s:XS):List (Nat × Option Ob)->List (Nat × Ob)
 |[]=>[]
 |p::l=>match dZ s.yk p.1,p.2 with
  |false,some o=>(p.1,o)::u_ s l
  |_,_=>u_ s l
def Kc (J:FJ):Option Nat->List (Nat × Ob)
 |some k=>[(k,.fo J)]
 |none=>[]
def lV (J:FJ) (s:XS):List (Nat × Ob):=Kc J s.yk++u_ s (toLk s.m)
def Bw (s:XS):List Nat:=ykL s.yk++yM s (toLk s.m)
theorem xp {s:XS}:∀ {l:List (Nat × Option Ob)},(u_ s l).map (·.1)=yM s l
 |[]=>rfl
 |p::l=>by
  simp only [u_,yM]
  split
  ·rw [List.map_cons,xp]
  ·exact xp
theorem Dk {J:FJ}{s:XS}:(lV J s).map (·.1)=Bw s:=by
 unfold lV Bw
 rw [List.map_append,xp]
 cases s.yk<;>rfl
theorem sG {s:XS}{k:Nat}{o:Ob}:∀ {l:List (Nat × Option Ob)},(k,o) ∈ u_ s l ↔ dZ s.yk k=false/\(k,some o) ∈ l
 |[]=>by simp [u_]
 |(j,p)::l=>by
  simp only [u_]
  split
  ·rename_i q h1
   rw [List.mem_cons,List.mem_cons,sG]
   simp only [Prod.mk.injEq,Option.some.injEq]
   constructor
   ·rintro (⟨rfl,rfl⟩|⟨h3,h4⟩)
    ·exact⟨h1,.inl ⟨rfl,rfl⟩⟩
    ·exact⟨h3,.inr h4⟩
   ·rintro⟨h3,⟨rfl,rfl⟩|h4⟩
    ·exact .inl ⟨rfl,rfl⟩
    ·exact .inr ⟨h3,h4⟩
  ·rename_i bG
   rw [List.mem_cons,sG]
   simp only [Prod.mk.injEq]
   constructor
   ·rintro⟨h3,h4⟩
    exact⟨h3,.inr h4⟩
   ·rintro⟨h3,⟨rfl,rfl⟩|h4⟩
    ·exact (bG o h3 rfl).elim
    ·exact⟨h3,h4⟩
theorem Fl {J:FJ}{s:XS}{k:Nat}{o:Ob}:(k,o) ∈ lV J s ↔ (den J s).get k=some o:=by
 unfold lV
 rw [List.mem_append,sG,toLk_mem]
 show _ ↔ (match dZ s.yk k with|true=>some (Ob.fo J)|false=>fS s k)=some o
 unfold fS
 cases hy:s.yk with
 |none =>
  simp only [Kc,dZ,List.not_mem_nil,false_or]
  constructor
  ·rintro⟨_,h⟩;rw [h]
  ·intro h
   refine⟨trivial,?_⟩
   split at h
   ·rename_i h1;rw [h1,h]
   ·cases h
 |some y =>
  simp only [Kc,List.mem_singleton,Prod.mk.injEq,dZ]
  cases hb:Nat.beq y k with
  |true =>
   have:=Nat.eq_of_beq_eq_true hb
   subst this
   simp only [Option.some.injEq]
   constructor
   ·rintro (⟨_,rfl⟩|⟨h,_⟩)
    ·rfl
    ·cases h
   ·rintro rfl;exact .inl ⟨by trivial,by trivial⟩
  |false =>
   constructor
   ·rintro (⟨rfl,_⟩|⟨_,h⟩)
    ·rw [Nat.beq_refl] at hb;cases hb
    ·simp only [h]
   ·intro h
    refine .inr ⟨by trivial,?_⟩
    have h:(match eY s.m k with|some o=>o|none=>none)=some o:=h
    split at h
    ·rename_i h1;rw [h1,h]
    ·cases h
theorem Ml {l:List (Nat × Ob)}{g:Nat->Option Ob}(h:∀ k o,(k,o) ∈ l ↔ g k=some o):ix l=g:=by
 funext k
 cases e:ix l k with
 |some o=>exact ((h k o).1 (iR e)).symm
 |none =>
  cases e2:g k with
  |none=>rfl
  |some o =>
   have hm:=(h k o).2 e2
   have:∀ (l:List (Nat × Ob)),(k,o) ∈ l->ix l k ≠ none:=by
    intro l
    induction l with
    |nil=>intro h;cases h
    |cons p l ih =>
     intro h hn
     simp only [ix] at hn
     split at hn
     ·cases hn
     ·rename_i hb
      rcases List.mem_cons.1 h with rfl|h
      ·rw [Nat.beq_refl] at hb;cases hb
      ·exact ih h hn
   exact absurd e (this l hm)
theorem Dl {J:FJ}{s:XS}:aM (lV J s) s.nx=den J s:=by
 unfold aM
 rw [Ml (fun k o=>Fl (J:=J) (s:=s))]
 rfl
def PO (B N:Nat) (s:XS):Option XS :=
 match grow B s 4 (dedup (GM B s (Bv B (toLk s.m))) []) with
 |W=>match Vi B W with
  |m=>match zU B N m s (Bv B (toLk s.m)++m.map (·.1)) .nil with
   |t=>match mN B m (Bw ⟨t,N,0,s.yk,s.an,s.lg⟩) && Nat.ble B N && (match s.yk with|some k=>Nat.blt k B|none=>true) with
    |true=>some ⟨t,N,0,s.yk,s.an,s.lg⟩
    |false=>none
theorem AO {B N:Nat}{s s':XS}{F:Nat->AV}(h:PO B N s=some s'):s'.nx=N/\s'.yk=s.yk/\s'.an=s.an/\s'.lg=s.lg/\s'.lw=0/\∀ J,∃ m,Canon B N m ⟨F,[]⟩ (den J s) [] [] (lV J s'):=by
 unfold PO at h
 simp only at h
 split at h
 ·rename_i hc
  simp only [Bool.and_eq_true] at hc
  obtain⟨⟨h1,h2⟩,h3⟩:=hc
  obtain rfl:=Option.some.inj h
  refine⟨rfl,rfl,rfl,rfl,rfl,fun J=>⟨_,trivial,rfl,?_,by rw [Dk];exact h1,h2,rfl⟩⟩
  have key:∀ {l:List (Nat × Ob)}{m:List (Nat × Nat)},(∀ p ∈ l,∃ ck,(den J s).get (cW B (bX m) p.1)=some ck/\u7 B m N ck p.2)->q8 B m N (den J s) l:=by
   intro l m
   induction l with
   |nil=>intro _;trivial
   |cons p l ih=>exact fun h=>⟨.inl (h p (by simp)),ih fun q hq=>h q (by simp [hq])⟩
  refine key fun p hp=>?_
  obtain⟨k,o⟩:=p
  unfold lV at hp
  rcases List.mem_append.1 hp with hp|hp
  ·simp only at hp h3
   cases hy:s.yk with
   |none=>rw [hy] at hp;cases hp
   |some y =>
    rw [hy] at hp h3
    simp only [Kc,List.mem_singleton,Prod.mk.injEq] at hp
    obtain⟨rfl,rfl⟩:=hp
    refine⟨.fo J,?_,.same trivial⟩
    simp only
    rw [jo (dR h3)]
    show (match dZ s.yk k with|true=>some (Ob.fo J)|false=>fS s k)=some (Ob.fo J)
    rw [hy]
    simp only [dZ,Nat.beq_refl]
  ·rw [sG,toLk_mem] at hp
   obtain⟨ck,k1,k2⟩:=tt (fun j o h=>by cases h) _ _ hp.2
   exact⟨ck,(du (J:=J) k1).1,k2⟩
 ·cases h
end Go.Proofs.YtbofilglphfceaaGreat
