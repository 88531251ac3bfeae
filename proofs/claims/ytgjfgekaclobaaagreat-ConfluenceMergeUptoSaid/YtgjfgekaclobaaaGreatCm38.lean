import Derived.Test.YtgjfgekaclobaaaGreatCm37
namespace Go.Proofs.YtgjfgekaclobaaaGreat
set_option linter.unusedVariables false
set_option linter.unusedSimpArgs false
open Go.RowKit
section
variable {P:Program}{w0:World}{n:Nat}{α:AA}{S S' N:aa}{r:AV}
theorem St.z_ {A:Nat->Prop}{g:Gh}{w:World}(hS:St w0 A g S w) (hN:∀ k o,N.get k=some o->S.get k=some o) (hx:S.nx<=S'.nx) (h':∀ k o,S'.get k=some o->S.get k=some o/\N.get k=none) :
  Ext A g w (g.still N) w/\St w0 A (g.still N) S' w:=by
 have pv:∀ b q,(g.still N).fz b q ↔ (g.fz b q\/∃ k sz rows fz ex,N.get k=some (.arr sz rows fz ex)/\g.al k/\b=g.ob k/\q < rows.length*sz):=fun b q=>Iff.rfl
 have hL:Later g w (g.still N) w:=⟨fun _ h=>h,fun _ _=>rfl,fun _ _=>rfl,fun b q h=>.inl h,fun _ _ _=>rfl⟩
 have Jd:∀ k o q,S'.get k=some o->g.al k->(g.still N).fz (g.ob k) q->g.fz (g.ob k) q:=fun k o q hk ha hq=>by
  rcases (pv _ q).1 hq with hq|⟨j,sz,rows,fz,ex,hj,aH,e,_⟩
  ·exact hq
  ·obtain⟨k1,k2⟩:=h' k o hk
   have:=hS.inj k j _ _ k1 (hN j _ hj) ha aH e
   rw [this,hj] at k2
   cases k2
 refine⟨{ hL with size:=Nat.le_refl _,cD:=fun _ _ _=>rfl,eW:=fun b q hq=>?_ },⟨hS.base,hS.up,hS.lo,fun k hk=>Nat.lt_of_lt_of_le (hS.al k hk) hx,fun k o hk ha=>?_,fun i j o p hi hj ai aj e=>hS.inj i j o p (h' i o hi).1 (h' j p hj).1 ai aj e,fun b q hq=>?_,fun b q hb=>.inl (hS.lM b q hb),
  fun k J hk ha c hc=>hS.fp k J (h' k _ hk).1 ha c hc,fun k J j o hk ha hj aj aP hc=>hS.iF k J j o (h' k _ hk).1 ha (h' j o hj).1 aj aP hc,fun j k J J' hj hk aj ak=>hS.kD j k J J' (h' j _ hj).1 (h' k _ hk).1 aj ak⟩⟩
 ·rcases (pv b q).1 hq with hq|⟨k,sz,rows,fz,ex,hk,aH,rfl,_⟩
  ·exact .inl hq
  ·exact .inr (hS.bj k _ (hN k _ hk) aH).1
 ·obtain⟨k2,k3,k4⟩:=hS.bj k o (h' k o hk).1 ha
  refine⟨k2,k3,k4.later hL rfl (fun q hq=>Jd k o q hk ha hq) fun J hJ=>⟨rfl,Nat.le_refl _,fun _ _=>rfl,fun c q hc hq=>?_⟩⟩
  rcases (pv c q).1 hq with hq|⟨j,sz,rows,fz,ex,hj,aH,rfl,_⟩
  ·exact hq
  ·subst hJ
   refine absurd hc (hS.iF k J j _ (h' k _ hk).1 ha (hN j _ hj) aH fun e=>?_)
   have:=(h' k _ hk).2
   rw [<-e,hj] at this
   cases this
 ·rcases (pv b q).1 hq with hq|⟨k,sz,rows,fz,ex,hk,aH,rfl,_⟩
  ·exact hS.bM b q hq
  ·exact (hS.bj k _ (hN k _ hk) aH).2.1
theorem s9.z_ {k:Nat}{args aV:List AV}{JM:aa}(hN:∀ k o,N.get k=some o->S.get k=some o) (hx:S.nx<=S'.nx) (h':∀ k o,S'.get k=some o->S.get k=some o/\N.get k=none) (hf:jg N args aV) (h:s9 P w0 k aV S' r JM):s9 P w0 k args S r JM:=by
 intro F m A g xs w hF hS aH hA
 obtain⟨hE,dO⟩:=hS.z_ hN hx h'
 have Oq:St w0 A g N w->True:=fun _=>trivial
 have lJ:jd (g.still N) w aV xs:=by
  refine⟨hA.1.trans hf.len,fun i a x ha hx=>?_⟩
  have hi:i < args.length:=by rw [hf.len];exact (List.getElem?_eq_some_iff.1 ha).1
  have h0:=List.getElem?_eq_getElem hi
  have tR:St w0 A g ⟨N.get,S.nx⟩ w:=hS.forget (Nat.le_refl _) fun j p hj _=>hN j p hj
  have hr:=(hf.at i _ a h0 ha)
  exact (hr.mono (S:=N) (T:=⟨N.get,S.nx⟩) fun _ _ _ _ _ h=>h).rep tR (hA.2 i _ x h0 hx)
 obtain⟨l,f,tmps,assign,body,h1,h2⟩:=h F m A (g.still N) xs w hF dO aH lJ
 refine⟨l,f,tmps,assign,body,h1,RoundIn.mono h2 ?_⟩
 rintro e w' ⟨v,g',rfl,k1,k2,k3⟩
 exact⟨v,g',rfl,k1,k2,hE.trans k3⟩
theorem Cv.aaL {t:Nat}{a':AV}(hN:∀ k o,N.get k=some o->S.get k=some o) (hx:S.nx<=S'.nx) (h':∀ k o,S'.get k=some o->S.get k=some o/\N.get k=none) (ht:α.tm t ≠ .u) (hf:bX N (α.tm t) a'):Cv w0 n α S ⟨aX α.tm t a',α.df⟩ S':=by
 intro A g q w hS hA
 obtain⟨hE,dO⟩:=hS.z_ hN hx h'
 have tR:St w0 A g ⟨N.get,S.nx⟩ w:=hS.forget (Nat.le_refl _) fun j p hj _=>hN j p hj
 have aB:t < n:=by
  rcases Nat.lt_or_ge t n with h1|h1
  ·exact h1
  ·exact absurd (hA.out t h1) ht
 refine⟨g.still N,dO,(hA.later hE.toLater).slot ht ?_,hE⟩
 exact (hf.mono (S:=N) (T:=⟨N.get,S.nx⟩) fun _ _ _ _ _ h=>h).rep tR (hA.tm t aB)
end
def tS (F:AV->List Nat):List AV->List Nat
 |[]=>[]
 |a::l=>F a++tS F l
def Fv (F:AV->List Nat):List (List AV)->List Nat
 |[]=>[]
 |a::l=>tS F a++Fv F l
def tT (S:aa):Nat->AV->List Nat
 |0,_=>[]
 |m+1,a=>match a with
  |.agg l|.aC l|.ip l=>tS (tT S m) l
  |.sl _ rows=>Fv (tT S m) rows
  |.fn _ l c=>tS (tT S m) l++tS (tT S m) c
  |.ob k _ _ _ _|.pt k _ _ _|.gr k _ _=>match S.get k with
   |some (.arr _ rows _ _)=>k::Fv (tT S m) rows
   |_=>[]
  |_=>[]
def iC (k:Nat):List Nat->Bool
 |[]=>false
 |j::l=>match Nat.beq j k with|true=>true|false=>iC k l
def LO (K:List Nat) (S:aa):aa:=⟨fun k=>match iC k K with|true=>S.get k|false=>none,S.nx⟩
def pN (s:XS):List Nat->XS
 |[]=>s
 |k::ks=>pN (jb s k none) ks
theorem Eu:∀ {K:List Nat}{s:XS}{k:Nat},dJ (pN s K) k=if iC k K=true then none else dJ s k
 |[],s,k=>by simp [pN,iC]
 |j::K,s,k=>by
  rw [pN,Eu]
  simp only [iC]
  have e:dJ (jb s j none) k=if k=j then none else dJ s k:=by
   unfold dJ jb
   simp only [kh]
   by_cases e:k=j
   ·rw [if_pos e,if_pos e]
   ·rw [if_neg e,if_neg e]
  rw [e]
  by_cases IU:k=j
  ·subst IU
   simp [Nat.beq_refl]
  ·have hb:Nat.beq j k=false:=by
    cases hb:Nat.beq j k with
    |true=>exact absurd (Nat.eq_of_beq_eq_true hb).symm IU
    |false=>rfl
   simp [hb,IU]
theorem yT:∀ {K:List Nat}{s:XS},cZ s (pN s K)/\(pN s K).lg=s.lg/\(pN s K).nx=s.nx/\(pN s K).yk=s.yk/\(pN s K).an=s.an
 |[],s=>⟨.refl _,rfl,rfl,rfl,rfl⟩
 |j::K,s=>by
  obtain⟨h1,h2,h3,h4,h5⟩:=yT (K:=K) (s:=jb s j none)
  exact⟨cZ.wr.trans h1,h2,h3,h4,h5⟩
theorem LP {K:List Nat}{J:FJ}{s:XS}{k:Nat}{o:Ob}(h:(LO K (dy s)).get k=some o):iC k K=true/\cY s.yk k=false/\(den J s).get k=some o:=by
 have h:(match iC k K with|true=>(dy s).get k|false=>none)=some o:=h
 cases e:iC k K with
 |true=>rw [e] at h;obtain⟨h1,h2⟩:=cz (J:=J) h;exact⟨rfl,h2,h1⟩
 |false=>rw [e] at h;cases h
theorem Q3 {K:List Nat}{J:FJ}{s:XS}{k:Nat}{o:Ob}(h:(den J (pN s K)).get k=some o):(den J s).get k=some o/\(LO K (dy s)).get k=none:=by
 have h:(match cY (pN s K).yk k with|true=>some (Ob.fo J)|false=>dJ (pN s K) k)=some o:=h
 rw [yT.2.2.2.1] at h
 show (match cY s.yk k with|true=>some (Ob.fo J)|false=>dJ s k)=some o/\(match iC k K with|true=>(match cY s.yk k with|true=>none|false=>dJ s k)|false=>none)=none
 cases e:cY s.yk k with
 |true=>rw [e] at h;exact⟨h,by cases iC k K<;>rfl⟩
 |false =>
  rw [e] at h
  have h:dJ (pN s K) k=some o:=h
  rw [Eu] at h
  cases e2:iC k K with
  |true=>rw [e2] at h;simp at h
  |false=>rw [e2] at h;simp at h;exact⟨h,rfl⟩
def B7 (s:XS) (aZ9:List AV):Option (List AV × XS):=match eV (gJ 60) aZ9 with
 |true=>some (aZ9,s)
 |false=>match jm (fk (LO (tS (tT (dy s) 60) aZ9) (dy s)) 60) aZ9 with
  |some mN=>some (mN,pN s (tS (tT (dy s) 60) aZ9))
  |none=>none
theorem tU {S:aa}{m:Nat}:∀ {l l':List AV},jm (fk S m) l=some l'->jg S l l'/\du l'
 |[],l',h=>by obtain rfl:=Option.some.inj h;exact⟨trivial,trivial⟩
 |b::l,l',h=>by
  simp only [jm] at h
  split at h
  ·rename_i b' hb
   split at h
   ·rename_i m hm
    obtain rfl:=Option.some.inj h
    obtain⟨h1,h2⟩:=tU hm
    obtain⟨h3,h4⟩:=ow hb
    exact⟨⟨h3,h1⟩,⟨h4,h2⟩⟩
   ·cases h
  ·cases h
theorem rX {s s':XS}{aZ9 mN:List AV}(h:B7 s aZ9=some (mN,s')):∃ N:aa,(∀ J k o,N.get k=some o->(den J s).get k=some o)/\(∀ J k o,(den J s').get k=some o->(den J s).get k=some o/\N.get k=none)/\jg N aZ9 mN/\du mN/\cZ s s'/\s'.lg=s.lg/\s'.nx=s.nx/\s'.yk=s.yk/\s'.an=s.an:=by
 unfold B7 at h
 split at h
 ·rename_i hp
  simp only [Option.some.injEq,Prod.mk.injEq] at h
  obtain⟨rfl,rfl⟩:=h
  exact⟨aa.none_,fun J k o h=>(by cases h),fun J k o h=>⟨h,rfl⟩,jg.refl _ _,rV hp,.refl _,rfl,rfl,rfl,rfl⟩
 ·split at h
  ·rename_i as1 hf
   simp only [Option.some.injEq,Prod.mk.injEq] at h
   obtain⟨rfl,rfl⟩:=h
   obtain⟨h1,h2⟩:=tU hf
   obtain⟨k1,k2,k3,k4,k5⟩:=yT (K:=tS (tT (dy s) 60) aZ9) (s:=s)
   exact⟨_,fun J k o h=>(LP h).2.2,fun J k o h=>Q3 h,h1,h2,k1,k2,k3,k4,k5⟩
  ·cases h
def qi (B:Nat):Nat->AV->Bool
 |0,_=>false
 |m+1,a=>match a with
  |.u|.v _=>true
  |.agg l|.aC l|.ip l=>eV (qi B m) l
  |.sl _ rows=>o6 (qi B m) rows
  |.fn _ l c=>match eV (qi B m) l with|true=>eV (qi B m) c|false=>false
  |.ob k _ _ _ _|.pt k _ _ _|.mp k|.yl k|.gr k _ _=>Nat.blt k B
theorem iD {B:Nat}:∀ {m:Nat}{a:AV},qi B m a=true->cC B a
 |0,a,h=>by cases h
 |m+1,a,h=>by
  cases a with
  |u=>exact .u
  |v x=>exact .v
  |agg l=>exact .agg fun a ha=>iD (cW h a ha)
  |aC l=>exact .aC fun a ha=>iD (cW h a ha)
  |ip l=>exact .ip fun a ha=>iD (cW h a ha)
  |sl ex rows=>exact .sl fun r hr a ha=>iD (jn h r hr a ha)
  |fn f l c =>
   simp only [qi] at h
   split at h
   ·rename_i h1
    exact .fn (fun a ha=>iD (cW h1 a ha)) (fun a ha=>iD (cW h a ha))
   ·cases h
  |ob=>exact .ob (c_ h)
  |pt=>exact .pt (c_ h)
  |mp=>exact .mp (c_ h)
  |yl=>exact .yl (c_ h)
  |gr=>exact .gr (c_ h)
def Fw (B:Nat):List (Value × AV)->Bool
 |[]=>true
 |p::l=>match qi B 60 p.2 with|true=>Fw B l|false=>false
theorem B8 {B:Nat}:∀ {l:List (Value × AV)},Fw B l=true->∀ p ∈ l,cC B p.2
 |[],_,a,h=>by cases h
 |b::l,hp,a,h=>by
  simp only [Fw] at hp
  split at hp
  ·rename_i hb
   rcases List.mem_cons.1 h with rfl|h
   ·exact iD hb
   ·exact B8 hp a h
  ·cases hp
def LQ (B:Nat):Ob->Bool
 |.arr _ rows _ _=>o6 (qi B 60) rows
 |.mp es=>Fw B es
 |.df|.si _ _|.un=>true
 |_=>false
theorem B9 {B:Nat}{o:Ob}(h:LQ B o=true):kH B o:=by
 cases o with
 |arr sz rows fz ex=>exact fun r hr a ha=>iD (jn h r hr a ha)
 |mp es=>exact B8 h
 |df=>trivial
 |si=>trivial
 |un=>trivial
 |_=>cases h
def SU (m:List (Nat × Nat)) (k:Nat):Option Nat:=match m with
 |[]=>none
 |p::m=>match Nat.beq p.2 k with|true=>some p.1|false=>SU m k
def yU (B N:Nat) (m:List (Nat × Nat)) (k:Nat):Option Nat:=match SU m k with
 |some j=>match Nat.beq k (cF B (aN m) j) && Nat.blt j N with
  |true=>some j
  |false=>none
 |none=>none
theorem lV {B N:Nat}{m:List (Nat × Nat)}{k j:Nat}(h:yU B N m k=some j):k=cF B (aN m) j/\Nat.blt j N=true:=by
 unfold yU at h
 split at h
 ·split at h
  ·rename_i hb
   simp only [Bool.and_eq_true] at hb
   obtain rfl:=Option.some.inj h
   exact⟨Nat.eq_of_beq_eq_true hb.1,hb.2⟩
  ·cases h
 ·cases h
def B_ (B N:Nat) (m:List (Nat × Nat)) (a:AV):Option AV:=match qi B 60 a with
 |true=>some a
 |false=>match a with
  |.ob k sz off len cx=>match yU B N m k with|some j=>some (.ob j sz off len cx)|none=>none
  |.gr k sz len=>match yU B N m k with|some j=>some (.gr j sz len)|none=>none
  |.pt k sz i q=>match yU B N m k with|some j=>some (.pt j sz i q)|none=>none
  |.mp k=>match yU B N m k with|some j=>some (.mp j)|none=>none
  |_=>none
theorem Q4 {B N:Nat}{m:List (Nat × Nat)}{a a':AV}(h:B_ B N m a=some a'):fy B m N a a':=by
 unfold B_ at h
 split at h
 ·rename_i hk
  obtain rfl:=Option.some.inj h
  exact .aJ (iD hk)
 ·split at h
  ·split at h
   ·rename_i j hj;obtain rfl:=Option.some.inj h;exact .new (lV hj).1 (lV hj).2
   ·cases h
  ·split at h
   ·rename_i j hj;obtain rfl:=Option.some.inj h;exact .lD (lV hj).1 (lV hj).2
   ·cases h
  ·split at h
   ·rename_i j hj;obtain rfl:=Option.some.inj h;exact .kR (lV hj).1 (lV hj).2
   ·cases h
  ·split at h
   ·rename_i j hj;obtain rfl:=Option.some.inj h;exact .nJ (lV hj).1 (lV hj).2
   ·cases h
  ·cases h
theorem Ca {B N:Nat}{m:List (Nat × Nat)}:∀ {l l':List AV},jm (B_ B N m) l=some l'->qw B m N l l'
 |[],l',h=>by obtain rfl:=Option.some.inj h;trivial
 |b::l,l',h=>by
  simp only [jm] at h
  split at h
  ·rename_i b' hb
   split at h
   ·rename_i q hq
    obtain rfl:=Option.some.inj h
    exact⟨Q4 hb,Ca hq⟩
   ·cases h
  ·cases h
theorem Cb {B N:Nat}{m:List (Nat × Nat)}:∀ {l l':List (List AV)},o5 (B_ B N m) l=some l'->xl B m N l l'
 |[],l',h=>by obtain rfl:=Option.some.inj h;trivial
 |b::l,l',h=>by
  simp only [o5] at h
  split at h
  ·rename_i b' hb
   split at h
   ·rename_i q hq
    obtain rfl:=Option.some.inj h
    exact⟨Ca hb,Cb hq⟩
   ·cases h
  ·cases h
def SV (B N:Nat) (m:List (Nat × Nat)) (o:Ob):Option Ob:=match LQ B o with
 |true=>some o
 |false=>match o with
  |.arr sz rows fz ex=>match o5 (B_ B N m) rows with
   |some bV=>some (.arr sz bV fz ex)
   |none=>none
  |_=>none
theorem SW {B N:Nat}{m:List (Nat × Nat)}{o o':Ob}(h:SV B N m o=some o'):s5 B m N o o':=by
 unfold SV at h
 split at h
 ·rename_i hk
  obtain rfl:=Option.some.inj h
  exact .same (B9 hk)
 ·split at h
  ·split at h
   ·rename_i bV hr
    obtain rfl:=Option.some.inj h
    exact .arr (Cb hr)
   ·cases h
  ·cases h
def yV (B N:Nat) (m:List (Nat × Nat)) (s:XS):List Nat->Tr (Option Ob)->Tr (Option Ob)
 |[],t=>t
 |j::l,t=>match (dy s).get (cF B (aN m) j) with
  |some o=>match SV B N m o with
   |some o'=>yV B N m s l (put t j (some o'))
   |none=>yV B N m s l t
  |none=>yV B N m s l t
theorem rY {B N:Nat}{m:List (Nat × Nat)}{s:XS}:∀ {l:List Nat}{t:Tr (Option Ob)},(∀ j o,ef t j=some (some o)->∃ bm,(dy s).get (cF B (aN m) j)=some bm/\s5 B m N bm o) ->
  ∀ j o,ef (yV B N m s l t) j=some (some o)->∃ bm,(dy s).get (cF B (aN m) j)=some bm/\s5 B m N bm o
 |[],t,h=>h
 |i::l,t,h=>by
  simp only [yV]
  split
  ·rename_i o ho
   split
   ·rename_i o' Om
    refine rY fun j p hj=>?_
    rw [kh] at hj
    by_cases e:j=i
    ·subst e
     rw [if_pos rfl] at hj
     injection hj with hj
     injection hj with hj
     subst hj
     exact⟨o,ho,SW Om⟩
    ·rw [if_neg e] at hj
     exact h j p hj
   ·exact rY h
  ·exact rY h
def aaM (B:Nat) (a:AV):List Nat:=match a with
 |.ob k _ _ _ _|.gr k _ _|.pt k _ _ _|.mp k=>match Nat.blt k B with|true=>[]|false=>[k]
 |_=>[]
def aaN (B:Nat):Ob->List Nat
 |.arr _ rows _ _=>Fv (aaM B) rows
 |_=>[]
def dedup:List Nat->List Nat->List Nat
 |[],acc=>acc
 |k::l,acc=>match iC k acc with|true=>dedup l acc|false=>dedup l (acc++[k])
def Fx (B:Nat) (s:XS):List Nat->List Nat
 |[]=>[]
 |k::l=>(match (dy s).get k with|some o=>aaN B o|none=>[])++Fx B s l
def grow (B:Nat) (s:XS):Nat->List Nat->List Nat
 |0,W=>W
 |m+1,W=>grow B s m (dedup (Fx B s W) W)
def SX:Nat->List Nat->List (Nat × Nat)
 |_,[]=>[]
 |i,k::l=>(i,k)::SX (i+1) l
def AN (B:Nat):List (Nat × Option Ob)->List Nat
 |[]=>[]
 |p::l=>match Nat.blt p.1 B with|true=>p.1::AN B l|false=>AN B l
def xW (s:XS):List (Nat × Option Ob)->List Nat
 |[]=>[]
 |p::l=>match cY s.yk p.1,p.2 with
  |false,some _=>p.1::xW s l
  |_,_=>xW s l
def ykL:Option Nat->List Nat
 |some k=>[k]
 |none=>[]
def tV (s:XS):List (Nat × Option Ob)->List (Nat × Ob)
 |[]=>[]
 |p::l=>match cY s.yk p.1,p.2 with
  |false,some o=>(p.1,o)::tV s l
  |_,_=>tV s l
def JN (J:FJ):Option Nat->List (Nat × Ob)
 |some k=>[(k,.fo J)]
 |none=>[]
def ll (J:FJ) (s:XS):List (Nat × Ob):=JN J s.yk++tV s (toLk s.m)
def xX (s:XS):List Nat:=ykL s.yk++xW s (toLk s.m)
theorem wO {s:XS}:∀ {l:List (Nat × Option Ob)},(tV s l).map (·.1)=xW s l
 |[]=>rfl
 |p::l=>by
  simp only [tV,xW]
  split
  ·rw [List.map_cons,wO]
  ·exact wO
theorem Cc {J:FJ}{s:XS}:(ll J s).map (·.1)=xX s:=by
 unfold ll xX
 rw [List.map_append,wO]
 cases s.yk<;>rfl
theorem qN {s:XS}{k:Nat}{o:Ob}:∀ {l:List (Nat × Option Ob)},(k,o) ∈ tV s l ↔ cY s.yk k=false/\(k,some o) ∈ l
 |[]=>by simp [tV]
 |(j,p)::l=>by
  simp only [tV]
  split
  ·rename_i q h1
   rw [List.mem_cons,List.mem_cons,qN]
   simp only [Prod.mk.injEq,Option.some.injEq]
   constructor
   ·rintro (⟨rfl,rfl⟩|⟨h3,h4⟩)
    ·exact⟨h1,.inl ⟨rfl,rfl⟩⟩
    ·exact⟨h3,.inr h4⟩
   ·rintro⟨h3,⟨rfl,rfl⟩|h4⟩
    ·exact .inl ⟨rfl,rfl⟩
    ·exact .inr ⟨h3,h4⟩
  ·rename_i aP
   rw [List.mem_cons,qN]
   simp only [Prod.mk.injEq]
   constructor
   ·rintro⟨h3,h4⟩
    exact⟨h3,.inr h4⟩
   ·rintro⟨h3,⟨rfl,rfl⟩|h4⟩
    ·exact (aP o h3 rfl).elim
    ·exact⟨h3,h4⟩
theorem Ev {J:FJ}{s:XS}{k:Nat}{o:Ob}:(k,o) ∈ ll J s ↔ (den J s).get k=some o:=by
 unfold ll
 rw [List.mem_append,qN,toLk_mem]
 show _ ↔ (match cY s.yk k with|true=>some (Ob.fo J)|false=>dJ s k)=some o
 unfold dJ
 cases hy:s.yk with
 |none =>
  simp only [JN,cY,List.not_mem_nil,false_or]
  constructor
  ·rintro⟨_,h⟩;rw [h]
  ·intro h
   refine⟨trivial,?_⟩
   split at h
   ·rename_i h1;rw [h1,h]
   ·cases h
 |some y =>
  simp only [JN,List.mem_singleton,Prod.mk.injEq,cY]
  cases hb:Nat.beq y k with
  |true =>
   have:=Nat.eq_of_beq_eq_true hb
   subst this
   simp only [Option.some.injEq]
   constructor
   ·rintro (⟨_,rfl⟩|⟨h,_⟩)
    ·rfl
    ·cases h
   ·rintro rfl;exact .inl ⟨by trivial,by trivial⟩
  |false =>
   constructor
   ·rintro (⟨rfl,_⟩|⟨_,h⟩)
    ·rw [Nat.beq_refl] at hb;cases hb
    ·simp only [h]
   ·intro h
    refine .inr ⟨by trivial,?_⟩
    have h:(match ef s.m k with|some o=>o|none=>none)=some o:=h
    split at h
    ·rename_i h1;rw [h1,h]
    ·cases h
theorem LR {l:List (Nat × Ob)}{g:Nat->Option Ob}(h:∀ k o,(k,o) ∈ l ↔ g k=some o):cM l=g:=by
 funext k
 cases e:cM l k with
 |some o=>exact ((h k o).1 (dY e)).symm
 |none =>
  cases e2:g k with
  |none=>rfl
  |some o =>
   have hm:=(h k o).2 e2
   have:∀ (l:List (Nat × Ob)),(k,o) ∈ l->cM l k ≠ none:=by
    intro l
    induction l with
    |nil=>intro h;cases h
    |cons p l ih =>
     intro h hn
     simp only [cM] at hn
     split at hn
     ·cases hn
     ·rename_i hb
      rcases List.mem_cons.1 h with rfl|h
      ·rw [Nat.beq_refl] at hb;cases hb
      ·exact ih h hn
   exact absurd e (this l hm)
theorem Cd {J:FJ}{s:XS}:au (ll J s) s.nx=den J s:=by
 unfold au
 rw [LR (fun k o=>Ev (J:=J) (s:=s))]
 rfl
def Ot (B N:Nat) (s:XS):Option XS :=
 match grow B s 4 (dedup (Fx B s (AN B (toLk s.m))) []) with
 |W=>match SX B W with
  |m=>match yV B N m s (AN B (toLk s.m)++m.map (·.1)) .nil with
   |t=>match ly B m (xX ⟨t,N,0,s.yk,s.an,s.lg⟩) && Nat.ble B N && (match s.yk with|some k=>Nat.blt k B|none=>true) with
    |true=>some ⟨t,N,0,s.yk,s.an,s.lg⟩
    |false=>none
theorem Aa {B N:Nat}{s s':XS}{F:Nat->AV}(h:Ot B N s=some s'):s'.nx=N/\s'.yk=s.yk/\s'.an=s.an/\s'.lg=s.lg/\s'.lw=0/\∀ J,∃ m,Canon B N m ⟨F,[]⟩ (den J s) [] [] (ll J s'):=by
 unfold Ot at h
 simp only at h
 split at h
 ·rename_i hc
  simp only [Bool.and_eq_true] at hc
  obtain⟨⟨h1,h2⟩,h3⟩:=hc
  obtain rfl:=Option.some.inj h
  refine⟨rfl,rfl,rfl,rfl,rfl,fun J=>⟨_,trivial,rfl,?_,by rw [Cc];exact h1,h2,rfl⟩⟩
  have key:∀ {l:List (Nat × Ob)}{m:List (Nat × Nat)},(∀ p ∈ l,∃ bm,(den J s).get (cF B (aN m) p.1)=some bm/\s5 B m N bm p.2)->eI B m N (den J s) l:=by
   intro l m
   induction l with
   |nil=>intro _;trivial
   |cons p l ih=>exact fun h=>⟨.inl (h p (by simp)),ih fun q hq=>h q (by simp [hq])⟩
  refine key fun p hp=>?_
  obtain⟨k,o⟩:=p
  unfold ll at hp
  rcases List.mem_append.1 hp with hp|hp
  ·simp only at hp h3
   cases hy:s.yk with
   |none=>rw [hy] at hp;cases hp
   |some y =>
    rw [hy] at hp h3
    simp only [JN,List.mem_singleton,Prod.mk.injEq] at hp
    obtain⟨rfl,rfl⟩:=hp
    refine⟨.fo J,?_,.same trivial⟩
    simp only
    rw [iP (c_ h3)]
    show (match cY s.yk k with|true=>some (Ob.fo J)|false=>dJ s k)=some (Ob.fo J)
    rw [hy]
    simp only [cY,Nat.beq_refl]
  ·rw [qN,toLk_mem] at hp
   obtain⟨bm,k1,k2⟩:=rY (fun j o h=>by cases h) _ _ hp.2
   exact⟨bm,(cz (J:=J) k1).1,k2⟩
 ·cases h
end Go.Proofs.YtgjfgekaclobaaaGreat
