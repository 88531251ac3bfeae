import Derived.Test.YtgjfgekaclobaaaGreatCa36
namespace Go.Proofs.YtgjfgekaclobaaaGreat
set_option linter.unusedVariables false
set_option linter.unusedSimpArgs false
open Go.RowKit
section
variable {P:Program}{w0:World}{n:Nat}{α:AA}{S S' N:ad}{r:AV}
theorem St.Eg {A:Nat->Prop}{g:Gh}{w:World}(hS:St w0 A g S w) (hN:∀ k o,N.get k=some o->S.get k=some o) (hx:S.nx<=S'.nx) (h':∀ k o,S'.get k=some o->S.get k=some o/\N.get k=none) :
  Ext A g w (g.still N) w/\St w0 A (g.still N) S' w:=by
 have sH:∀ b q,(g.still N).fz b q ↔ (g.fz b q\/∃ k sz rows fz ex,N.get k=some (.arr sz rows fz ex)/\g.al k/\b=g.ob k/\q < rows.length*sz):=fun b q=>Iff.rfl
 have hL:Later g w (g.still N) w:=⟨fun _ h=>h,fun _ _=>rfl,fun _ _=>rfl,fun b q h=>.inl h,fun _ _ _=>rfl⟩
 have Oc:∀ k o q,S'.get k=some o->g.al k->(g.still N).fz (g.ob k) q->g.fz (g.ob k) q:=fun k o q hk ha hq=>by
  rcases (sH _ q).1 hq with hq|⟨j,sz,rows,fz,ex,hj,aO,e,_⟩
  ·exact hq
  ·obtain⟨k1,k2⟩:=h' k o hk
   have:=hS.inj k j _ _ k1 (hN j _ hj) ha aO e
   rw [this,hj] at k2
   cases k2
 refine⟨{ hL with size:=Nat.le_refl _,a7:=fun _ _ _=>rfl,gF:=fun b q hq=>?_ },⟨hS.base,hS.up,hS.lo,fun k hk=>Nat.lt_of_lt_of_le (hS.al k hk) hx,fun k o hk ha=>?_,fun i j o p hi hj ai aj e=>hS.inj i j o p (h' i o hi).1 (h' j p hj).1 ai aj e,fun b q hq=>?_,fun b q hb=>.inl (hS.nS b q hb),
  fun k J hk ha c hc=>hS.ic k J (h' k _ hk).1 ha c hc,fun k J j o hk ha hj aj a_ hc=>hS.jW k J j o (h' k _ hk).1 ha (h' j o hj).1 aj a_ hc,fun j k J J' hj hk aj ak=>hS.lV j k J J' (h' j _ hj).1 (h' k _ hk).1 aj ak⟩⟩
 ·rcases (sH b q).1 hq with hq|⟨k,sz,rows,fz,ex,hk,aO,rfl,_⟩
  ·exact .inl hq
  ·exact .inr (hS.bR k _ (hN k _ hk) aO).1
 ·obtain⟨k2,k3,k4⟩:=hS.bR k o (h' k o hk).1 ha
  refine⟨k2,k3,k4.later hL rfl (fun q hq=>Oc k o q hk ha hq) fun J hJ=>⟨rfl,Nat.le_refl _,fun _ _=>rfl,fun c q hc hq=>?_⟩⟩
  rcases (sH c q).1 hq with hq|⟨j,sz,rows,fz,ex,hj,aO,rfl,_⟩
  ·exact hq
  ·subst hJ
   refine absurd hc (hS.jW k J j _ (h' k _ hk).1 ha (hN j _ hj) aO fun e=>?_)
   have:=(h' k _ hk).2
   rw [<-e,hj] at this
   cases this
 ·rcases (sH b q).1 hq with hq|⟨k,sz,rows,fz,ex,hk,aO,rfl,_⟩
  ·exact hS.cC b q hq
  ·exact (hS.bR k _ (hN k _ hk) aO).2.1
theorem oo.Eg {k:Nat}{args aQ:List AV}{Pc:ad}(hN:∀ k o,N.get k=some o->S.get k=some o) (hx:S.nx<=S'.nx) (h':∀ k o,S'.get k=some o->S.get k=some o/\N.get k=none) (hf:fH N args aQ) (h:oo P w0 k aQ S' r Pc):oo P w0 k args S r Pc:=by
 intro F m A g xs w hF hS aO hA
 obtain⟨hE,eR⟩:=hS.Eg hN hx h'
 have U7:St w0 A g N w->True:=fun _=>trivial
 have nQ:iP (g.still N) w aQ xs:=by
  refine⟨hA.1.trans hf.len,fun i a x ha hx=>?_⟩
  have hi:i < args.length:=by rw [hf.len];exact (List.getElem?_eq_some_iff.1 ha).1
  have h0:=List.getElem?_eq_getElem hi
  have xP:St w0 A g ⟨N.get,S.nx⟩ w:=hS.forget (Nat.le_refl _) fun j p hj _=>hN j p hj
  have hr:=(hf.at i _ a h0 ha)
  exact (hr.mono (S:=N) (T:=⟨N.get,S.nx⟩) fun _ _ _ _ _ h=>h).rep xP (hA.2 i _ x h0 hx)
 obtain⟨l,f,tmps,assign,body,h1,h2⟩:=h F m A (g.still N) xs w hF eR aO nQ
 refine⟨l,f,tmps,assign,body,h1,RoundIn.mono h2 ?_⟩
 rintro e w' ⟨v,g',rfl,k1,k2,k3⟩
 exact⟨v,g',rfl,k1,k2,hE.trans k3⟩
theorem Cv.aaW {t:Nat}{a':AV}(hN:∀ k o,N.get k=some o->S.get k=some o) (hx:S.nx<=S'.nx) (h':∀ k o,S'.get k=some o->S.get k=some o/\N.get k=none) (ht:α.tm t ≠ .u) (hf:bp N (α.tm t) a'):Cv w0 n α S ⟨a8 α.tm t a',α.df⟩ S':=by
 intro A g q w hS hA
 obtain⟨hE,eR⟩:=hS.Eg hN hx h'
 have xP:St w0 A g ⟨N.get,S.nx⟩ w:=hS.forget (Nat.le_refl _) fun j p hj _=>hN j p hj
 have aA:t < n:=by
  rcases Nat.lt_or_ge t n with h1|h1
  ·exact h1
  ·exact absurd (hA.out t h1) ht
 refine⟨g.still N,eR,(hA.later hE.toLater).slot ht ?_,hE⟩
 exact (hf.mono (S:=N) (T:=⟨N.get,S.nx⟩) fun _ _ _ _ _ h=>h).rep xP (hA.tm t aA)
end
def xQ (F:AV->List Nat):List AV->List Nat
 |[]=>[]
 |a::l=>F a++xQ F l
def Ky (F:AV->List Nat):List (List AV)->List Nat
 |[]=>[]
 |a::l=>xQ F a++Ky F l
def xR (S:ad):Nat->AV->List Nat
 |0,_=>[]
 |m+1,a=>match a with
  |.agg l|.aE l|.ip l=>xQ (xR S m) l
  |.sl _ rows=>Ky (xR S m) rows
  |.fn _ l c=>xQ (xR S m) l++xQ (xR S m) c
  |.ob k _ _ _ _|.pt k _ _ _|.gr k _ _=>match S.get k with
   |some (.arr _ rows _ _)=>k::Ky (xR S m) rows
   |_=>[]
  |_=>[]
def jS (k:Nat):List Nat->Bool
 |[]=>false
 |j::l=>match Nat.beq j k with|true=>true|false=>jS k l
def RL (K:List Nat) (S:ad):ad:=⟨fun k=>match jS k K with|true=>S.get k|false=>none,S.nx⟩
def s_ (s:XS):List Nat->XS
 |[]=>s
 |k::ks=>s_ (kH s k none) ks
theorem Ja:∀ {K:List Nat}{s:XS}{k:Nat},eM (s_ s K) k=if jS k K=true then none else eM s k
 |[],s,k=>by simp [s_,jS]
 |j::K,s,k=>by
  rw [s_,Ja]
  simp only [jS]
  have e:eM (kH s j none) k=if k=j then none else eM s k:=by
   unfold eM kH
   simp only [mg]
   by_cases e:k=j
   ·rw [if_pos e,if_pos e]
   ·rw [if_neg e,if_neg e]
  rw [e]
  by_cases Pd:k=j
  ·subst Pd
   simp [Nat.beq_refl]
  ·have hb:Nat.beq j k=false:=by
    cases hb:Nat.beq j k with
    |true=>exact absurd (Nat.eq_of_beq_eq_true hb).symm Pd
    |false=>rfl
   simp [hb,Pd]
theorem C3:∀ {K:List Nat}{s:XS},dZ s (s_ s K)/\(s_ s K).lg=s.lg/\(s_ s K).nx=s.nx/\(s_ s K).yk=s.yk/\(s_ s K).an=s.an
 |[],s=>⟨.refl _,rfl,rfl,rfl,rfl⟩
 |j::K,s=>by
  obtain⟨h1,h2,h3,h4,h5⟩:=C3 (K:=K) (s:=kH s j none)
  exact⟨dZ.wr.trans h1,h2,h3,h4,h5⟩
theorem RM {K:List Nat}{J:FJ}{s:XS}{k:Nat}{o:Ob}(h:(RL K (eE s)).get k=some o):jS k K=true/\dY s.yk k=false/\(den J s).get k=some o:=by
 have h:(match jS k K with|true=>(eE s).get k|false=>none)=some o:=h
 cases e:jS k K with
 |true=>rw [e] at h;obtain⟨h1,h2⟩:=dk (J:=J) h;exact⟨rfl,h2,h1⟩
 |false=>rw [e] at h;cases h
theorem Yp {K:List Nat}{J:FJ}{s:XS}{k:Nat}{o:Ob}(h:(den J (s_ s K)).get k=some o):(den J s).get k=some o/\(RL K (eE s)).get k=none:=by
 have h:(match dY (s_ s K).yk k with|true=>some (Ob.fo J)|false=>eM (s_ s K) k)=some o:=h
 rw [C3.2.2.2.1] at h
 show (match dY s.yk k with|true=>some (Ob.fo J)|false=>eM s k)=some o/\(match jS k K with|true=>(match dY s.yk k with|true=>none|false=>eM s k)|false=>none)=none
 cases e:dY s.yk k with
 |true=>rw [e] at h;exact⟨h,by cases jS k K<;>rfl⟩
 |false =>
  rw [e] at h
  have h:eM (s_ s K) k=some o:=h
  rw [Ja] at h
  cases e2:jS k K with
  |true=>rw [e2] at h;simp at h
  |false=>rw [e2] at h;simp at h;exact⟨h,rfl⟩
def Gu (s:XS) (aZ9:List AV):Option (List AV × XS):=match gE (jv 60) aZ9 with
 |true=>some (aZ9,s)
 |false=>match kP (g_ (RL (xQ (xR (eE s) 60) aZ9) (eE s)) 60) aZ9 with
  |some oY=>some (oY,s_ s (xQ (xR (eE s) 60) aZ9))
  |none=>none
theorem xS {S:ad}{m:Nat}:∀ {l l':List AV},kP (g_ S m) l=some l'->fH S l l'/\dm l'
 |[],l',h=>by obtain rfl:=oJ_ h;exact⟨trivial,trivial⟩
 |b::l,l',h=>by
  simp only [kP] at h
  split at h
  ·rename_i b' hb
   split at h
   ·rename_i m hm
    obtain rfl:=oJ_ h
    obtain⟨h1,h2⟩:=xS hm
    obtain⟨h3,h4⟩:=qT hb
    exact⟨⟨h3,h1⟩,⟨h4,h2⟩⟩
   ·cases h
  ·cases h
theorem vC {s s':XS}{aZ9 oY:List AV}(h:Gu s aZ9=some (oY,s')):∃ N:ad,(∀ J k o,N.get k=some o->(den J s).get k=some o)/\(∀ J k o,(den J s').get k=some o->(den J s).get k=some o/\N.get k=none)/\fH N aZ9 oY/\dm oY/\dZ s s'/\s'.lg=s.lg/\s'.nx=s.nx/\s'.yk=s.yk/\s'.an=s.an:=by
 unfold Gu at h
 split at h
 ·rename_i hp
  simp only [oI_,pI_] at h
  obtain⟨rfl,rfl⟩:=h
  exact⟨ad.none_,fun J k o h=>(by cases h),fun J k o h=>⟨h,rfl⟩,fH.refl _ _,vu hp,.refl _,rfl,rfl,rfl,rfl⟩
 ·split at h
  ·rename_i as1 hf
   simp only [oI_,pI_] at h
   obtain⟨rfl,rfl⟩:=h
   obtain⟨h1,h2⟩:=xS hf
   obtain⟨k1,k2,k3,k4,k5⟩:=C3 (K:=xQ (xR (eE s) 60) aZ9) (s:=s)
   exact⟨_,fun J k o h=>(RM h).2.2,fun J k o h=>Yp h,h1,h2,k1,k2,k3,k4,k5⟩
  ·cases h
def tJ (B:Nat):Nat->AV->Bool
 |0,_=>false
 |m+1,a=>match a with
  |.u|.v _=>true
  |.agg l|.aE l|.ip l=>gE (tJ B m) l
  |.sl _ rows=>r5 (tJ B m) rows
  |.fn _ l c=>match gE (tJ B m) l with|true=>gE (tJ B m) c|false=>false
  |.ob k _ _ _ _|.pt k _ _ _|.mp k|.yl k|.gr k _ _=>Nat.blt k B
theorem jT {B:Nat}:∀ {m:Nat}{a:AV},tJ B m a=true->dg B a
 |0,a,h=>by cases h
 |m+1,a,h=>by
  cases a with
  |u=>exact .u
  |v x=>exact .v
  |agg l=>exact .agg fun a ha=>jT (dV h a ha)
  |aE l=>exact .aE fun a ha=>jT (dV h a ha)
  |ip l=>exact .ip fun a ha=>jT (dV h a ha)
  |sl ex rows=>exact .sl fun r hr a ha=>jT (kQ h r hr a ha)
  |fn f l c =>
   simp only [tJ] at h
   split at h
   ·rename_i h1
    exact .fn (fun a ha=>jT (dV h1 a ha)) (fun a ha=>jT (dV h a ha))
   ·cases h
  |ob=>exact .ob (dC h)
  |pt=>exact .pt (dC h)
  |mp=>exact .mp (dC h)
  |yl=>exact .yl (dC h)
  |gr=>exact .gr (dC h)
def Kz (B:Nat):List (Value × AV)->Bool
 |[]=>true
 |p::l=>match tJ B 60 p.2 with|true=>Kz B l|false=>false
theorem Gv {B:Nat}:∀ {l:List (Value × AV)},Kz B l=true->∀ p ∈ l,dg B p.2
 |[],_,a,h=>by cases h
 |b::l,hp,a,h=>by
  simp only [Kz] at hp
  split at hp
  ·rename_i hb
   rcases List.mem_cons.1 h with rfl|h
   ·exact jT hb
   ·exact Gv hp a h
  ·cases hp
def RN (B:Nat):Ob->Bool
 |.arr _ rows _ _=>r5 (tJ B 60) rows
 |.mp es=>Kz B es
 |.df|.si _ _|.un=>true
 |_=>false
theorem Gw {B:Nat}{o:Ob}(h:RN B o=true):fV B o:=by
 cases o with
 |arr sz rows fz ex=>exact fun r hr a ha=>jT (kQ h r hr a ha)
 |mp es=>exact Gv h
 |df=>trivial
 |si=>trivial
 |un=>trivial
 |_=>cases h
def aaX (m:List (Nat × Nat)) (k:Nat):Option Nat:=match m with
 |[]=>none
 |p::m=>match Nat.beq p.2 k with|true=>some p.1|false=>aaX m k
def C4 (B N:Nat) (m:List (Nat × Nat)) (k:Nat):Option Nat:=match aaX m k with
 |some j=>match Nat.beq k (du B (aN m) j) && Nat.blt j N with
  |true=>some j
  |false=>none
 |none=>none
theorem n0 {B N:Nat}{m:List (Nat × Nat)}{k j:Nat}(h:C4 B N m k=some j):k=du B (aN m) j/\Nat.blt j N=true:=by
 unfold C4 at h
 split at h
 ·split at h
  ·rename_i hb
   simp only [Bool.and_eq_true] at hb
   obtain rfl:=oJ_ h
   exact⟨Nat.eq_of_beq_eq_true hb.1,hb.2⟩
  ·cases h
 ·cases h
def Gx (B N:Nat) (m:List (Nat × Nat)) (a:AV):Option AV:=match tJ B 60 a with
 |true=>some a
 |false=>match a with
  |.ob k sz off len cx=>match C4 B N m k with|some j=>some (.ob j sz off len cx)|none=>none
  |.gr k sz len=>match C4 B N m k with|some j=>some (.gr j sz len)|none=>none
  |.pt k sz i q=>match C4 B N m k with|some j=>some (.pt j sz i q)|none=>none
  |.mp k=>match C4 B N m k with|some j=>some (.mp j)|none=>none
  |_=>none
theorem Yq {B N:Nat}{m:List (Nat × Nat)}{a a':AV}(h:Gx B N m a=some a'):il B m N a a':=by
 unfold Gx at h
 split at h
 ·rename_i hk
  obtain rfl:=oJ_ h
  exact .aB (jT hk)
 ·split at h
  ·split at h
   ·rename_i j hj;obtain rfl:=oJ_ h;exact .new (n0 hj).1 (n0 hj).2
   ·cases h
  ·split at h
   ·rename_i j hj;obtain rfl:=oJ_ h;exact .jc (n0 hj).1 (n0 hj).2
   ·cases h
  ·split at h
   ·rename_i j hj;obtain rfl:=oJ_ h;exact .l5 (n0 hj).1 (n0 hj).2
   ·cases h
  ·split at h
   ·rename_i j hj;obtain rfl:=oJ_ h;exact .o7 (n0 hj).1 (n0 hj).2
   ·cases h
  ·cases h
theorem Gy {B N:Nat}{m:List (Nat × Nat)}:∀ {l l':List AV},kP (Gx B N m) l=some l'->tQ B m N l l'
 |[],l',h=>by obtain rfl:=oJ_ h;trivial
 |b::l,l',h=>by
  simp only [kP] at h
  split at h
  ·rename_i b' hb
   split at h
   ·rename_i q hq
    obtain rfl:=oJ_ h
    exact⟨Yq hb,Gy hq⟩
   ·cases h
  ·cases h
theorem Gz {B N:Nat}{m:List (Nat × Nat)}:∀ {l l':List (List AV)},rZ (Gx B N m) l=some l'->A5 B m N l l'
 |[],l',h=>by obtain rfl:=oJ_ h;trivial
 |b::l,l',h=>by
  simp only [rZ] at h
  split at h
  ·rename_i b' hb
   split at h
   ·rename_i q hq
    obtain rfl:=oJ_ h
    exact⟨Gy hb,Gz hq⟩
   ·cases h
  ·cases h
def obX (B N:Nat) (m:List (Nat × Nat)) (o:Ob):Option Ob:=match RN B o with
 |true=>some o
 |false=>match o with
  |.arr sz rows fz ex=>match rZ (Gx B N m) rows with
   |some cJ=>some (.arr sz cJ fz ex)
   |none=>none
  |_=>none
theorem aaZ {B N:Nat}{m:List (Nat × Nat)}{o o':Ob}(h:obX B N m o=some o'):wH B m N o o':=by
 unfold obX at h
 split at h
 ·rename_i hk
  obtain rfl:=oJ_ h
  exact .same (Gw hk)
 ·split at h
  ·split at h
   ·rename_i cJ hr
    obtain rfl:=oJ_ h
    exact .arr (Gz hr)
   ·cases h
  ·cases h
def C5 (B N:Nat) (m:List (Nat × Nat)) (s:XS):List Nat->Tr (Option Ob)->Tr (Option Ob)
 |[],t=>t
 |j::l,t=>match (eE s).get (du B (aN m) j) with
  |some o=>match obX B N m o with
   |some o'=>C5 B N m s l (put t j (some o'))
   |none=>C5 B N m s l t
  |none=>C5 B N m s l t
theorem vD {B N:Nat}{m:List (Nat × Nat)}{s:XS}:∀ {l:List Nat}{t:Tr (Option Ob)},(∀ j o,ft t j=some (some o)->∃ bW,(eE s).get (du B (aN m) j)=some bW/\wH B m N bW o) ->
  ∀ j o,ft (C5 B N m s l t) j=some (some o)->∃ bW,(eE s).get (du B (aN m) j)=some bW/\wH B m N bW o
 |[],t,h=>h
 |i::l,t,h=>by
  simp only [C5]
  split
  ·rename_i o ho
   split
   ·rename_i o' UB
    refine vD fun j p hj=>?_
    rw [mg] at hj
    by_cases e:j=i
    ·subst e
     rw [if_pos rfl] at hj
     injection hj with hj
     injection hj with hj
     subst hj
     exact⟨o,ho,aaZ UB⟩
    ·rw [if_neg e] at hj
     exact h j p hj
   ·exact vD h
  ·exact vD h
def aj_ (B:Nat) (a:AV):List Nat:=match a with
 |.ob k _ _ _ _|.gr k _ _|.pt k _ _ _|.mp k=>match Nat.blt k B with|true=>[]|false=>[k]
 |_=>[]
def aka (B:Nat):Ob->List Nat
 |.arr _ rows _ _=>Ky (aj_ B) rows
 |_=>[]
def dedup:List Nat->List Nat->List Nat
 |[],acc=>acc
 |k::l,acc=>match jS k acc with|true=>dedup l acc|false=>dedup l (acc++[k])
def KA (B:Nat) (s:XS):List Nat->List Nat
 |[]=>[]
 |k::l=>(match (eE s).get k with|some o=>aka B o|none=>[])++KA B s l
def grow (B:Nat) (s:XS):Nat->List Nat->List Nat
 |0,W=>W
 |m+1,W=>grow B s m (dedup (KA B s W) W)
def aa0:Nat->List Nat->List (Nat × Nat)
 |_,[]=>[]
 |i,k::l=>(i,k)::aa0 (i+1) l
def EZ (B:Nat):List (Nat × Option Ob)->List Nat
 |[]=>[]
 |p::l=>match Nat.blt p.1 B with|true=>p.1::EZ B l|false=>EZ B l
def BQ (s:XS):List (Nat × Option Ob)->List Nat
 |[]=>[]
 |p::l=>match dY s.yk p.1,p.2 with
  |false,some _=>p.1::BQ s l
  |_,_=>BQ s l
def ykL:Option Nat->List Nat
 |some k=>[k]
 |none=>[]
def xT (s:XS):List (Nat × Option Ob)->List (Nat × Ob)
 |[]=>[]
 |p::l=>match dY s.yk p.1,p.2 with
  |false,some o=>(p.1,o)::xT s l
  |_,_=>xT s l
def Pe (J:FJ):Option Nat->List (Nat × Ob)
 |some k=>[(k,.fo J)]
 |none=>[]
def nq (J:FJ) (s:XS):List (Nat × Ob):=Pe J s.yk++xT s (toLk s.m)
def BR (s:XS):List Nat:=ykL s.yk++BQ s (toLk s.m)
theorem AB {s:XS}:∀ {l:List (Nat × Option Ob)},(xT s l).map (·.1)=BQ s l
 |[]=>rfl
 |p::l=>by
  simp only [xT,BQ]
  split
  ·rw [List.map_cons,AB]
  ·exact AB
theorem GC {J:FJ}{s:XS}:(nq J s).map (·.1)=BR s:=by
 unfold nq BR
 rw [List.map_append,AB]
 cases s.yk<;>rfl
theorem uy {s:XS}{k:Nat}{o:Ob}:∀ {l:List (Nat × Option Ob)},(k,o) ∈ xT s l ↔ dY s.yk k=false/\(k,some o) ∈ l
 |[]=>by simp [xT]
 |(j,p)::l=>by
  simp only [xT]
  split
  ·rename_i q h1
   rw [List.mem_cons,List.mem_cons,uy]
   simp only [pI_,oI_]
   constructor
   ·rintro (⟨rfl,rfl⟩|⟨h3,h4⟩)
    ·exact⟨h1,.inl ⟨rfl,rfl⟩⟩
    ·exact⟨h3,.inr h4⟩
   ·rintro⟨h3,⟨rfl,rfl⟩|h4⟩
    ·exact .inl ⟨rfl,rfl⟩
    ·exact .inr ⟨h3,h4⟩
  ·rename_i a_
   rw [List.mem_cons,uy]
   simp only [pI_]
   constructor
   ·rintro⟨h3,h4⟩
    exact⟨h3,.inr h4⟩
   ·rintro⟨h3,⟨rfl,rfl⟩|h4⟩
    ·exact (a_ o h3 rfl).elim
    ·exact⟨h3,h4⟩
theorem Jb {J:FJ}{s:XS}{k:Nat}{o:Ob}:(k,o) ∈ nq J s ↔ (den J s).get k=some o:=by
 unfold nq
 rw [List.mem_append,uy,toLk_mem]
 show _ ↔ (match dY s.yk k with|true=>some (Ob.fo J)|false=>eM s k)=some o
 unfold eM
 cases hy:s.yk with
 |none =>
  simp only [Pe,dY,List.not_mem_nil,false_or]
  constructor
  ·rintro⟨_,h⟩;rw [h]
  ·intro h
   refine⟨trivial,?_⟩
   split at h
   ·rename_i h1;rw [h1,h]
   ·cases h
 |some y =>
  simp only [Pe,List.mem_singleton,pI_,dY]
  cases hb:Nat.beq y k with
  |true =>
   have:=Nat.eq_of_beq_eq_true hb
   subst this
   simp only [oI_]
   constructor
   ·rintro (⟨_,rfl⟩|⟨h,_⟩)
    ·rfl
    ·cases h
   ·rintro rfl;exact .inl ⟨by trivial,by trivial⟩
  |false =>
   constructor
   ·rintro (⟨rfl,_⟩|⟨_,h⟩)
    ·rw [Nat.beq_refl] at hb;cases hb
    ·simp only [h]
   ·intro h
    refine .inr ⟨by trivial,?_⟩
    have h:(match ft s.m k with|some o=>o|none=>none)=some o:=h
    split at h
    ·rename_i h1;rw [h1,h]
    ·cases h
theorem RO {l:List (Nat × Ob)}{g:Nat->Option Ob}(h:∀ k o,(k,o) ∈ l ↔ g k=some o):dF l=g:=by
 funext k
 cases e:dF l k with
 |some o=>exact ((h k o).1 (eO e)).symm
 |none =>
  cases e2:g k with
  |none=>rfl
  |some o =>
   have hm:=(h k o).2 e2
   have:∀ (l:List (Nat × Ob)),(k,o) ∈ l->dF l k ≠ none:=by
    intro l
    induction l with
    |nil=>intro h;cases h
    |cons p l ih =>
     intro h hn
     simp only [dF] at hn
     split at hn
     ·cases hn
     ·rename_i hb
      rcases List.mem_cons.1 h with rfl|h
      ·rw [Nat.beq_refl] at hb;cases hb
      ·exact ih h hn
   exact absurd e (this l hm)
theorem GD {J:FJ}{s:XS}:au (nq J s) s.nx=den J s:=by
 unfold au
 rw [RO (fun k o=>Jb (J:=J) (s:=s))]
 rfl
def U8 (B N:Nat) (s:XS):Option XS :=
 match grow B s 4 (dedup (KA B s (EZ B (toLk s.m))) []) with
 |W=>match aa0 B W with
  |m=>match C5 B N m s (EZ B (toLk s.m)++m.map (·.1)) .nil with
   |t=>match nz B m (BR ⟨t,N,0,s.yk,s.an,s.lg⟩) && Nat.ble B N && (match s.yk with|some k=>Nat.blt k B|none=>true) with
    |true=>some ⟨t,N,0,s.yk,s.an,s.lg⟩
    |false=>none
theorem Eh {B N:Nat}{s s':XS}{F:Nat->AV}(h:U8 B N s=some s'):s'.nx=N/\s'.yk=s.yk/\s'.an=s.an/\s'.lg=s.lg/\s'.lw=0/\∀ J,∃ m,Canon B N m ⟨F,[]⟩ (den J s) [] [] (nq J s'):=by
 unfold U8 at h
 simp only at h
 split at h
 ·rename_i hc
  simp only [Bool.and_eq_true] at hc
  obtain⟨⟨h1,h2⟩,h3⟩:=hc
  obtain rfl:=oJ_ h
  refine⟨rfl,rfl,rfl,rfl,rfl,fun J=>⟨_,trivial,rfl,?_,by rw [GC];exact h1,h2,rfl⟩⟩
  have key:∀ {l:List (Nat × Ob)}{m:List (Nat × Nat)},(∀ p ∈ l,∃ bW,(den J s).get (du B (aN m) p.1)=some bW/\wH B m N bW p.2)->gj B m N (den J s) l:=by
   intro l m
   induction l with
   |nil=>intro _;trivial
   |cons p l ih=>exact fun h=>⟨.inl (h p (by simp)),ih fun q hq=>h q (by simp [hq])⟩
  refine key fun p hp=>?_
  obtain⟨k,o⟩:=p
  unfold nq at hp
  rcases List.mem_append.1 hp with hp|hp
  ·simp only at hp h3
   cases hy:s.yk with
   |none=>rw [hy] at hp;cases hp
   |some y =>
    rw [hy] at hp h3
    simp only [Pe,List.mem_singleton,pI_] at hp
    obtain⟨rfl,rfl⟩:=hp
    refine⟨.fo J,?_,.same trivial⟩
    simp only
    rw [kc (dC h3)]
    show (match dY s.yk k with|true=>some (Ob.fo J)|false=>eM s k)=some (Ob.fo J)
    rw [hy]
    simp only [dY,Nat.beq_refl]
  ·rw [uy,toLk_mem] at hp
   obtain⟨bW,k1,k2⟩:=vD (fun j o h=>by cases h) _ _ hp.2
   exact⟨bW,(dk (J:=J) k1).1,k2⟩
 ·cases h
section
variable {P:Program}{w0:World}{n:Nat}{α:AA}{S:ad}
theorem Ei {m:Nat}{x i:QO}{o:Op}(h:res P.toTables o=some (.ny m x i)):∃ t u v e,o=.indexAddr t u v/\x=qo u/\i=qo v/\P.underlying t=some (.slice e)/\cP P e=some m:=by
 cases o<;>simp only [res,bF,dJ] at h<;>(repeat' split at h)<;>(try cases h)
 exact⟨_,_,_,_,rfl,rfl,rfl,by assumption,by assumption⟩
theorem GF {o:Oper}{m p:Nat}{x i:QO}{k len:Nat}{ik:IntKind}{j:Int}(hr:res P.toTables o.op=some (.ny m x i)) (β:AA) (h:x.ev β.tm=.gr k m len) (hi:i.ev β.tm=.v (.int ik j)) (hp:j=p) (aA:p < len):ef P w0 n o β S (.pt k m p 0) S:=by
 obtain⟨t,u,v,e,ho,rfl,rfl,hu,hs⟩:=Ei hr
 rw [aJ] at h hi
 refine aS.ops (aS.quiet fun A g q w hS hA=>?_) fun c' e=>by
  rw [ho] at e
  cases e
 have h1:=hA.ev u
 have h2:=hA.ev v
 rw [h] at h1
 rw [hi] at h2
 rcases ot h1 with ⟨rfl,A',hv⟩|⟨hk,c',hv,_,_⟩
 ·omega
 ·refine⟨_,?_,aH.pt (g:=g) (w:=w) (k:=k) (sz:=m) (i:=p) (j:=0) hk⟩
  subst hp
  simp only [execOp,ho,hv,bO h2,Instr.indexAt,asIntOf,Sem.run_bind,run_underlying hu,cA hs,Result.andThen_ok,Sem.run_pure]
  rw [if_pos ⟨by omega,by omega⟩]
  simp [cA hs,fh]
theorem ae.jU {dr:Bool}{m p:Nat}{x i:QO}{k len:Nat}{ik:IntKind}{j:Int}(h:x.ev α.tm=.gr k m len) (hi:i.ev α.tm=.v (.int ik j)) (hp:j=p) (aA:p < len):ae P w0 dr (.ny m x i) α S (.pt k m p 0) S:=by
 cases dr with
 |false=>exact fun n o hr=>GF hr α h hi hp aA
 |true =>
  intro n o hr
  obtain⟨t,u,v,e,ho,hx,hy,hu,hs⟩:=Ei hr
  have e1:∀ y ∈ [u,v],(α.only (cB o)).ev y=α.ev y:=fun y hy=>ew fun t2 e2=>ee (by rw [ho];simp [Op.operands,<-e2];simpa using hy)
  have h2:x.ev (α.only (cB o)).tm=.gr k m len:=by
   rw [<-h,hx,aJ,aJ]
   exact e1 u (by simp)
  have h3:i.ev (α.only (cB o)).tm=.v (.int ik j):=by
   rw [<-hi,hy,aJ,aJ]
   exact e1 v (by simp)
  have h4:∀ T,ef P w0 n o (α.only (cB o)) T (.pt k m p 0) T:=fun T=>GF hr _ h2 h3 hp aA
  exact⟨h4 S,fun _=>⟨rfl,h4⟩,fun _=>rfl⟩
theorem bc.oX {B:Nat}{k:LK}{x:QO}{b sz i j fz:Nat}{ex:Bool}{rows:List (List AV)}{row:List AV}{a:AV}(hx:x.ev α.tm=.pt b sz i j) (hk:S.get b=some (.arr sz rows fz ex)) (hi:rows[i]?=some row) (ha:oB k row j=some a) :
  bc P w0 B (.load k x) α S a ⟨[(b,.arr sz rows fz ex)],[],false⟩:=by
 refine fun n o hr=>⟨fun hp=>?_,(show fu S [(b,.arr sz rows fz ex)] from fun p hp=>by simp only [List.mem_singleton] at hp;subst hp;exact hk),fun T _ hT _=>?_⟩
 ·exfalso
  generalize o.op=op at hr hp
  cases op<;>simp only [res] at hr<;>(repeat' split at hr)<;>(try cases hr)<;>cases hp
 ·rw [show cY T [] false=T from cG]
  exact (ae.oX (P:=P) (w0:=w0) (dr:=true) (S:=T) hx (hT (b,.arr sz rows fz ex) (by simp)) hi ha n o hr).1
theorem Cv.aa1 {kb k sz sz' fz j m:Nat}{row:List AV}{rows:List (List AV)}{ex ex':Bool}(hb:S.get kb=some (.arr sz [row] fz ex)) (hk:S.get k=some (.arr sz' rows 0 ex')) (a_:kb ≠ k) (hj:row[j]?=some (.gr k sz' m)) (hm:m=rows.length) :
  Cv w0 n α S α ((S.set k none).set kb (some (.arr sz [row.set j (.sl false rows)] fz ex))):=by
 intro A g q w hS hA
 have hF:bp (ad.none_.set k (some (.arr sz' rows 0 ex'))) (.gr k sz' m) (.sl false rows):=.gr (aq _ _ _) (by omega) hm.symm (fun i row aV h1 h2=>by rw [h1] at h2;rw [oJ_ h2]) fun i j row aV a a' h1 h2 h3 h4=>by
  rw [h1] at h2
  obtain rfl:=oJ_ h2
  rw [h3] at h4
  obtain rfl:=oJ_ h4
  exact .refl _
 obtain⟨N,hN⟩:∃ N:ad,N=ad.none_.set k (some (.arr sz' rows 0 ex')):=⟨_,rfl⟩
 rw [<-hN] at hF
 have AD:∀ j o,N.get j=some o->j=k/\o=.arr sz' rows 0 ex':=fun j o hj=>by
  rw [hN] at hj
  have hj:a8 (fun _=>none) k (some (Ob.arr sz' rows 0 ex')) j=some o:=hj
  by_cases e:j=k
  ·subst e;rw [aq] at hj;exact⟨rfl,(oJ_ hj).symm⟩
  ·rw [aC _ _ e] at hj;cases hj
 have Ej:∀ j o,N.get j=some o->S.get j=some o:=fun j o hj=>by
  obtain⟨rfl,rfl⟩:=AD j o hj
  exact hk
 obtain⟨hE,eR⟩:=hS.Eg (S':=S.set k none) Ej (Nat.le_refl _) fun j o hj=>by
  have hj:a8 S.get k none j=some o:=hj
  by_cases e:j=k
  ·subst e;rw [aq] at hj;cases hj
  ·rw [aC _ _ e] at hj
   refine⟨hj,?_⟩
   rw [hN]
   show a8 (fun _=>none) k _ j=none
   rw [aC _ _ e]
 have U7:St w0 A g ⟨N.get,S.nx⟩ w:=hS.forget (Nat.le_refl _) fun j p hj _=>Ej j p hj
 have Iq:bp ⟨N.get,S.nx⟩ (.gr k sz' m) (.sl false rows):=hF.mono (S:=N) (T:=⟨N.get,S.nx⟩) fun _ _ _ _ _ h=>h
 refine⟨g.still N,eR.E_ (Nat.le_refl _) fun i o' hi ha=>?_,hA.later hE.toLater,hE⟩
 have hi:a8 (S.set k none).get kb (some (.arr sz [row.set j (.sl false rows)] fz ex)) i=some o':=hi
 by_cases e:i=kb
 ·subst e
  rw [aq] at hi
  obtain rfl:=oJ_ hi
  have jj:(S.set k none).get i=some (.arr sz [row] fz ex):=by
   show a8 S.get k none i=_
   rw [aC _ _ a_]
   exact hb
  refine⟨_,jj,fun h=>?_,fun J h=>by cases h⟩
  obtain⟨cs,ty,h1,h2,h3,h4,h5,h6,h7⟩:=h
  have cz:g.al i:=ha
  obtain⟨_,_,xx,ty0,b1,b2,b3,b4,b5,b6,b7⟩:=hS.bR i _ hb cz
  have e1:w.heap[g.ob i]?=some (.cells cs ty (0,0)):=h1
  rw [e1] at b1
  simp only [oI_,Obj.cells.injEq] at b1
  obtain⟨rfl,rfl,_⟩:=b1
  refine⟨cs,ty,h1,h2,h3,h4,fun r aV hr=>?_,h6,h7⟩
  cases r with
  |succ r=>simp at hr
  |zero =>
   simp only [List.getElem?_cons_zero,oI_] at hr
   subst hr
   obtain⟨q1,q2⟩:=h5 0 row rfl
   refine⟨by rw [List.length_set];exact q1,fun p a hp=>?_⟩
   rw [List.getElem?_set] at hp
   by_cases e2:j=p
   ·subst e2
    have aA:=(List.getElem?_eq_some_iff.1 hj).1
    rw [if_pos rfl,if_pos aA] at hp
    obtain rfl:=oJ_ hp
    obtain⟨x,hx,dH⟩:=(b5 0 row rfl).2 j _ hj
    exact⟨x,hx,Iq.rep U7 dH⟩
   ·rw [if_neg e2] at hp
    exact q2 p a hp
 ·rw [aC _ _ e] at hi
  exact⟨o',hi,fun h=>h,fun J h=>h⟩
end
def wl (so:List (Nat × Ob)) (N:Nat):List (Nat × Option Ob):=(List.range N).map fun k=>(k,dF so k)
theorem Yr {so:List (Nat × Ob)}{N:Nat}{G:Nat->Option Ob}(k:Nat):dw G (wl so N) k=if k < N then dF so k else G k:=by
 have key:∀ (l:List Nat),dw G (l.map fun k=>(k,dF so k)) k=if k ∈ l then dF so k else G k:=by
  intro l
  induction l with
  |nil=>rfl
  |cons j l ih =>
   rw [List.map_cons,dw]
   by_cases e:k=j
   ·subst e;rw [aq,if_pos (by simp)]
   ·rw [aC _ _ e,ih];simp [e]
 rw [wl,key]
 simp
theorem GH {T:ad}{W:List (Nat × Option Ob)}{m:Bool}:(cY T W m).get=dw T.get W/\(cY T W m).nx=T.nx+AE W m:=by rw [dI];exact⟨rfl,rfl⟩
structure xU (so:List (Nat × Ob)) (N:Nat):Prop where
 get:∀ j o,dF so j=some o->j < N/\fV N o/\∀ J,o ≠ .fo J
section
variable {P:Program}{w0:World}{dr:Bool}{N B n:Nat}{so so':List (Nat × Ob)}{S T:ad}{α:AA}{f:FuncId}{args:List AV}{r:AV}
theorem aK.here (h:aK P w0 f args (au so N) r (au so' N)) (hN:N<=T.nx) (hs:xU so N) (hg:∀ j o,dF so j=some o->T.get j=some o) (eD:xU so' N) (ha:∀ a ∈ args,dg N a) (hr:dg N r) (m:Bool):aK P w0 f args T r (cY T (wl so' N) m):=by
 obtain⟨T',rV⟩:∃ T':ad,T'=⟨fun k=>if k < T.nx then T.get k else none,T.nx⟩:=⟨_,rfl⟩
 have get':∀ k o,T'.get k=some o->k < T.nx/\T.get k=some o:=fun k o hk=>by
  rw [rV] at hk
  have hk:(if k < T.nx then T.get k else none)=some o:=hk
  split at hk
  ·exact⟨by assumption,hk⟩
  ·cases hk
 have mV:T'.nx=T.nx:=by rw [rV]
 have ql:∀ k o,k < T.nx->T.get k=some o->T'.get k=some o:=fun k o hk h=>by
  rw [rV]
  show (if k < T.nx then T.get k else none)=some o
  rw [if_pos hk];exact h
 obtain⟨U,hU⟩:∃ U:ad,U=⟨fun k=>if k < N then dF so' k else T'.get k,T.nx⟩:=⟨_,rfl⟩
 have ho:∀ k,k < N->cV id N T'.nx k=k:=fun k hk=>mG hk
 have hf:Fits id (au so N) (au so' N) T' U:=by
  refine⟨fun i j _ _ e=>e,fun j hj=>by rw [mV];exact Nat.lt_of_lt_of_le hj hN,fun j o hj=>?_,fun k o hk=>?_,.inr ⟨Nat.le_refl _,by rw [hU,mV]⟩,.inr fun j J hj=>?_⟩
  ·obtain⟨h1,h3,h4⟩:=hs.get j o hj
   exact⟨o,ql j o (Nat.lt_of_lt_of_le h1 hN) (hg j o hj),jY.b9 h3 h4⟩
  ·rw [hU] at hk
   have hk:(if k < N then dF so' k else T'.get k)=some o:=hk
   split at hk
   ·rename_i fy
    obtain⟨q1,q3,q4⟩:=eD.get k o hk
    refine .inl ⟨k,o,ho k fy,hk,fun gc g w b cp hB _ nQ=>?_,fun J e=>e⟩
    have oD:∀ k,k < N->cV id (au so N).nx T'.nx k=k:=ho
    exact dA.b9 (B:=N) (fun k hk ha=>by have:=hB.al k ha;rwa [oD k hk] at this) (fun k hk ha=>by have:=hB.ob k ha;rwa [oD k hk] at this) (fun k hk ha=>by have:=hB.cp k ha;rwa [oD k hk] at this) hB.fz q3 q4 (fun hk h=>aH.back oD hB hk h) nQ
   ·rename_i fy
    exact .inr ⟨by rw [mV];exact (get' k o hk).1,fun j hj e=>fy (by rw [<-e];exact hj),hk⟩
  ·exact absurd rfl ((eD.get j _ hj).2.2 J)
 have hc:=h.frame hf rfl (fun i a b h1 h2=>by
  rw [h1] at h2
  obtain rfl:=oJ_ h2
  exact Rn.b9 (ha _ (List.mem_of_getElem? h1))) (fun gc g w x hB nQ=>aH.back (N:=N) (o:=cV id (au so N).nx T'.nx) ho hB hr nQ)
 refine⟨hc.1,fun F m' A g aQ w hF hS hA=>(hc.2 F m' A g aQ w hF (hS.forget (by rw [mV];exact Nat.le_refl _) fun j p hj _=>(get' j p hj).2) hA).mono ?_⟩
 rintro e w' ⟨v,g',rfl,h1,h2,h3⟩
 refine⟨v,g',rfl,h1,h2.forget (by rw [GH.2,hU];exact Nat.le_add_right _ _) fun j p hj aO=>?_,h3⟩
 have aA:=h2.al j aO
 rw [hU] at aA ⊢
 have aA:j < T.nx:=aA
 rw [GH.1,Yr] at hj
 show (if j < N then dF so' j else T'.get j)=some p
 split
 ·rename_i e;rwa [if_pos e] at hj
 ·rename_i e;rw [if_neg e] at hj;exact ql j p aA hj
theorem ae.jN {fq:QO}{fe:List QO}(hc:aK P w0 f args (au so N) r (au so' N)) (h:dM (fq.ev α.tm) (fe.map (·.ev α.tm))=some (f,args)) (hN:N<=T.nx) (hs:xU so N) (hg:∀ j o,dF so j=some o->T.get j=some o) (eD:xU so' N) (ha:∀ a ∈ args,dg N a) (hr:dg N r) :
  ae P w0 false (.call fq fe) α T r (cY T (wl so' N) false):=ae.call h (hc.here hN hs hg eD ha hr false) fun e=>by cases e
theorem bc.jN {fq:QO}{fe:List QO}(m:Bool) (hc:aK P w0 f args (au so N) r (au so' N)) (h:dM (fq.ev α.tm) (fe.map (·.ev α.tm))=some (f,args)) (hN:N<=B\/(m=true/\N<=S.nx)) (hs:xU so N) (hg:fu S so) (hd:∀ p ∈ so,dF so p.1=some p.2) (eD:xU so' N) (ha:∀ a ∈ args,dg N a) (hr:dg N r) :
  bc P w0 B (.call fq fe) α S r ⟨so,wl so' N,m⟩:=by
 intro n o eK
 obtain⟨c,u,ho,hu,FY,has⟩:=jP eK
 refine⟨fun hp=>(by rw [ho] at hp;simp only [nO,lX,hu] at hp;cases hp),hg,fun T hB hT hm=>?_⟩
 have eo:∀ q ∈ (.call c:Op).operands,(α.only (cB o)).ev q=α.ev q:=fun q hq=>ew fun t ht=>ee (by rw [ho,<-ht];exact hq)
 have h':dM (fq.ev (α.only (cB o)).tm) (fe.map (·.ev (α.only (cB o)).tm))=some (f,args):=by
  rw [<-h,FY,has,aJ,aJ,ij,ij,eo u (show u ∈ c.operands by simp [Call.operands,hu])]
  congr 1
  exact List.map_congr_left fun q hq=>eo q (show q ∈ c.operands by simp [Call.operands,hu];exact .inr (by simpa using hq))
 refine (ae.call (dr:=false) h' (hc.here (T:=T) ?_ hs (fun j o hj=>hT (j,o) (eO hj)) eD ha hr m) (fun e=>by cases e)) n o eK
 rcases hN with hN|⟨e,hN⟩
 ·exact Nat.le_trans hN hB
 ·rw [hm e];exact hN
end
section
variable {P:Program}{w0:World}{n B:Nat}{o:Oper}{α:AA}{S:ad}{r:AV}
theorem KB {t e:TypeId}{len sz:Nat}{parts:Array (Nat × Operand)}{z:Value}{rows:List (List AV)}(ho:o.op=.buildSlice t len parts) (hu:P.underlying t=some (.slice e)) (hz:cU P e=some z) (hs:cP P e=some sz)
  (h1:len*sz<=16777216) (h2:z.cells.size=sz) (h3:0 < sz) (h:qP sz (List.replicate len (z.cells.toList.map bJ)) (parts.toList.map fun (i,x)=>(i,α.ev x))=some rows):aS P w0 n o α S (.gr S.nx sz rows.length) (S.new (.arr sz rows 0 false)):=by
 intro A g a w hS hA
 obtain⟨cs,hf,hr,hl⟩:=tE h (by rw [<-h2];exact D6 (by omega)) (sX hA parts.toList)
 rw [List.length_replicate] at hl
 obtain⟨hE,cQ⟩:=hS.new (.cells cs e) (.arr sz rows 0 false) len (fun J=>by simp) (fun hL=>by
  refine⟨cs,e,c_,by rw [hr.1,hl],by omega,(fun h=>by cases h),fun i row hi=>?_,Nat.zero_le _,fun q=>⟨fun hf=>?_,fun hf=>by simp at hf⟩⟩
  ·obtain⟨q1,q2⟩:=hr.2 i row hi
   refine⟨q1,fun j a ha=>?_⟩
   obtain⟨x,hx,dH⟩:=q2 j a ha
   exact⟨x,hx,dH.later hL⟩
  ·exact absurd (hS.cC _ _ hf) (by omega))
 refine⟨.slice (some ⟨w.heap.size,0,none⟩) len len,w.alloc (.cells cs e),g.new S.nx w.heap.size len,.inl ?_,?_,cQ,hE⟩
 ·have As:¬ (len*sz > 2 ^ 24):=by omega
  rw [h2] at hf
  simp only [execOp,ho,Instr.buildSlice,Sem.run_bind,run_underlying hu,Result.andThen_ok,cA hs,if_neg As]
  by_cases c:len*sz=0
  ·have e0:∀ f:Nat->Value,(Array.range (len*sz)).map f=#[]:=fun f=>by rw [c];simp
   rw [e0] at hf
   have xA:Instr.fill (fun i=>some (i*sz,sz)) ((Array.range (len*sz)).map fun x=>(#[]:Array Value)[x % (#[]:Array Value).size]!) (Array.map (fun x=>(x.fst,a.eval x.snd)) parts).toList=some cs:=by
    rw [e0,Array.toList_map]
    exact hf
   rw [if_pos c]
   simp only [Sem.run_bind,Sem.run_pure,Result.andThen_ok,xA,newRow,run_newObj]
   rfl
  ·have xA:Instr.fill (fun i=>some (i*sz,sz)) ((Array.range (len*sz)).map fun x=>z.cells[x % z.cells.size]!) (Array.map (fun x=>(x.fst,a.eval x.snd)) parts).toList=some cs:=by
    rw [Array.toList_map,h2]
    exact hf
   rw [if_neg c]
   simp only [Sem.run_bind,kG hz,Sem.run_pure,Result.andThen_ok,xA,newRow,run_newObj]
   rfl
 ·have:=aH.gr (g:=g.new S.nx w.heap.size len) (w:=w.alloc (.cells cs e)) (k:=S.nx) (sz:=sz) (len:=rows.length) (c:=len) (.inr rfl) (aq _ _ _).symm (by omega)
  rw [show (g.new S.nx w.heap.size len).ob S.nx=w.heap.size from aq _ _ _,hl] at this
  rw [hl]
  exact this
theorem RP {op:Op}{sz:Nat}{r0:List (List AV)}{ps:List (Nat × QO)}(h:res P.toTables op=some (.rows sz r0 ps)):∃ t e len parts z,op=.buildSlice t len parts/\P.underlying t=some (.slice e)/\cU P e=some z/\cP P e=some sz/\len*sz<=16777216/\z.cells.size=sz/\0 < sz/\r0=List.replicate len (z.cells.toList.map bJ)/\ps=parts.toList.map fun (i,x)=>(i,qo x):=by
 cases op with
 |buildSlice t len parts =>
  simp only [res,jE,gn,dJ] at h
  split at h
  ·rename_i e he
   split at h
   ·rename_i z n hz hs
    split at h
    ·rename_i hb
     simp only [oI_,dp.rows.injEq] at h
     obtain⟨rfl,rfl,rfl⟩:=h
     simp only [Bool.and_eq_true] at hb
     have hu:P.underlying t=some (.slice e):=by
      unfold fJ at he
      split at he
      ·rename_i h;rw [h,oJ_ he]
      ·cases he
     exact⟨_,_,_,_,_,rfl,hu,hz,hs,Nat.le_of_ble_eq_true hb.1.1,Nat.eq_of_beq_eq_true hb.1.2,dC hb.2,rfl,rfl⟩
    ·cases h
   all_goals cases h
  ·cases h
 |_ =>
  simp only [res] at h
  repeat' split at h
  all_goals cases h
theorem bc.ad8 {sz:Nat}{r0 rows:List (List AV)}{ps:List (Nat × QO)}(h:qP sz r0 (ps.map fun (i,x)=>(i,x.ev α.tm))=some rows):bc P w0 B (.rows sz r0 ps) α S (.gr S.nx sz rows.length) ⟨[],[(S.nx,some (.arr sz rows 0 false))],true⟩:=by
 intro n o hr
 obtain⟨t,e,len,parts,z,ho,h1,h2,h3,h4,h5,h6,rfl,rfl⟩:=RP hr
 refine⟨fun hp=>(by rw [ho] at hp;cases hp),(show fu S [] from fun p hp=>by cases hp),fun T _ _ hm=>?_⟩
 have e1:T.nx=S.nx:=hm rfl
 have e2:cY T [(S.nx,some (.arr sz rows 0 false))] true=T.new (.arr sz rows 0 false):=by
  rw [<-e1];cases T;rfl
 rw [e2,<-e1]
 refine (KB ho h1 h2 h3 h4 h5 h6 ?_).ops fun c e=>by rw [ho] at e;cases e
 have eo:∀ q ∈ (Op.buildSlice t len parts).operands,(α.only (cB o)).ev q=α.ev q:=fun q hq=>ew fun t ht=>ee (by rw [ho,<-ht];exact hq)
 rw [<-h,List.map_map]
 congr 1
 refine List.map_congr_left fun p hp=>?_
 simp only [Function.comp,aJ]
 rw [eo p.2 (by simp only [Op.operands];simp;exact⟨p.1,by simpa using hp⟩)]
theorem Pf {o:Oper}{sz:Nat}{x hi:QO}{k len h:Nat}{ik:IntKind}{j:Int}{rows:List (List AV)}{ex:Bool}(hr:res P.toTables o.op=some (.slice (.sl sz) x none (some hi) none)) (hx:x.ev α.tm=.gr k sz len) (hk:S.get k=some (.arr sz rows 0 ex)) (hn:len=rows.length) (hj:hi.ev α.tm=.v (.int ik j)) (hh:j=h) (aA:h < len) :
  aS P w0 n o α S (.gr k sz h) (S.set k (some (.arr sz (rows.take h) 0 false))):=by
 obtain⟨t,u,v,e,ho,rfl,rfl,hu,hs⟩:∃ t u v e,o.op=.slice t u none (some v) none/\x=qo u/\hi=qo v/\P.underlying t=some (.slice e)/\cP P e=some sz:=by
  generalize o.op=op at hr
  cases op with
  |slice t u lo hh mx =>
   simp only [res,bF,dJ] at hr
   split at hr
   ·simp at hr
   ·rename_i e he
    split at hr
    ·rename_i m hm
     simp only [oI_,dp.slice.injEq,SK.sl.injEq] at hr
     obtain⟨rfl,rfl,h1,h2,h3⟩:=hr
     cases lo with
     |some _=>cases h1
     |none =>
      cases mx with
      |some _=>cases h3
      |none =>
       cases hh with
       |none=>cases h2
       |some v=>exact⟨t,u,v,e,rfl,rfl,(oJ_ h2).symm,he,hm⟩
    ·cases hr
   ·cases hr
  |_ =>
   simp only [res] at hr
   repeat' split at hr
   all_goals cases hr
 rw [aJ] at hx hj
 intro A g a w hS hA
 have h1:=hA.ev u
 have h2:=hA.ev v
 rw [hx] at h1
 rw [hj] at h2
 rcases ot h1 with ⟨rfl,_⟩|⟨aO,c,hv,hc,hle⟩
 ·omega
 ·have hb:=kU (P:=P) (isSl:=true) (len:=len) (cap:=c) (w:=w) (lo:=none) (hi:=some v) (l:=0) (h:=j) hA rfl (by simp only [Option.map_some,kh,hj]) (Int.le_refl _) (by omega) (by omega)
  have iR:(Instr.slice t (a.eval u) none (some (a.eval v)) none).run P w=.ok (.slice (some ⟨g.ob k,0,none⟩) h c) w:=by
   subst hh
   simp only [Option.map_none,Option.map_some] at hb
   simp [Instr.slice,hv,run_underlying hu,hb,cA hs,fh]
  have eR:St w0 A g (S.set k (some (.arr sz (rows.take h) 0 false))) w:=by
   refine hS.E_ (Nat.le_refl _) fun i o' hi ha=>?_
   have hi:a8 S.get k (some (.arr sz (rows.take h) 0 false)) i=some o':=hi
   by_cases e':i=k
   ·subst e'
    rw [aq] at hi
    obtain rfl:=oJ_ hi
    refine⟨_,hk,fun nQ=>?_,fun J h=>by cases h⟩
    obtain⟨cs,ty,p1,p2,p3,p4,p5,p6,p7⟩:=nQ
    refine⟨cs,ty,p1,p2,by rw [List.length_take];omega,(fun h=>by cases h),fun i row hi=>?_,Nat.zero_le _,p7⟩
    rw [List.getElem?_take] at hi
    split at hi
    ·exact p5 i row hi
    ·cases hi
   ·rw [aC _ _ e'] at hi
    exact⟨o',hi,fun h=>h,fun J h=>h⟩
  refine⟨_,w,g,.inl ?_,.gr aO hc (by omega),eR,Ext.refl ..⟩
  simp only [execOp,ho,Sem.run_bind,Option.map_none,Option.map_some,vE hu (fun _ _ h=>by cases h),iR,Result.andThen_ok]
  rfl
theorem ae.ad9 {sz:Nat}{x hi:QO}{k len h:Nat}{ik:IntKind}{j:Int}{rows:List (List AV)}{ex:Bool}(hx:x.ev α.tm=.gr k sz len) (hk:S.get k=some (.arr sz rows 0 ex)) (hn:len=rows.length) (hj:hi.ev α.tm=.v (.int ik j)) (hh:j=h) (aA:h < len) :
  ae P w0 false (.slice (.sl sz) x none (some hi) none) α S (.gr k sz h) (S.set k (some (.arr sz (rows.take h) 0 false))):=ae.run fun n o hr=>Pf hr hx hk hn hj hh aA
end
section
set_option maxRecDepth 100000
attribute [local irreducible] ah aK ae aa
def U9:CF Tryz.f369:=⟨_,by conv=>lhs;cbv⟩
theorem ad_:aT Tryz.prog 369 U9.1 Tryz.f369.ntmps:=bX Tryz.func369 U9.2 Tryz.call369
def qn:List Nat:=[1,0,4,13]
def iG (k:Nat):List AV:=[iv k]
def qD (ρ:Hd) (x:Tm × List Nat):List AV:=[iv x.1.k,iv x.1.i,.v (.string x.1.n),tl ρ x.1.a,cE ρ iG false x.2]
def zH (q:Int × Int):AV:=.agg [iv q.1,iv q.2]
def gO (nl ul:Nat):Ob:=.arr 6 [[.gr 1 5 nl,.mp 2,.gr 3 1 ul,.mp 4,.mp 5,.mp 6]] 0 true
def dO (ρ:Hd) (N:bj):Ob:=.arr 5 (ρ.h (List.map (qD ρ)) N) 0 false
def dP (ρ:Hd) (up:List Nat):Ob:=.arr 1 (ρ.h (List.map iG) up) 0 false
def dQ (ρ:Hd) (kv:List (Int × Int)):Ob:=.mp (ρ.h (cX iv) kv)
def bB (ρ:Hd) (kv:List (Int × Int)):Ob:=.mb (ρ.h (cX iv) kv)
def dR (ρ:Hd) (kv:KN):Ob:=.mp (ρ.h (cX zH) kv)
def gS (ρ:Hd) (s:PS) (kn:KN):List (Nat × Ob):=[(0,gO s.N.length s.js.up.length),(1,dO ρ s.N),(2,bB ρ s.vs),(3,dP ρ s.js.up),(4,dQ ρ s.js.sh),(5,bB ρ s.js.ls),(6,dR ρ kn)]
section
variable {ρ:Hd}{B:Nat}
theorem nr {nl ul:Nat}(h:6 < B):fV B (gO nl ul):=fun row hr a ha=>by
 obtain rfl:=List.mem_singleton.1 hr
 simp only [List.mem_cons,List.not_mem_nil,or_false] at ha
 rcases ha with rfl|rfl|rfl|rfl|rfl|rfl
 ·exact .gr (by omega)
 ·exact .mp (by omega)
 ·exact .gr (by omega)
 ·exact .mp (by omega)
 ·exact .mp (by omega)
 ·exact .mp (by omega)
theorem RQ (x:Tm × List Nat):∀ a ∈ qD ρ x,Pure a:=by
 intro a ha
 simp only [qD,List.mem_cons,List.not_mem_nil,or_false] at ha
 rcases ha with rfl|rfl|rfl|rfl|rfl
 ·exact .v
 ·exact .v
 ·exact .v
 ·exact bl _
 ·exact fg fun x _ a ha=>by
   obtain rfl:=List.mem_singleton.1 ha
   exact .v
theorem pv (N:bj):∀ row ∈ ρ.h (List.map (qD ρ)) N,∀ a ∈ row,Pure a:=by
 rw [ρ.eq]
 intro row hr a ha
 obtain⟨x,_,rfl⟩:=List.mem_map.1 hr
 exact RQ x a ha
theorem pw (N:List Nat):∀ row ∈ ρ.h (List.map iG) N,∀ a ∈ row,Pure a:=by
 rw [ρ.eq]
 intro row hr a ha
 obtain⟨x,_,rfl⟩:=List.mem_map.1 hr
 obtain rfl:=List.mem_singleton.1 ha
 exact .v
theorem i_ (N:bj):fV B (dO ρ N):=fun row hr a ha=>Pure.b9 (pv N row hr a ha)
theorem iu (N:List Nat):fV B (dP ρ N):=fun row hr a ha=>Pure.b9 (pw N row hr a ha)
theorem dT {T:Type}{f:T->AV}(hf:∀ x,Pure (f x)) (kv:List (Int × T)):∀ e ∈ ρ.h (cX f) kv,Pure e.2:=by
 rw [ρ.eq]
 intro e he
 obtain⟨p,_,rfl⟩:=List.mem_map.1 he
 exact hf _
theorem ia (x:Int):Pure (iv x):=.v
theorem sf (q:Int × Int):Pure (zH q):=.agg (tA .v .v)
theorem iw (kv:List (Int × Int)):fV B (dQ ρ kv):=fun e he=>Pure.b9 (dT ia kv e he)
theorem cR (kv:List (Int × Int)):fV B (bB ρ kv):=fun e he=>Pure.b9 (dT ia kv e he)
theorem iy (kv:KN):fV B (dR ρ kv):=fun e he=>Pure.b9 (dT sf kv e he)
end
theorem gC {N:Nat}{ρ:Hd}{S:ad}{nl ul:Nat}{Nd:bj}{vs sh ls:List (Int × Int)}{up:List Nat}{kn:KN}(h0:S.get 0=some (gO nl ul):=by rfl) (h1:S.get 1=some (dO ρ Nd):=by rfl) (h2:S.get 2=some (bB ρ vs):=by rfl) (h3:S.get 3=some (dP ρ up):=by rfl)
  (h4:S.get 4=some (dQ ρ sh):=by rfl) (h5:S.get 5=some (bB ρ ls):=by rfl) (h6:S.get 6=some (dR ρ kn):=by rfl):gj 7 [] N S [(0,gO nl ul),(1,dO ρ Nd),(2,bB ρ vs),(3,dP ρ up),(4,dQ ρ sh),(5,bB ρ ls),(6,dR ρ kn)] :=
 ⟨.inl ⟨_,h0,.same (nr (by omega))⟩,.inl ⟨_,h1,.same (i_ _)⟩,.inl ⟨_,h2,.same (cR _)⟩,.inl ⟨_,h3,.same (iu _)⟩,.inl ⟨_,h4,.same (iw _)⟩,.inl ⟨_,h5,.same (cR _)⟩,.inl ⟨_,h6,.same (iy _)⟩,trivial⟩
section
variable {w0:World}{ρ:Hd}
theorem uz {s:PS}{kn:KN}{k r:Nat}{u:List Nat}(hl:s.js.up.length<=1099511627776) (h:gQ s.js.up k=some (u,r)) :
  aK Tryz.prog w0 369 [.pt 0 6 0 0,iv k] (au (gS ρ s kn) 7) (iv r) (au (gS ρ ⟨s.N,s.vs,⟨u,s.js.sh,s.js.ls⟩⟩ kn) 7):=by
 obtain⟨m,hm⟩:=vd h
 obtain⟨N,vs,up,sh,ls⟩:=s
 dsimp only at hl hm ⊢
 have lz:u.length=up.length:=by
  clear h hl
  revert up k hm
  induction m with
  |zero=>intro k up hm;cases hm
  |succ m ih =>
   intro k up hm
   rw [fL] at hm
   split at hm
   ·cases hm
   ·split at hm
    ·simp only [oI_,pI_] at hm;rw [hm.1]
    ·split at hm
     ·cases hm
     ·have:=ih _ hm;rwa [List.length_set] at this
 obtain⟨ul,nR⟩:∃ ul,ul=up.length:=⟨_,rfl⟩
 obtain⟨nl,eF⟩:∃ nl,nl=N.length:=⟨_,rfl⟩
 simp only [gS,<-nR,<-eF,lz]
 refine aT.fM 7 7 _ ad_ (by simp [Tryz.ntmps369]) rfl rfl ?_
 refine gq qn ?_
 refine aa.bP (σ:=Nat × List Nat × Nat) 7 7 [] (fun p=>[(0,.pt 0 6 0 0),(1,iv p.1),(4,iv 0)]) [] (fun p=>[(0,gO nl ul),(1,dO ρ N),(2,bB ρ vs),(3,dP ρ p.2.1),(4,dQ ρ sh),(5,bB ρ ls),(6,dR ρ kn)])
  (fun p=>p.2.1.length=ul/\fL p.2.2 p.2.1 p.1=some (u,r)) (fun p=>p.2.2) (k,up,m) ⟨nR.symm,hm⟩ rfl (by exact⟨sq,rfl,gC,rfl,rfl,rfl⟩) ?_
 rintro⟨k,up,m⟩ ⟨hu,hm⟩
 simp only at hu hm
 cases m with
 |zero=>cases hm
 |succ m =>
  rw [fL] at hm
  cases hp:up[k]? with
  |none=>rw [hp] at hm;cases hm
  |some p =>
   rw [hp] at hm
   simp only at hm
   have dN:=(List.getElem?_eq_some_iff.1 hp).1
   have eh:k < ul:=by omega
   by_cases e:p=k
   ·rw [if_pos e] at hm
    simp only [oI_,pI_] at hm
    obtain⟨rfl,rfl⟩:=hm
    subst e
    refine gq qn ?_
    repeat' (first
     |((refine aa.op rfl (ae.jU rfl rfl rfl eh) ?_;refine aa.op rfl (ae.oX rfl rfl (fU (f:=iG) hp) rfl) ?_;refine gq qn ?_))
     |(refine bq (fun hb=>?_) (fun hb=>?_)<;>(try simp only [aM] at hb)<;>(first|exact absurd hb (by decide)|refine gq qn ?_))
     |(refine aa.aR ?_;refine gq qn ?_)
     |(refine fq ?_))
    all_goals first
     |exact⟨[],.aB .v,gC,rfl⟩
   ·rw [if_neg e] at hm
    cases hq:up[p]? with
    |none=>rw [hq] at hm;cases hm
    |some q =>
     rw [hq] at hm
     simp only at hm
     have hp1:=(List.getElem?_eq_some_iff.1 hq).1
     have iN:p < ul:=by omega
     have hs:(up.set k q)[k]?=some q:=by rw [List.getElem?_set,if_pos rfl,if_pos dN]
     refine gq qn ?_
     repeat' (first
      |((refine aa.op rfl (ae.jU rfl rfl rfl eh) ?_;refine aa.op rfl (ae.oX rfl rfl (fU (f:=iG) hp) rfl) ?_;refine gq qn ?_))
      |((refine aa.op rfl (ae.jU rfl rfl rfl iN) ?_;refine aa.op rfl (ae.oX rfl rfl (fU (f:=iG) hq) rfl) ?_;refine gq qn ?_))
      |((refine aa.op rfl (ae.jU rfl rfl rfl eh) ?_;refine aa.Kx (f:=iG) (y:=q) rfl rfl rfl rfl rfl (fun _=>rfl) rfl dN (fun met xV=>?_);refine gq qn ?_))
      |((refine aa.op rfl (ae.jU rfl rfl rfl eh) ?_;refine aa.op rfl (ae.oX rfl rfl (fU (f:=iG) (x:=q) (by rw [xV];exact hs)) rfl) ?_;refine gq qn ?_))
      |(refine bq (fun hb=>?_) (fun hb=>?_)<;>(try simp only [aM] at hb)<;>(first|refine gq qn ?_))
      |(refine aa.aR ?_;refine gq qn ?_)
      |(refine fq ?_))
     all_goals first
      |exact absurd (Int.ofNat.inj hb) e
      |(refine aa.bm (σ:=Nat × List Nat × Nat) (q,met,m) [] ⟨by rw [xV,List.length_set];exact hu,by rw [xV];exact hm⟩ ?_ (by exact⟨sq,rfl,gC,rfl,rfl,rfl⟩);exact Nat.lt_succ_self _)
end
end
end Go.Proofs.YtgjfgekaclobaaaGreat
