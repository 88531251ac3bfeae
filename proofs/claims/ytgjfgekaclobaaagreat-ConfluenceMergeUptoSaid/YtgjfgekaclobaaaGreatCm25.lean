import Derived.Test.YtgjfgekaclobaaaGreatCm24
namespace Go.Proofs.YtgjfgekaclobaaaGreat
set_option linter.unusedVariables false
set_option linter.unusedSimpArgs false
open Go.RowKit
section
set_option maxRecDepth 100000
attribute [local irreducible] av aE ad ab
def wE (x:Tm):List Tm:=if x.k=2 then x.a else []
mutual
def fB:Tm->Nat
 |⟨k,i,n,a⟩=>if k=2 then 1+fW a else 1
def fW:List Tm->Nat
 |[]=>0
 |x::l=>fB x+fW l
end
mutual
def nL:Tm->Nat
 |⟨k,i,n,a⟩=>if k=2 then 1+mj a else 1
def mj:List Tm->Nat
 |[]=>0
 |x::l=>max (nL x) (mj l)
end
theorem BL (x:Tm):fB x=1+fW (wE x):=by
 obtain⟨k,i,n,a⟩:=x
 rw [fB,wE]
 split<;>rfl
theorem Ed (x:Tm):nL x=1+mj (wE x):=by
 obtain⟨k,i,n,a⟩:=x
 rw [nL,wE]
 split<;>rfl
theorem Js (x:Tm):1<=fB x:=by rw [BL];omega
end
section
set_option maxRecDepth 100000
attribute [local irreducible] av aE ad ab
def ir (s:ByteArray):Bool:=s.toList == ((⟨#[43]⟩:ByteArray)).toList || s.toList == ((⟨#[45]⟩:ByteArray)).toList || s.toList == ((⟨#[42]⟩:ByteArray)).toList || s.toList == ((⟨#[47]⟩:ByteArray)).toList || s.toList == ((⟨#[37]⟩:ByteArray)).toList
def qe (n:ByteArray) (a:List Tm):Bool:=n.toList == (⟨#[]⟩:ByteArray).toList && a.isEmpty
mutual
def ml:Tm->Bool
 |⟨k,i,n,a⟩=>if k=0 then decide (-2147483648<=i) && decide (i<=2147483648) && qe n a else if k=1 then decide (0<=i) && decide (i<=1048576) && qe n a
  else if k=2 then i == 0 && (ir n && a.length == 2 || pG n && decide (a.length<=6)) && pH a else false
def pH:List Tm->Bool
 |[]=>true
 |x::l=>ml x && pH l
end
def eM (x:Tm):Bool:=ml x && decide (fB x<=200) && decide (nL x<=20)
theorem QK {B sz fz:Nat}{row:List AV}{ex:Bool}(h:∀ a ∈ row,Pure a):kH B (.arr sz [row] fz ex):=fun r hr a ha=>by
 obtain rfl:=List.mem_singleton.1 hr
 exact (h a ha).bT
end
section
set_option maxRecDepth 100000
attribute [local irreducible] av aE ad ab
def okz (l:List Tm):Prop:=sr l/\fW l<=1099511627776
end
section
variable {P:Program}{w0:World}{n:Nat}{S S':aa}{f:FuncId}{args:List AV}{r r':AV}{B N:Nat}{m:List (Nat × Nat)}{so:List (Nat × Ob)}
theorem aE.canon (h:aE P w0 f args S r S') (hn:Nat.ble S.nx B=true) (hr:fy B m N r r') (ho:eI B m N S' so) (hd:ly B m (so.map (·.1))=true) (hb:Nat.ble B N=true):aE P w0 f args S r' (au so N):=by
 refine⟨h.1,fun F mm A g aV w hF hS hA=>(h.2 F mm A g aV w hF hS hA).mono ?_⟩
 rintro e w' ⟨v,g',rfl,h3,h4,h5⟩
 have hC:Canon B N m ⟨fun _=>.u,[]⟩ S' [] [] so:=⟨trivial,rfl,ho,hd,hb,rfl⟩
 have hN:=Nat.le_of_ble_eq_true hb
 exact⟨v,g'.eE B N (aN m),rfl,fy.rep hN hr h3,hC.st h4,h5.eE hN fun k hk=>Nat.lt_of_lt_of_le (hS.al k hk) (Nat.le_of_ble_eq_true hn)⟩
theorem bQ.jl {q:QC × List QR}(B N:Nat) (so:List (Nat × Ob)) (F:bQ P f q n) (aT:args.length<=n) (hn:Nat.ble S.nx B=true) (hb:Nat.ble B N=true)
  (h:ab P w0 false n (oM q.2 fun r S'=>∃ m,fy B m N r r'/\eI B m N S' so/\ly B m (so.map (·.1))=true) (.run q.1 []) ⟨j7 args,[]⟩ S):aE P w0 f args S r' (au so N):=by
 obtain⟨r,S',h1,m,h2,h3,h4⟩:=bQ.w8 F aT h
 exact h1.canon hn h2 h3 h4 hb
end
section
variable {P:Program}{w0:World}{α:AA}{S:aa}
theorem ad.ext {f:QO}{aZ9:List QO}{g:FuncId}{xs:List Value}{v:Value}(h:f.ev α.tm=.v (.func (.func g) #[] #[])) (ha:aZ9.map (·.ev α.tm)=xs.map .v) (hx:∀ w:World,(callFunc g xs.toArray).run P w=.ok (.value v) w):ad P w0 false (.call f aZ9) α S (.v v) S:=by
 refine ad.run fun n o hr=>?_
 obtain⟨c,u,ho,hu,rfl,rfl⟩:=jZ hr
 rw [iO] at ha
 rw [aD] at h
 refine aI.quiet fun A g' q w hS hA=>?_
 have e1:=hA.ev u
 rw [h] at e1
 have e2:=bg e1
 have key:∀ (l:List Operand) (xs:List Value),l.map α.ev=xs.map AV.v->l.map q.eval=xs:=by
  intro l
  induction l with
  |nil =>
   intro xs h
   cases xs with
   |nil=>rfl
   |cons x xs=>cases h
  |cons y l ih =>
   intro xs h
   cases xs with
   |nil=>cases h
   |cons x xs =>
    rw [List.map_cons,List.map_cons] at h
    injection h with h1 h2
    have e5:=hA.ev y
    rw [h1] at e5
    rw [List.map_cons,bg e5,ih xs h2]
 have e3:c.args.map q.eval=xs.toArray:=by
  apply Array.toList_inj.1
  rw [Array.toList_map,key _ _ ha]
 refine⟨v,?_,.v⟩
 have Sw:=hx w
 simp [execOp,ho,hu,e2,e3,Sw,resolve,invoke,Deferred.ofValue]
end
def Sx (P:Program) (w0:World) (f:FuncId) (args:List AV) (S:aa) (ch:List PanicEntry) (S':aa):Prop :=
 (∀ (xs:Array Value) (w:World),(callFunc f xs).run P w=.ok (.enter f xs) w) /\
 ∀ (F:Fence) (m:Nat) (A:Nat->Prop) (g:Gh) (aV:Array Value) (w:World),fZ F->St w0 A g S w->jd g w args aV ->
  CallsIn F m P f aV w fun e w'=>∃ g',e=.panicked ch/\St w0 A g' S' w'/\Ext A g w g' w'
section
variable {P:Program}{w0:World}{rd:Bool}{n:Nat}{α ag:AA}{S S':aa}{Q:Exit->AA->aa->Prop}{ex:Exit}{r:AV}{i:QI}{l:List QI}{K:List ig}{ch:List PanicEntry}
theorem Lg {o:Oper}{c:Call}{f:Operand}{gf:FuncId}{args:List AV}(ho:o.op=.call c) (hc:c.callee=.value f)
  (hf:∀ (A:Nat->Prop) (g:Gh) (a:Act) (w:World),St w0 A g S w->bf g w n α a->∃ first cap,a.eval f=.func (.func gf) first cap/\jd g w args (first++c.args.map a.eval++cap)) (h:Sx P w0 gf args S ch S'):Y2 P w0 n o α S ch S':=by
 intro F m A g a w next Q hF hS hA nb
 rw [Oper.semAt_eq _ _ _ (fun c' e=>by rw [ho] at e;cases e)]
 obtain⟨first,cap,he,hr⟩:=hf A g a w hS hA
 have bw:(execOp a.eval o).run P w=.ok (.enter gf (first++c.args.map a.eval++cap)) w:=by
  simp only [execOp,ho,resolve,hc,he,Deferred.ofValue,Sem.run_bind,Sem.run_pure,Result.andThen_ok,invoke]
  exact h.1 _ w
 rw [bw,Oper.uponIn_enter]
 refine⟨fun hd=>(by rw [hF.2.1] at hd;cases hd),(h.2 F (m - 1) A g _ w hF hS hr).mono ?_⟩
 rintro e w' ⟨g',rfl,h2,h3⟩
 exact nb w' g' h2 h3
theorem RM.call {f:QO}{aZ9:List QO}{g:FuncId}{args:List AV}(h:dZ (f.ev α.tm) (aZ9.map (·.ev α.tm))=some (g,args)) (hc:Sx P w0 g args S ch S'):RM P w0 (.call f aZ9) α S ch S':=by
 intro n o hr
 obtain⟨c,u,ho,hu,rfl,rfl⟩:=jZ hr
 rw [iO,aD] at h
 unfold dZ at h
 refine Lg ho hu (fun A g' a w hS hA=>?_) hc
 have h1:=hA.ev u
 split at h
 ·rename_i g2 x y he
  split at h
  ·rename_i e1 e2
   injection h with h;injection h with h3 h4
   subst h3 h4
   rw [he] at h1
   have e3:x=#[]:=by cases x;simp at e1;rw [e1]
   have e4:y=#[]:=by cases y;simp at e2;rw [e2]
   subst e3 e4
   refine⟨#[],#[],bg h1,?_⟩
   rw [Array.empty_append,Array.append_empty]
   exact lI hA c.args
  ·cases h
 ·rename_i g2 x y he
  injection h with h;injection h with h3 h4
  subst h3 h4
  rw [he] at h1
  obtain⟨cs,ds,h5,h6,h7⟩:=xq h1
  exact⟨cs,ds,h5,iA (iA h6 (lI hA c.args)) h7⟩
 ·cases h
def toV:AV->Option Value
 |.v x=>some x
 |.agg l=>match toVs l with|some cs=>some (.agg cs.toArray)|none=>none
 |_=>none
where toVs:List AV->Option (List Value)
 |[]=>some []
 |a::l=>match toV a,toVs l with|some x,some cs=>some (x::cs)|_,_=>none
theorem toVs_at:∀ {l:List AV}{cs:List Value},toV.toVs l=some cs->cs.length=l.length/\∀ (i:Nat) (a:AV),l[i]?=some a->∃ x,cs[i]?=some x/\toV a=some x
 |[],cs,h=>by
  simp only [toV.toVs,Option.some.injEq] at h
  subst h
  exact⟨rfl,fun i a h=>by simp at h⟩
 |a::l,cs,h=>by
  simp only [toV.toVs] at h
  split at h
  ·rename_i x cs' h1 h2
   obtain rfl:=Option.some.inj h
   obtain⟨k1,k2⟩:=toVs_at h2
   refine⟨by simp [k1],fun i b hb=>?_⟩
   cases i with
   |zero=>simp at hb;subst hb;exact⟨x,rfl,h1⟩
   |succ i=>simp at hb;simpa using k2 i b hb
  ·cases h
theorem uP {g:Gh}{w:World}{a:AV}{y:Value}(hr:aA g w a y):∀ {x:Value},toV a=some x->y=x:=by
 induction hr with
 |v=>intro x h;simp only [toV,Option.some.injEq] at h;exact h
 |@agg l cs hs h ih =>
  intro x hx
  simp only [toV] at hx
  split at hx
  ·rename_i cs' hc
   obtain rfl:=Option.some.inj hx
   obtain⟨k1,k2⟩:=toVs_at hc
   congr 1
   apply Array.ext
   ·simp [hs,k1]
   ·intro i h1 h2
    have hi:i < l.length:=by rw [<-hs];exact h1
    obtain⟨x,e1,e2⟩:=k2 i _ (List.getElem?_eq_getElem hi)
    have e3:=ih i _ _ (List.getElem?_eq_getElem hi) (Array.getElem?_eq_getElem h1) e2
    rw [e3]
    have:=(List.getElem?_eq_some_iff.1 e1)
    simp [<-this.2]
  ·cases hx
 |_=>intro x h;simp [toV] at h
end
abbrev KN:=List (Int × (Int × Int))
noncomputable def lA (f:Nat->List Nat->KN->Option (Option (Int × Int) × List Nat × KN)):List Nat->List Nat->KN->Int × Int->Option (Option (Int × Int) × List Nat × KN)
 |[],up,kn,q=>some (some q,up,kn)
 |x::l,up,kn,q=>match fa up x with
  |none=>none
  |some (u,r)=>match f r u kn with
   |none=>none
   |some (none,u',db)=>some (none,u',db)
   |some (some p,u',db)=>lA f l u' db (min (q.1+p.1) 201,min (max q.2 (p.2+1)) 21)
noncomputable def iu (N:aU) (sh:List (Int × Int)):Nat->List (Int × Unit)->Nat->List Nat->KN->Option (Option (Int × Int) × List Nat × KN)
 |0,_,_,_,_=>none
 |m+1,busy,r,up,kn=>match ao kn (r:Int) with
  |some q=>some (some q,up,kn)
  |none=>match ao busy (r:Int) with
   |some _=>some (none,up,kn)
   |none=>match ao sh (r:Int) with
    |none=>some (some (1,1),up,ee kn r (1,1))
    |some k=>if 0<=k then (match N[k.toNat]? with
     |none=>none
     |some (_,l)=>match lA (iu N sh m (ee busy r ())) l up kn (1,1) with
      |none=>none
      |some (none,u,db)=>some (none,u,db)
      |some (some q,u,db)=>some (some q,u,ee db r q)) else none
mutual
def BM:Tm->Nat
 |⟨k,i,n,a⟩=>wF a+1
def wF:List Tm->Nat
 |[]=>0
 |x::l=>max (BM x) (wF l)
end
def oT (t:Tm):Int × Int:=(min (gp t:Int) 201,min (BM t:Int) 21)
def iG (N:aU) (c:Nat->Nat) (sh:Nat->Option Nat):Nat->Nat->Prop
 |0,_=>False
 |m+1,C=>∀ s,sh C=some s->∀ j ∈ ks N s,iG N c sh m (c j)
section
variable {N:aU}{c:Nat->Nat}{sh:Nat->Option Nat}{lo:Nat->Int}
theorem iG.succ:∀ {m C:Nat},iG N c sh m C->iG N c sh (m+1) C
 |0,_,h=>h.elim
 |m+1,C,h=>fun s hs j hj=>(h s hs j hj).succ
theorem iG.le {m m' C:Nat}(h:iG N c sh m C) (hm:m<=m'):iG N c sh m' C:=by
 induction hm with
 |refl=>exact h
 |step _ ih=>exact ih.succ
theorem xF:∀ {m m' C:Nat},iG N c sh m C->m<=m'->TF N c sh lo m' C=TF N c sh lo m C
 |0,_,_,h,_=>h.elim
 |m+1,0,_,_,h=>by omega
 |m+1,m'+1,C,h,hm=>by
  rw [TF,TF]
  cases e:sh C with
  |none=>rfl
  |some s =>
   simp only [Tm.mk.injEq,true_and]
   exact List.map_congr_left fun j hj=>xF (h s e j hj) (by omega)
theorem Lh {p:Nat->Prop}:∀ (n:Nat),p n->∃ m,p m/\∀ k,k < m->¬ p k:=by
 intro n
 induction n using Nat.strongRecOn with
 |ind n ih =>
  intro h
  by_cases hx:∃ k,k < n/\p k
  ·obtain⟨k,hk,hp⟩:=hx
   exact ih k hk hp
  ·exact⟨n,h,fun k hk hp=>hx ⟨k,hk,hp⟩⟩
end
def lB (busy:List (Int × Unit)):Nat->Nat
 |0=>0
 |n+1=>lB busy n+if ao busy (n:Int)=none then 1 else 0
theorem BN {b b':List (Int × Unit)}(h:∀ i,ao b' i=none->ao b i=none):∀ n,lB b' n<=lB b n
 |0=>Nat.le_refl _
 |n+1=>by
  have:=BN h n
  rw [lB,lB]
  by_cases e:ao b' (n:Int)=none
  ·rw [if_pos e,if_pos (h _ e)];omega
  ·rw [if_neg e];omega
theorem wG {b b':List (Int × Unit)}(h:∀ i,ao b' i=none->ao b i=none) {r:Nat}(hr:ao b (r:Int)=none) (fg:ao b' (r:Int) ≠ none):∀ n,r < n->lB b' n < lB b n
 |0,h0=>by omega
 |n+1,h0=>by
  rw [lB,lB]
  by_cases e:r=n
  ·subst e
   have:=BN h r
   rw [if_pos hr,if_neg fg]
   omega
  ·have:=wG h hr fg n (by omega)
   by_cases e:ao b' (n:Int)=none
   ·rw [if_pos e,if_pos (h _ e)];omega
   ·rw [if_neg e];omega
theorem zP (b:List (Int × Unit)):∀ n,lB b n<=n
 |0=>Nat.le_refl _
 |n+1=>by
  have:=zP b n
  rw [lB]
  split<;>omega
section
variable {N:aU}{c h:Nat->Nat}{sh:List (Int × Int)}{lo:Nat->Int}
def tD (N:aU) (c:Nat->Nat) (sh:List (Int × Int)) (lo:Nat->Int) (kn:KN):Prop:=∀ (C:Nat) q,ao kn (C:Int)=some q->∃ m,iG N c (bp sh) m C/\q=oT (TF N c (bp sh) lo m C)
structure yK (N:aU) (c:Nat->Nat) (sh:List (Int × Int)):Prop where
 pos:∀ C i,ao sh C=some i->0<=i
 at_:∀ C,C < N.length->c C=C->∀ s,bp sh C=some s->s < N.length/\c s=C/\(tn N s).k ≠ 1
 NZ:∀ i,i < N.length->∀ j ∈ ks N i,j < N.length
def N0 (N:aU) (c:Nat->Nat) (sh:List (Int × Int)) (rk:Nat->Nat):Prop:=∀ C,C < N.length->c C=C->∀ s,bp sh C=some s->∀ j ∈ ks N s,rk (c j) < rk C
theorem Li (l:List Tm) (x:Tm):dU (l++[x])=dU l+gp x:=by
 induction l with
 |nil=>simp [dU]
 |cons y l ih=>rw [List.cons_append,dU,dU,ih];omega
theorem QL (k i:Int) (n:ByteArray) (a:List Tm):oT ⟨k,i,n,a⟩=(min (1+dU a:Int) 201,min (max 1 (wF a+1:Int)) 21):=by
 unfold oT
 rw [gp,BM]
 exact Prod.ext (by simp only;omega) (by simp only;omega)
theorem QM (hS:yK N c sh):∀ (d:Nat) (busy:List (Int × Unit)) (r:Nat) (up:List Nat) (kn:KN),lB busy N.length<=d->UF up c h->up.length=N.length->r < N.length->c r=r->tD N c sh lo kn ->
  ∃ res cw db,iu N sh (d+1) busy r up kn=some (res,cw,db)/\UF cw c h/\cw.length=N.length/\tD N c sh lo db/\(∀ C q,ao kn C=some q->ao db C=some q)/\(∀ q,res=some q->ao db (r:Int)=some q) /\
   (res=none->∀ rk,N0 N c sh rk->∃ b:Nat,b < N.length/\ao busy (b:Int) ≠ none/\rk b<=rk r):=by
 intro d
 induction d with
 |zero =>
  intro busy r up kn hd hU hl hr hc hK
  rw [iu]
  cases e1:ao kn (r:Int) with
  |some q=>exact⟨some q,up,kn,rfl,hU,hl,hK,fun _ _ h=>h,fun p hp=>by rw [e1];exact hp,fun h=>by cases h⟩
  |none =>
   cases e2:ao busy (r:Int) with
   |some _=>exact⟨none,up,kn,rfl,hU,hl,hK,fun _ _ h=>h,(fun p hp=>by cases hp),fun _ rk _=>⟨r,hr,by rw [e2];simp,Nat.le_refl _⟩⟩
   |none =>
    exfalso
    have:=wG (b:=busy) (b':=ee busy (r:Int) ()) (r:=r) (fun i hi=>by rw [bo] at hi;split at hi;cases hi;exact hi) e2 (by rw [bo,if_pos rfl];simp) N.length hr
    omega
 |succ d ih =>
  intro busy r up kn hd hU hl hr hc hK
  rw [iu]
  cases e1:ao kn (r:Int) with
  |some q=>exact⟨some q,up,kn,rfl,hU,hl,hK,fun _ _ h=>h,fun p hp=>by rw [e1];exact hp,fun h=>by cases h⟩
  |none =>
   cases e2:ao busy (r:Int) with
   |some _=>exact⟨none,up,kn,rfl,hU,hl,hK,fun _ _ h=>h,(fun p hp=>by cases hp),fun _ rk _=>⟨r,hr,by rw [e2];simp,Nat.le_refl _⟩⟩
   |none =>
    have aB:=wG (b:=busy) (b':=ee busy (r:Int) ()) (r:=r) (fun i hi=>by rw [bo] at hi;split at hi;cases hi;exact hi) e2 (by rw [bo,if_pos rfl];simp) N.length hr
    have Jt:∀ {db:KN}{q:Int × Int}{m:Nat},tD N c sh lo db->iG N c (bp sh) m r->q=oT (TF N c (bp sh) lo m r)->tD N c sh lo (ee db r q):=by
     intro db q m hK' hW hq C p hp
     rw [bo] at hp
     split at hp
     ·rename_i e
      have e:r=C:=by omega
      subst e
      obtain rfl:=Option.some.inj hp
      exact⟨m,hW,hq⟩
     ·exact hK' C p hp
    have BO:∀ {db:KN}{q:Int × Int},(∀ C p,ao kn C=some p->ao db C=some p)->∀ C p,ao kn C=some p->ao (ee db r q) C=some p:=by
     intro db q hm C p hp
     rw [bo,if_neg]
     ·exact hm C p hp
     ·intro e
      rw [<-e,e1] at hp
      cases hp
    cases e3:ao sh (r:Int) with
    |none =>
     have f3:bp sh r=none:=by unfold bp;rw [e3];rfl
     refine⟨some (1,1),up,_,rfl,hU,hl,Jt (m:=1) hK (fun s hs=>by rw [f3] at hs;cases hs) ?_,BO fun _ _ h=>h,fun q hq=>by rw [bo,if_pos rfl];exact hq,fun h=>by cases h⟩
     rw [TF,f3]
     simp only [oT,vr,gp,dU,BM,wF]
     rfl
    |some k =>
     have f3:bp sh r=some k.toNat:=by unfold bp;rw [e3];rfl
     obtain⟨s1,s2,s3⟩:=hS.at_ r hr hc _ f3
     simp only [if_pos (hS.pos _ _ e3),mW s1]
     have key:∀ (l:List Nat) (up:List Nat) (kn:KN) (A B:Int),1<=A->1<=B->(∀ j ∈ l,j < N.length)->UF up c h->up.length=N.length->tD N c sh lo kn ->
       ∃ res cw db,lA (iu N sh (d+1) (ee busy r ())) l up kn (min A 201,min B 21)=some (res,cw,db)/\UF cw c h/\cw.length=N.length/\tD N c sh lo db/\(∀ C q,ao kn C=some q->ao db C=some q) /\
        (∀ q,res=some q->∃ M,(∀ j ∈ l,iG N c (bp sh) M (c j))/\q=(min (A+dU (l.map fun j=>TF N c (bp sh) lo M (c j))) 201,min (max B (wF (l.map fun j=>TF N c (bp sh) lo M (c j))+1)) 21)) /\
        (res=none->∀ rk,N0 N c sh rk->(∀ j ∈ l,rk (c j) < rk r)->∃ b:Nat,b < N.length/\ao busy (b:Int) ≠ none/\rk b<=rk r):=by
      intro l
      induction l with
      |nil =>
       intro up kn A B hA hB _ hU hl hK
       refine⟨_,up,kn,by rw [lA],hU,hl,hK,fun _ _ h=>h,fun q hq=>⟨0,fun j hj=>(by cases hj),?_⟩,fun h=>(by cases h)⟩
       rw [<-Option.some.inj hq]
       simp [dU,wF]
       omega
      |cons j l Sy =>
       intro up kn A B hA hB hj hU hl hK
       have hj0:=hj j (by simp)
       obtain⟨u1,r1,vx,l1⟩:=hU.fa (k:=j) (by omega)
       have cj:c j < N.length:=by have:=(hU.rt j (by omega)).2;omega
       obtain⟨res,u2,BP,m1,pF,l2,zQ,xG,Lj,Lk⟩:=ih (ee busy r ()) (c j) u1 kn (by omega) vx (by omega) cj (hU.cc (by omega)) hK
       rw [lA,r1]
       simp only [m1]
       cases res with
       |none =>
        refine⟨none,u2,BP,rfl,pF,l2,zQ,xG,fun q hq=>(by cases hq),fun _ rk zR aB=>?_⟩
        obtain⟨b,b1,b2,b3⟩:=Lk rfl rk zR
        have h4:=aB j (by simp)
        refine⟨b,b1,fun e=>b2 ?_,by omega⟩
        rw [bo,if_neg]
        ·exact e
        ·intro e5
         have e5:r=b:=by omega
         rw [e5] at h4
         omega
       |some p =>
        obtain⟨m0,w0,hp⟩:=zQ _ _ (Lj p rfl)
        have xH:(min (min A 201+p.1) 201,min (max (min B 21) (p.2+1)) 21)=(min (A+gp (TF N c (bp sh) lo m0 (c j))) 201,min (max B (BM (TF N c (bp sh) lo m0 (c j))+1)) 21):=by
         rw [hp]
         simp only [oT,Prod.mk.injEq]
         omega
        simp only [xH]
        obtain⟨res,u3,qH,k1,k2,k3,k4,k5,k6,k7⟩:=Sy u2 BP (A+gp (TF N c (bp sh) lo m0 (c j))) (max B (BM (TF N c (bp sh) lo m0 (c j))+1)) (by omega) (by omega) (fun i hi=>hj i (by simp [hi])) pF l2 zQ
        refine⟨res,u3,qH,k1,k2,k3,k4,fun C q hq=>k5 C q (xG C q hq),fun q hq=>?_,fun e rk zR aB=>k7 e rk zR fun i hi=>aB i (by simp [hi])⟩
        obtain⟨M,hM,hq⟩:=k6 q hq
        have e1:TF N c (bp sh) lo (max M m0) (c j)=TF N c (bp sh) lo m0 (c j):=xF w0 (Nat.le_max_right _ _)
        have e2:(l.map fun j=>TF N c (bp sh) lo (max M m0) (c j))=l.map fun j=>TF N c (bp sh) lo M (c j):=List.map_congr_left fun i hi=>xF (hM i hi) (Nat.le_max_left _ _)
        refine⟨max M m0,fun i hi=>?_,?_⟩
        ·rcases List.mem_cons.1 hi with rfl|hi
         ·exact w0.le (Nat.le_max_right _ _)
         ·exact (hM i hi).le (Nat.le_max_left _ _)
        ·rw [hq,List.map_cons,e1,e2,dU,wF]
         congr 1<;>omega
     obtain⟨res,u1,ke,k1,k2,k3,k4,k5,k6,k7⟩:=key (ks N k.toNat) up kn 1 1 (by omega) (by omega) (fun j hj=>hS.NZ _ s1 j hj) hU hl hK
     have e0:((min 1 201,min 1 21):Int × Int)=(1,1):=rfl
     rw [e0] at k1
     rw [k1]
     cases res with
     |none=>exact⟨none,u1,ke,rfl,k2,k3,k4,k5,fun q hq=>(by cases hq),fun _ rk zR=>k7 rfl rk zR fun j hj=>zR r hr hc _ f3 j hj⟩
     |some q =>
      obtain⟨M,hM,hq⟩:=k6 q rfl
      refine⟨some q,u1,_,rfl,k2,k3,Jt (m:=M+1) k4 (fun s hs j hj=>?_) ?_,BO k5,fun p hp=>by rw [bo,if_pos rfl];exact hp,fun h=>by cases h⟩
      ·rw [f3] at hs
       obtain rfl:=Option.some.inj hs
       exact hM j hj
      ·rw [TF,f3]
       simp only
       rw [QL,hq]
end
noncomputable def pI (N:aU) (sh:List (Int × Int)):List Nat->List Nat->KN->Option (Bool × List Nat × KN)
 |[],up,kn=>some (true,up,kn)
 |k::l,up,kn=>match fa up k with
  |none=>none
  |some (u,r)=>match iu N sh (N.length+1) [] r u kn with
   |none=>none
   |some (none,u',db)=>some (false,u',db)
   |some (some _,u',db)=>pI N sh l u' db
section
variable {N:aU}{c h:Nat->Nat}{sh:List (Int × Int)}{lo:Nat->Int}
theorem BQ (hS:yK N c sh):∀ (l:List Nat) (up:List Nat) (kn:KN),(∀ j ∈ l,j < N.length)->UF up c h->up.length=N.length->tD N c sh lo kn ->
  ∃ b cw db,pI N sh l up kn=some (b,cw,db)/\UF cw c h/\cw.length=N.length/\tD N c sh lo db/\(∀ C q,ao kn C=some q->ao db C=some q)/\(b=true->∀ j ∈ l,∃ q,ao db (c j:Int)=some q)/\(b=false->¬ ∃ rk,N0 N c sh rk)
 |[],up,kn,_,hU,hl,hK=>⟨true,up,kn,rfl,hU,hl,hK,fun _ _ h=>h,fun _ j hj=>(by cases hj),fun h=>by cases h⟩
 |k::l,up,kn,hj,hU,hl,hK=>by
  have hk:=hj k (by simp)
  obtain⟨u1,r1,vx,l1⟩:=hU.fa (k:=k) (by omega)
  have ck:c k < N.length:=by have:=(hU.rt k (by omega)).2;omega
  obtain⟨res,u2,BP,m1,pF,l2,zQ,xG,Lj,Lk⟩:=QM hS N.length [] (c k) u1 kn (zP _ _) vx (by omega) ck (hU.cc (by omega)) hK
  rw [pI,r1]
  simp only [m1]
  cases res with
  |none =>
   refine⟨false,u2,BP,rfl,pF,l2,zQ,xG,fun h=>(by cases h),fun _ ⟨rk,zR⟩=>?_⟩
   obtain⟨b,_,b2,_⟩:=Lk rfl rk zR
   exact b2 rfl
  |some q =>
   obtain⟨b,u3,qH,k1,k2,k3,k4,k5,k6,k7⟩:=BQ hS l u2 BP (fun i hi=>hj i (by simp [hi])) pF l2 zQ
   refine⟨b,u3,qH,k1,k2,k3,k4,fun C q hq=>k5 C q (xG C q hq),fun e i hi=>?_,k7⟩
   rcases List.mem_cons.1 hi with rfl|hi
   ·exact⟨q,k5 _ _ (Lj q rfl)⟩
   ·exact k6 e i hi
end
noncomputable def qf (f:Nat->List Nat->Option (Tm × List Nat)):List Nat->List Nat->Option (List Tm × List Nat)
 |[],up=>some ([],up)
 |x::l,up=>match fa up x with
  |none=>none
  |some (u,r)=>match f r u with
   |none=>none
   |some (t,u')=>match qf f l u' with
    |none=>none
    |some (ts,u'')=>some (t::ts,u'')
noncomputable def qg (N:aU) (sh ls:List (Int × Int)):Nat->Nat->List Nat->Option (Tm × List Nat)
 |0,_,_=>none
 |m+1,r,up=>match ao sh (r:Int) with
  |none=>some (vr ((ao ls (r:Int)).getD 0),up)
  |some k=>if 0<=k then (match N[k.toNat]? with
   |none=>none
   |some (t,l)=>if l.length=t.a.length then (if t.a.length=0 then some (t,up) else match qf (qg N sh ls m) l up with
    |none=>none
    |some (ts,u)=>some (⟨t.k,t.i,t.n,ts⟩,u)) else none) else none
noncomputable def oU (N:aU) (sh ls vs:List (Int × Int)) (kn:KN) (m:Nat):List Int->List Nat->List Bd->Option (Option (List Bd))
 |[],_,acc=>some (some acc)
 |v::l,up,acc=>match ao vs v with
  |none=>none
  |some k=>if 0<=k then (match fa up k.toNat with
   |none=>none
   |some (u,r)=>if ao sh (r:Int)=none/\(ao ls (r:Int)).getD 0=v then oU N sh ls vs kn m l u acc else
    if 200 < ((ao kn (r:Int)).getD (0,0)).1\/20 < ((ao kn (r:Int)).getD (0,0)).2 then some none else
    match qg N sh ls m r u with
    |none=>none
    |some (t,u')=>oU N sh ls vs kn m l u' (acc++[⟨v,t⟩])) else none
section
variable {N:aU}{c h:Nat->Nat}{sh ls:List (Int × Int)}
def pJ (ls:List (Int × Int)) (C:Nat):Int:=(ao ls (C:Int)).getD 0
theorem Ju (g:gI N) (hS:yK N c sh):∀ (m r:Nat) (up:List Nat),iG N c (bp sh) m r->UF up c h->up.length=N.length->r < N.length->c r=r ->
  ∃ cw,qg N sh ls m r up=some (TF N c (bp sh) (pJ ls) m r,cw)/\UF cw c h/\cw.length=N.length
 |0,_,_,h,_,_,_,_=>h.elim
 |m+1,r,up,hW,hU,hl,hr,hc=>by
  rw [qg,TF]
  cases e3:ao sh (r:Int) with
  |none =>
   have f3:bp sh r=none:=by unfold bp;rw [e3];rfl
   rw [f3]
   exact⟨up,rfl,hU,hl⟩
  |some k =>
   have f3:bp sh r=some k.toNat:=by unfold bp;rw [e3];rfl
   obtain⟨s1,s2,s3⟩:=hS.at_ r hr hc _ f3
   rw [f3]
   simp only [if_pos (hS.pos _ _ e3),mW s1,if_pos (jx g s1)]
   by_cases e0:(tn N k.toNat).a.length=0
   ·rw [if_pos e0]
    have h1:ks N k.toNat=[]:=List.length_eq_zero_iff.1 (by rw [jx g s1];exact e0)
    rw [h1]
    refine⟨up,?_,hU,hl⟩
    have h2:(tn N k.toNat).a=[]:=List.length_eq_zero_iff.1 e0
    congr 2
    generalize tn N k.toNat=t at h2
    obtain⟨a,b,n,l⟩:=t
    simp only at h2
    subst h2
    rfl
   ·rw [if_neg e0]
    have key:∀ (l:List Nat) (up:List Nat),(∀ j ∈ l,j < N.length/\iG N c (bp sh) m (c j))->UF up c h->up.length=N.length->∃ cw,qf (qg N sh ls m) l up=some (l.map fun j=>TF N c (bp sh) (pJ ls) m (c j),cw)/\UF cw c h/\cw.length=N.length:=by
     intro l
     induction l with
     |nil=>intro up _ hU hl;exact⟨up,rfl,hU,hl⟩
     |cons j l Sy =>
      intro up hj hU hl
      obtain⟨qy,dK⟩:=hj j (by simp)
      obtain⟨u1,r1,vx,l1⟩:=hU.fa (k:=j) (by omega)
      have cj:c j < N.length:=by have:=(hU.rt j (by omega)).2;omega
      obtain⟨u2,m2,pF,l2⟩:=Ju g hS m (c j) u1 dK vx (by omega) cj (hU.cc (by omega))
      obtain⟨u3,m3,hU3,l3⟩:=Sy u2 (fun i hi=>hj i (by simp [hi])) pF l2
      exact⟨u3,by rw [qf,r1];simp only [m2,m3,List.map_cons],hU3,l3⟩
    obtain⟨u,k1,k2,k3⟩:=key (ks N k.toNat) up (fun j hj=>⟨hS.NZ _ s1 j hj,hW _ f3 j hj⟩) hU hl
    exact⟨u,by rw [k1],k2,k3⟩
def oV (t:Tm):Bool:=decide (200 < gp t\/20 < BM t)
theorem QN {t:Tm}:(200 < (oT t).1\/20 < (oT t).2) ↔ oV t=true:=by
 unfold oT oV
 simp only [decide_eq_true_eq]
 omega
end
end Go.Proofs.YtgjfgekaclobaaaGreat
