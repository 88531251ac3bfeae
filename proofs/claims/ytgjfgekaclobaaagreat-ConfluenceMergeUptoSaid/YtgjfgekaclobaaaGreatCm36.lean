import Derived.Test.YtgjfgekaclobaaaGreatCm35
namespace Go.Proofs.YtgjfgekaclobaaaGreat
set_option linter.unusedVariables false
set_option linter.unusedSimpArgs false
open Go.RowKit
def LH (n:Nat) (s:XS) (a b:AV):Option XS:=match a with
 |.pt k sz i j=>match (dy s).get k with
  |some (.arr sz' rows 0 ex)=>match Nat.beq sz sz' && eV bl (aG b) && Nat.beq n (aG b).length with
   |true=>match rows[i]? with
    |some row=>match Nat.ble (j+(aG b).length) row.length with
     |true=>some (jb s k (some (.arr sz (rows.set i (kO row j (aG b))) 0 ex)))
     |false=>none
    |none=>none
   |false=>none
  |_=>none
 |_=>none
def Ft (sz by_:Nat) (s:XS) (a b:AV):Option (AV × XS):=match cI (dy s) b with
 |none=>none
 |some more=>match cY s.yk s.nx with
  |true=>none
  |false=>match a with
   |.sl true rows=>match more with
    |[]=>some (.sl true rows,s)
    |x::more=>match iV sz rows && iV sz (x::more) && Nat.ble ((rows.length+(x::more).length)*by_) 35184372088832 with
     |true=>some (.ob s.nx sz 0 (rows.length+(x::more).length) none,jA s (.arr sz (rows++x::more) 0 false))
     |false=>none
   |.ob k sz' off len cx=>match (dy s).get k with
    |some (.arr ew rows fz ex)=>match more with
     |[]=>match off,cx,Nat.beq ew sz' with
      |0,none,true=>some (.ob k sz' 0 len none,s)
      |_,_,_=>none
     |x::more=>match Nat.beq ew sz && Nat.beq sz' sz && iV sz (x::more) && o6 bl (x::more) && Nat.ble ((len+(x::more).length)*by_) 35184372088832 && Nat.ble fz len && Nat.ble (off+len) rows.length with
      |true=>match cx with
       |none=>match off with
        |0=>some (.ob s.nx sz 0 (len+(x::more).length) none,jA (jb s k none) (.arr sz (rows.take len++x::more) fz false))
        |_=>none
       |some c=>match Nat.beq c len with
        |true=>some (.ob s.nx sz 0 (len+(x::more).length) none,jA s (.arr sz ((rows.drop off).take len++x::more) 0 false))
        |false=>none
      |false=>none
    |_=>none
   |_=>none
def xT:List (Value × AV)->Bool
 |[]=>true
 |(.int .i64 _,_)::l=>xT l
 |_=>false
def oI (dr:Bool) (q:cB) (f:Nat->AV) (s:XS):Option (AV × XS) :=
 match q with
 |.load k x=>match jt k (dy s) (x.ev f) with
  |some a=>some (a,s)
  |none=>none
 |.alloc cs=>match cY s.yk s.nx with
  |false=>some (.pt s.nx cs.length 0 0,jA s (.arr cs.length [cs] 0 true))
  |true=>none
 |.box x=>match cY s.yk s.nx,eV bl (aG (x.ev f)) with
  |false,true=>some (.pt s.nx (aG (x.ev f)).length 0 0,jA s (.arr (aG (x.ev f)).length [aG (x.ev f)] 0 true))
  |_,_=>none
 |.store n x b=>match LH n s (x.ev f) (b.ev f) with
  |some s'=>some (.v undef,s')
  |none=>none
 |.append sz by_ a b=>Ft sz by_ s (a.ev f) (b.ev f)
 |.g7 z by_ l c=>match l.ev f,c.ev f with
  |.v (.int _ i),.v (.int _ j)=>match decide (0<=i/\i=j/\i*by_<=35184372088832/\i<=9223372036854775807) && !cY s.yk s.nx with
   |true=>some (.ob s.nx z.length 0 i.toNat none,jA s (.arr z.length (List.replicate i.toNat z) 0 true))
   |false=>none
  |_,_=>none
 |.ft x=>match dr,cY s.yk s.nx,x with
  |false,false,none=>some (.mp s.nx,jA s (.mp []))
  |false,false,some x=>match x.ev f with
   |.v (.int _ _)=>some (.mp s.nx,jA s (.mp []))
   |_=>none
  |_,_,_=>none
 |.look z c x i=>match dr,x.ev f,i.ev f with
  |false,.mp k,.v (.int .i64 m)=>match (dy s).get k with
   |some (.mp es)=>match xT es with
    |true=>some ((match lu es m with|some a=>(if c then .aC [a,.v (.bool true)] else a)|none=>(if c then .aC [z,.v (.bool false)] else z)),s)
    |false=>none
   |_=>none
  |_,_,_=>none
 |.gQ x i b=>match x.ev f,i.ev f with
  |.mp k,.v (.int .i64 m)=>match (dy s).get k with
   |some (.mp es)=>match xT es with
    |true=>some (.v undef,jb s k (some (.mp (pX es m (b.ev f)))))
    |false=>none
   |_=>none
  |_,_=>none
 |.sS x=>match x.ev f,cY s.yk s.nx with
  |.v (.string z),false=>some (.pt s.nx 0 0 0,jA s (.si z 0))
  |_,_=>none
 |.oq x=>match x.ev f with
  |.pt k _ 0 0=>match (dy s).get k with
   |some (.si z pos)=>match Nat.blt pos z.size with
    |true=>some (.aC [.v (.bool true),.v (.int .i64 pos),.v (.int .i32 (Utf8.decode z pos).1)],jb s k (some (.si z (pos+(Utf8.decode z pos).2))))
    |false=>some (.aC [.v (.bool false)],s)
   |_=>none
  |_=>none
 |q=>match o7 dr q f with
  |some r=>some (r,s)
  |none=>none
section
variable {P:Program}{w0:World}{o:Op}{α:AA}{S S':aa}{r:AV}{dr:Bool}
theorem Es {F:AV->Bool}:∀ {l:List AV},eV F l=true->l.all F=true:=fun h=>List.all_eq_true.2 (cW h)
theorem ad.sto {n:Nat}{x b:QO}{k sz i j:Nat}{ex:Bool}{rows:List (List AV)}{row:List AV}(hx:x.ev α.tm=.pt k sz i j) (hk:S.get k=some (.arr sz rows 0 ex)) (hc:(aG (b.ev α.tm)).all bl=true) (hn:n=(aG (b.ev α.tm)).length) (hi:rows[i]?=some row)
  (hj:j+(aG (b.ev α.tm)).length<=row.length):ad P w0 dr (.store n x b) α S (.v undef) (S.set k (some (.arr sz (rows.set i (kO row j (aG (b.ev α.tm)))) 0 ex))):=by
 refine ad.of rfl fun o hr=>?_
 cases o<;>simp only [res,cL] at hr<;>(repeat' split at hr)<;>(try cases hr)
 rename_i hs
 rw [aD] at hx hc hn hj ⊢
 simp only [aK,hx]
 refine aL.mk (a:=_) ?_ ⟨rfl,rfl⟩
 simp only [kV,hk,hs,hc,hn,Nat.beq_refl,Bool.and_self,hi,Nat.ble_eq_true_of_le hj]
theorem ad.aaH {sz by_ k fz off len c:Nat}{ex:Bool}{a b:QO}{rows more:List (List AV)}{x:List AV}(h1:a.ev α.tm=.ob k sz off len (some c)) (hk:S.get k=some (.arr sz rows fz ex)) (hm:cI S (b.ev α.tm)=some (x::more)) (h0:c=len) (h2:off+len<=rows.length)
  (h3:∀ row ∈ x::more,row.length=sz) (h4:(len+(x::more).length)*by_<=35184372088832) :
  ad P w0 dr (.append sz by_ a b) α S (.ob S.nx sz 0 (len+(x::more).length) none) (S.new (.arr sz ((rows.drop off).take len++x::more) 0 false)):=by
 refine ad.append (cG hm).1 (cG hm).2 fun e z hz hs hb hp=>?_
 rw [h1]
 simp only [g8]
 refine aL.mk (oP hk) ?_
 simp only [hs,hb,hp,Nat.beq_refl,Bool.and_self,Bool.true_and]
 exact⟨h0,h2,h3,h4,rfl,rfl⟩
theorem tQ:∀ {es:List (Value × AV)},xT es=true->ji es:=by
 intro es
 induction es with
 |nil=>intro h;intro p hp;cases hp
 |cons p es ih =>
  intro h
  obtain⟨v,a⟩:=p
  intro p hp
  unfold xT at h
  split at h
  ·cases ‹_::_=[]›
  ·rename_i e
   injection e with e1 e2
   injection e1 with e3 e4
   subst e2 e3 e4
   rcases List.mem_cons.1 hp with rfl|hp
   ·exact⟨_,rfl⟩
   ·exact ih h p hp
  ·cases h
section
variable {J:FJ}{s:XS}
theorem xU {k:LK}{a r:AV}(h:jt k (dy s) a=some r):jt k (den J s) a=some r:=by
 unfold jt at h ⊢
 split at h
 ·exact h
 ·split at h
  ·rename_i hk
   rw [(cz (J:=J) hk).1]
   exact h
  ·cases h
 ·cases h
theorem gj {b:AV}{l:List (List AV)}(h:cI (dy s) b=some l):cI (den J s) b=some l:=by
 obtain⟨h1,h2⟩:=cG h
 have key:rowsOf (den J s) b=some l:=by
  unfold rowsOf at h1 ⊢
  split at h1
  ·exact h1
  ·split at h1
   ·rename_i hk
    rw [(cz (J:=J) hk).1]
    exact h1
   ·cases h1
  all_goals first|exact h1|cases h1
 unfold cI
 rw [key,h2]
 simp only [Nat.beq_refl]
end
theorem Fu {n:Nat}{x b:QO}{f:Nat->AV}{df:List DE}{s s':XS}(h:LH n s (x.ev f) (b.ev f)=some s'):(∀ J,ad P w0 dr (.store n x b) ⟨f,df⟩ (den J s) (.v undef) (den J s'))/\cZ s s'/\s'.lg=s.lg:=by
 unfold LH at h
 split at h
 ·rename_i k sz i j hx
  split at h
  ·rename_i sz' rows ex hk
   split at h
   ·rename_i hc
    simp only [Bool.and_eq_true] at hc
    obtain⟨⟨h1,h2⟩,h3⟩:=hc
    have h1:=Nat.eq_of_beq_eq_true h1
    have h3:=Nat.eq_of_beq_eq_true h3
    subst h1
    split at h
    ·rename_i row hi
     split at h
     ·rename_i hj
      have hj:=Nat.le_of_ble_eq_true hj
      obtain rfl:=Option.some.inj h
      refine⟨fun J=>?_,.wr,rfl⟩
      obtain⟨dL,eN⟩:=cz (J:=J) hk
      rw [gD eN]
      exact ad.sto hx dL (Es h2) h3 hi hj
     ·cases h
    ·cases h
   ·cases h
  ·cases h
 ·cases h
theorem xV {sz by_:Nat}{a b:QO}{f:Nat->AV}{df:List DE}{s s':XS}(h:Ft sz by_ s (a.ev f) (b.ev f)=some (r,s')):(∀ J,ad P w0 dr (.append sz by_ a b) ⟨f,df⟩ (den J s) r (den J s'))/\cZ s s'/\s'.lg=s.lg:=by
 unfold Ft at h
 split at h
 ·cases h
 ·rename_i more hm
  split at h
  ·cases h
  ·rename_i SM
   split at h
   ·rename_i rows ha
    split at h
    ·simp only [Option.some.injEq,Prod.mk.injEq] at h
     obtain⟨rfl,rfl⟩:=h
     exact⟨fun J=>ad.KR ha (gj hm),.refl _,rfl⟩
    ·rename_i x more
     split at h
     ·rename_i hc
      simp only [Bool.and_eq_true] at hc
      obtain⟨⟨h1,h2⟩,h3⟩:=hc
      simp only [Option.some.injEq,Prod.mk.injEq] at h
      obtain⟨rfl,rfl⟩:=h
      refine⟨fun J=>?_,.nw,rfl⟩
      rw [gE SM]
      exact ad.A9 ha (gj hm) (eB h1) (eB h2) (Nat.le_of_ble_eq_true h3)
     ·cases h
   ·rename_i k sz' off len cx ha
    split at h
    ·rename_i ew rows fz ex hk
     split at h
     ·split at h
      ·rename_i hb
       have hb:=Nat.eq_of_beq_eq_true hb
       subst hb
       simp only [Option.some.injEq,Prod.mk.injEq] at h
       obtain⟨rfl,rfl⟩:=h
       exact⟨fun J=>ad.AH ha (cz (J:=J) hk).1 (gj hm),.refl _,rfl⟩
      ·cases h
     ·rename_i x more
      split at h
      ·rename_i hc
       simp only [Bool.and_eq_true] at hc
       obtain⟨⟨⟨⟨⟨⟨h1,h2⟩,h3⟩,h4⟩,h5⟩,h6⟩,h7⟩:=hc
       have h1:=Nat.eq_of_beq_eq_true h1
       have h2:=Nat.eq_of_beq_eq_true h2
       have h3:=eB h3
       have h4:=jn h4
       have h5:=Nat.le_of_ble_eq_true h5
       have h6:=Nat.le_of_ble_eq_true h6
       have h7:=Nat.le_of_ble_eq_true h7
       subst h1 h2
       split at h
       ·split at h
        ·simp only [Option.some.injEq,Prod.mk.injEq] at h
         obtain⟨rfl,rfl⟩:=h
         refine⟨fun J=>?_,cZ.wr.trans .nw,rfl⟩
         obtain⟨dL,eN⟩:=cz (J:=J) hk
         rw [gE (s:=jb s k none) SM,gD eN]
         exact ad.E7 ha dL (gj hm) h6 (by omega) (fun row hr=>⟨h3 row hr,List.all_eq_true.2 (h4 row hr)⟩) h5
        ·cases h
       ·split at h
        ·rename_i hc
         have hc:=Nat.eq_of_beq_eq_true hc
         simp only [Option.some.injEq,Prod.mk.injEq] at h
         obtain⟨rfl,rfl⟩:=h
         refine⟨fun J=>?_,.nw,rfl⟩
         rw [gE SM]
         exact ad.aaH ha (cz (J:=J) hk).1 (gj hm) hc h7 h3 h5
        ·cases h
      ·cases h
    ·cases h
   ·cases h
theorem JK {q:cB}{f:Nat->AV}{df:List DE}{s s':XS}(h:oI dr q f s=some (r,s')):(∀ J,ad P w0 dr q ⟨f,df⟩ (den J s) r (den J s'))/\cZ s s'/\s'.lg=s.lg:=by
 have pure:∀ {q:cB},(match o7 dr q f with|some r=>some (r,s)|none=>none)=some (r,s')->(∀ J,ad P w0 dr q ⟨f,df⟩ (den J s) r (den J s'))/\cZ s s'/\s'.lg=s.lg:=fun {q} h=>by
  split at h
  ·rename_i r' hq
   simp only [Option.some.injEq,Prod.mk.injEq] at h
   obtain⟨rfl,rfl⟩:=h
   exact⟨fun J=>zX hq,.refl _,rfl⟩
  ·cases h
 cases q with
 |load k x =>
  simp only [oI] at h
  split at h
  ·rename_i a ha
   simp only [Option.some.injEq,Prod.mk.injEq] at h
   obtain⟨rfl,rfl⟩:=h
   exact⟨fun J=>ad.quiet (by simp only [fT,xU ha]),.refl _,rfl⟩
  ·cases h
 |alloc cs =>
  simp only [oI] at h
  split at h
  ·rename_i hy
   simp only [Option.some.injEq,Prod.mk.injEq] at h
   obtain⟨rfl,rfl⟩:=h
   refine⟨fun J=>ad.quiet ?_,.nw,rfl⟩
   rw [gE hy]
   simp only [fT,mP]
   rfl
  ·cases h
 |box x =>
  simp only [oI] at h
  split at h
  ·rename_i hy hc
   simp only [Option.some.injEq,Prod.mk.injEq] at h
   obtain⟨rfl,rfl⟩:=h
   refine⟨fun J=>ad.quiet ?_,.nw,rfl⟩
   rw [gE hy]
   simp only [fT,mP,Es hc]
   rfl
  ·cases h
 |store n x b =>
  simp only [oI] at h
  split at h
  ·rename_i s1 hs
   simp only [Option.some.injEq,Prod.mk.injEq] at h
   obtain⟨rfl,rfl⟩:=h
   exact Fu hs
  ·cases h
 |append sz by_ a b=>exact xV h
 |g7 z by_ l c =>
  simp only [oI] at h
  split at h
  ·rename_i k1 i k2 j hl hc
   split at h
   ·rename_i hd
    simp only [Bool.and_eq_true,Bool.not_eq_true'] at hd
    have dG:=of_decide_eq_true hd.1
    simp only [Option.some.injEq,Prod.mk.injEq] at h
    obtain⟨rfl,rfl⟩:=h
    refine⟨fun J=>?_,.nw,rfl⟩
    rw [gE hd.2]
    exact ad.Nv hl hc dG.1 dG.2.1 dG.2.2.1 dG.2.2.2
   ·cases h
  ·cases h
 |ft x =>
  simp only [oI] at h
  split at h
  ·rename_i hy
   simp only [Option.some.injEq,Prod.mk.injEq] at h
   obtain⟨rfl,rfl⟩:=h
   refine⟨fun J=>?_,.nw,rfl⟩
   rw [gE hy]
   exact ad.ft
  ·rename_i y hy
   split at h
   ·rename_i hx
    simp only [Option.some.injEq,Prod.mk.injEq] at h
    obtain⟨rfl,rfl⟩:=h
    refine⟨fun J=>?_,.nw,rfl⟩
    rw [gE hy]
    exact ad.Sc hx
   ·cases h
  ·cases h
 |look z c x i =>
  simp only [oI] at h
  split at h
  ·rename_i k m hx hi
   split at h
   ·rename_i es hk
    split at h
    ·rename_i he
     simp only [Option.some.injEq,Prod.mk.injEq] at h
     obtain⟨rfl,rfl⟩:=h
     exact⟨fun J=>ad.look hx (cz (J:=J) hk).1 (tQ he) hi,.refl _,rfl⟩
    ·cases h
   ·cases h
  ·cases h
 |gQ x i b =>
  simp only [oI] at h
  split at h
  ·rename_i k m hx hi
   split at h
   ·rename_i es hk
    split at h
    ·rename_i he
     simp only [Option.some.injEq,Prod.mk.injEq] at h
     obtain⟨rfl,rfl⟩:=h
     refine⟨fun J=>?_,.wr,rfl⟩
     obtain⟨dL,eN⟩:=cz (J:=J) hk
     rw [gD eN]
     cases dr with
     |false=>exact ad.gQ hx dL (tQ he) hi rfl
     |true=>exact ad.xQ hx dL (tQ he) hi rfl
    ·cases h
   ·cases h
  ·cases h
 |sS x =>
  simp only [oI] at h
  split at h
  ·rename_i z hx hy
   simp only [Option.some.injEq,Prod.mk.injEq] at h
   obtain⟨rfl,rfl⟩:=h
   refine⟨fun J=>?_,.nw,rfl⟩
   rw [gE hy]
   exact ad.RR hx
  ·cases h
 |oq x =>
  simp only [oI] at h
  split at h
  ·rename_i k sz hx
   split at h
   ·rename_i z pos hk
    split at h
    ·rename_i hp
     simp only [Option.some.injEq,Prod.mk.injEq] at h
     obtain⟨rfl,rfl⟩:=h
     refine⟨fun J=>?_,.wr,rfl⟩
     obtain⟨dL,eN⟩:=cz (J:=J) hk
     rw [gD eN]
     exact ad.E8 hx dL (c_ hp)
    ·rename_i hp
     simp only [Option.some.injEq,Prod.mk.injEq] at h
     obtain⟨rfl,rfl⟩:=h
     refine⟨fun J=>ad.RS hx (cz (J:=J) hk).1 ?_,.refl _,rfl⟩
     rcases Nat.lt_or_ge pos z.size with h1|h1
     ·have:Nat.blt pos z.size=true:=Nat.ble_eq_true_of_le h1
      rw [this] at hp;cases hp
     ·exact h1
   ·cases h
  ·cases h
 |_=>exact pure h
end
mutual
def iy:Tm->Prop
 |⟨k,i,n,a⟩=>a.length<=6/\n.size<=1099511627776/\iB a
def iB:List Tm->Prop
 |[]=>True
 |x::l=>iy x/\iB l
end
theorem iB.mem:∀ {l:List Tm},iB l->∀ x ∈ l,iy x
 |y::l,h,x,hx=>by
  rw [iB] at h
  rcases List.mem_cons.1 hx with rfl|hx
  ·exact h.1
  ·exact h.2.mem x hx
theorem iy.out {t:Tm}(h:iy t):t.a.length<=6/\t.n.size<=1099511627776/\iB t.a:=by
 obtain⟨k,i,n,a⟩:=t
 rw [iy] at h
 exact h
def nA (N:aU):Prop:=∀ i,i < N.length->iy (tn N i)
theorem nA.push {N:aU}(h:nA N) {t:Tm}{l:List Nat}(ht:iy t):nA (N++[(t,l)]):=by
 intro i hi
 by_cases e:i < N.length
 ·have hp:∀ i,i < N.length->(N++[(t,l)])[i]?=N[i]?:=fun i hi=>List.getElem?_append_left hi
  rw [(cT hp e).1]
  exact h i e
 ·have:i=N.length:=by rw [List.length_append,List.length_singleton] at hi;omega
  subst this
  rw [g_.1]
  exact ht
mutual
theorem uY:∀ (N:aU) (t:Tm),nA N->iy t->nA (jF N t).1/\(jF N t).1.length<=N.length+gp t
 |N,⟨k,i,n,a⟩,h,ht=>by
  have SN:=ht
  rw [iy] at ht
  rw [jF,gp]
  split
  ·exact⟨h,by simp only;omega⟩
  ·obtain⟨h1,h2⟩:=wN N a h ht.2.2
   exact⟨h1.push SN,by simp only [List.length_append,List.length_singleton];omega⟩
theorem wN:∀ (N:aU) (l:List Tm),nA N->iB l->nA (dC N l).1/\(dC N l).1.length<=N.length+dU l
 |N,[],h,_=>by rw [dC,dU];exact⟨h,by simp only;omega⟩
 |N,x::l,h,ht=>by
  rw [iB] at ht
  obtain⟨h1,h2⟩:=uY N x h ht.1
  obtain⟨k1,k2⟩:=wN _ l h1 ht.2
  rw [dC,dU]
  exact⟨k1,by simp only;omega⟩
end
def zY (N:aU):Prop:=∀ (i:Nat) (t:Tm) (l:List Nat),N[i]?=some (t,l)->l.length<=6/\t.a.length<=6/\t.n.size<=1099511627776
theorem zY.of {N:aU}(g:gI N) (h:nA N):zY N:=by
 intro i t l hi
 have aB:=(List.getElem?_eq_some_iff.1 hi).1
 have h1:=jx g aB
 have h2:=(h i aB).out
 rw [mW aB] at hi
 simp only [Option.some.injEq,Prod.mk.injEq] at hi
 obtain⟨rfl,rfl⟩:=hi
 exact⟨by omega,h2.1,h2.2.1⟩
def sw:List (Tm × Tm)->Nat
 |[]=>0
 |e::l=>gp e.1+gp e.2+sw l
inductive my:List (Tm × Tm)->PS->Bool->PS->Prop
 |nil {s:PS}:my [] s true s
 |no {a b:Tm}{l:List (Tm × Tm)}{s:PS}{m:Nat}{j:JS}(h:ec (a6 (a6 s a).1 b).1.N m [((a6 s a).2,(a6 (a6 s a).1 b).2)] (a6 (a6 s a).1 b).1.js=some (false,j)) :
   my ((a,b)::l) s false ⟨(a6 (a6 s a).1 b).1.N,(a6 (a6 s a).1 b).1.vs,j⟩
 |go {a b:Tm}{l:List (Tm × Tm)}{s s':PS}{m:Nat}{j:JS}{r:Bool}(h:ec (a6 (a6 s a).1 b).1.N m [((a6 s a).2,(a6 (a6 s a).1 b).2)] (a6 (a6 s a).1 b).1.js=some (true,j))
   (k:my l ⟨(a6 (a6 s a).1 b).1.N,(a6 (a6 s a).1 b).1.vs,j⟩ r s'):my ((a,b)::l) s r s'
theorem JL {E:List (Tm × Tm)}:∀ (l:List (Tm × Tm)) (done:List (Tm × Tm)) (s:PS) (D:List (Nat × Nat)) (c:Nat->Nat),(∀ e ∈ l,e ∈ E/\(dP e.1/\iy e.1)/\dP e.2/\iy e.2)->nA s.N->s.N.length+sw l<=100000000000->kT E s.N D c [] s.js->kU s->(∀ p ∈ D,p.1 < s.N.length/\p.2 < s.N.length) ->
  (∀ e ∈ done,∃ p ∈ D,p.1 < s.N.length/\p.2 < s.N.length/\tn s.N p.1=e.1/\tn s.N p.2=e.2) ->
  ∃ b s',my l s b s'/\(b=false->¬ ∃ f,qE E f)/\(b=true->∃ D' c',kT E s'.N D' c' [] s'.js/\kU s'/\nA s'.N/\s'.N.length<=100000000000/\∀ e ∈ done++l,∃ p ∈ D',p.1 < s'.N.length/\p.2 < s'.N.length/\tn s'.N p.1=e.1/\tn s'.N p.2=e.2)
 |[],done,s,D,c,_,hA,hZ,hJ,hV,hD,hd=>⟨true,s,.nil,fun h=>(by cases h),fun _=>⟨D,c,hJ,hV,hA,by rw [sw] at hZ;omega,by rw [List.append_nil];exact hd⟩⟩
 |(a,b)::l,done,s,D,c,he,hA,hZ,hJ,hV,hD,hd=>by
  obtain⟨e1,⟨w1,o1⟩,w2,o2⟩:=he (a,b) (by simp)
  simp only at w1 w2 o1 o2
  rw [sw] at hZ
  simp only at hZ
  obtain⟨z1,z2⟩:=uY s.N a hA o1
  obtain⟨z3,z4⟩:=uY _ b z1 o2
  obtain⟨p1,p2,p3,p4⟩:=lT s a hV w1
  obtain⟨x1,x2,x3⟩:=uN s.N a hJ.gi.g w1
  obtain⟨q1,q2,q3,q4⟩:=lT (a6 s a).1 b p3 w2
  rw [<-p1,<-p2] at x2 x3
  rw [<-p1] at x1
  obtain⟨y1,y2,y3⟩:=uN (a6 s a).1.N b x1.g w2
  rw [<-q1,<-q2] at y2 y3
  rw [<-q1] at y1
  rw [<-p1] at z2 z3 z4
  rw [<-q1] at z3 z4
  obtain⟨s2,mM⟩:∃ s2,s2=(a6 (a6 s a).1 b).1:=⟨_,rfl⟩
  obtain⟨x,hx⟩:∃ x,x=(a6 s a).2:=⟨_,rfl⟩
  obtain⟨y,hy⟩:∃ y,y=(a6 (a6 s a).1 b).2:=⟨_,rfl⟩
  have key:∀ {r:Bool}{s':PS},(∃ m j,ec s2.N m [(x,y)] s2.js=some (false,j)/\r=false/\s'=⟨s2.N,s2.vs,j⟩)\/(∃ m j,ec s2.N m [(x,y)] s2.js=some (true,j)/\my l ⟨s2.N,s2.vs,j⟩ r s')->my ((a,b)::l) s r s':=by
   intro r s' h
   subst mM hx hy
   rcases h with ⟨m,j,h1,rfl,rfl⟩|⟨m,j,h1,h2⟩
   ·exact .no h1
   ·exact .go h1 h2
  rw [<-mM] at q3 q4 y1 y2 y3 z3 z4
  rw [<-hx] at x2 x3
  rw [<-hy] at y2 y3
  have tx:tn s2.N x=a:=by rw [y1.tn x2,x3]
  have zE:x < s2.N.length:=Nat.lt_of_lt_of_le x2 y1.le
  have hE:oS s.N s2.N:=x1.trans y1
  have hG:Grown s s2:=p4.trans q4
  have hJ2:=hJ.grow hD hE hG zE y2 (by rw [tx,y3];exact e1)
  clear mM hx hy p1 p2 p3 p4 q1 q2 x1 x2 x3
  have hK:∀ i,i < s2.N.length->(ks s2.N i).length<=6:=fun i hi=>by rw [jx hE.g hi];exact (z3 i hi).out.1
  obtain⟨f,r,j,j1,j2,j3⟩:=QE hK _ _ rfl rfl (by have:=xz (fun i=>if i < s.N.length then c i else i) s2.N.length;simp only [List.length_singleton];omega) hJ2
  cases r with
  |false=>exact⟨false,_,key (.inl ⟨f,j,j1,rfl,rfl⟩),fun _=>j3 rfl,fun h=>by cases h⟩
  |true =>
   obtain⟨c',Zz⟩:=j2 rfl
   have hl:s2.js.up.length=s2.N.length:=q3.up
   obtain⟨r,s',k1,k2,k3⟩:=JL l (done++[(a,b)]) ⟨s2.N,s2.vs,j⟩ ((x,y)::D) c' (fun e h=>he e (by simp [h])) z3 (by simp only;omega) Zz ⟨q3.vs,Zz.len,q3.nd⟩ (fun p hp=>by
    rcases List.mem_cons.1 hp with rfl|hp
    ·exact⟨zE,y2⟩
    ·obtain⟨h1,h2⟩:=hD p hp
     have:=hE.le
     exact⟨Nat.lt_of_lt_of_le h1 this,Nat.lt_of_lt_of_le h2 this⟩) (fun e h=>by
    rcases List.mem_append.1 h with h|h
    ·obtain⟨p,h1,h2,h3,h4,h5⟩:=hd e h
     have:=hE.le
     exact⟨p,by simp [h1],Nat.lt_of_lt_of_le h2 this,Nat.lt_of_lt_of_le h3 this,by rw [hE.tn h2];exact h4,by rw [hE.tn h3];exact h5⟩
    ·obtain rfl:=List.mem_singleton.1 h
     exact⟨(x,y),by simp,zE,y2,tx,y3⟩)
   exact⟨r,s',key (.inr ⟨f,j,j1,k1⟩),k2,fun e=>by
    obtain⟨D',c',h1,h2,h4,h5,h3⟩:=k3 e
    exact⟨D',c',h1,h2,h4,h5,fun e he=>h3 e (by simpa using he)⟩⟩
theorem zZ:gI []:=⟨(fun i hi=>by cases hi),fun i hi=>(by cases hi),fun i hi=>(by cases hi),fun i j hi=>by cases hi⟩
theorem kT.start {E:List (Tm × Tm)}:kT E [] [] id [] ⟨[],[],[]⟩ :=
 ⟨⟨zZ,fun i j hi=>(by cases hi),fun p hp=>(by cases hp),fun p hp=>(by cases hp),fun i j hi=>by cases hi⟩,⟨fun _=>0,fun i hi=>(by cases hi),fun i hi=>(by cases hi),fun i hi=>(by cases hi),fun i hi=>(by cases hi),fun i hi=>by cases hi⟩,rfl,
  fun C i h=>(by cases h),fun C hC=>(by cases hC),fun C hC=>(by cases hC),fun C _=>rfl,fun C _=>rfl⟩
section
variable {E:List (Tm × Tm)}{N:aU}{D:List (Nat × Nat)}{c:Nat->Nat}{s:JS}
theorem kT.SO (h:kT E N D c [] s):yK N c s.sh:=⟨h.pos,fun C hC e s' hs=>by
 have h1:=h.qG C hC e
 rw [hs] at h1
 exact h1,fun i hi j hj=>Nat.lt_trans (h.gi.g.lt i hi j hj) hi⟩
theorem Q0 {sh:List (Int × Int)}(hC:nq E N c) (hS:yK N c sh) (hn:∀ i,i < N.length->(tn N i).k ≠ 1->∃ t,bp sh (c i)=some t) (hc:∀ i,i < N.length->c (c i)=c i/\c i < N.length) (hW:∀ i,i < N.length->∃ m,iG N c (bp sh) m (c i)) :
  ∃ r,nt N c r/\∀ i,i < N.length->iG N c (bp sh) (r (c i)) (c i):=by
 have hl:∀ C,∃ m,(∃ m,iG N c (bp sh) m C)->iG N c (bp sh) m C/\∀ k,k < m->¬ iG N c (bp sh) k C:=fun C=>by
  by_cases h:∃ m,iG N c (bp sh) m C
  ·obtain⟨n,hn⟩:=h
   obtain⟨m,h1,h2⟩:=Lh (p:=fun m=>iG N c (bp sh) m C) n hn
   exact⟨m,fun _=>⟨h1,h2⟩⟩
  ·exact⟨0,fun h'=>absurd h' h⟩
 refine⟨fun C=>(hl C).choose,fun i hi hk j hj=>?_,fun i hi=>((hl (c i)).choose_spec (hW i hi)).1⟩
 obtain⟨t,ht⟩:=hn i hi hk
 obtain⟨t1,t2,t3⟩:=hS.at_ (c i) (hc i hi).2 (hc i hi).1 t ht
 have h1:=((hl (c i)).choose_spec (hW i hi)).1
 obtain⟨_,a2⟩:=hC.al i t hi t1 t2.symm hk t3
 have dK:c j ∈ (ks N t).map c:=by rw [<-a2];exact List.mem_map.2 ⟨j,hj,rfl⟩
 obtain⟨j',eJ,e⟩:=List.mem_map.1 dK
 have hjl:j' < N.length:=hS.NZ t t1 j' eJ
 show (hl (c j)).choose < (hl (c i)).choose
 generalize (hl (c i)).choose=m at h1
 cases m with
 |zero=>exact h1.elim
 |succ m =>
  have h2:=h1 t ht j' eJ
  rw [e] at h2
  have h3:=((hl (c j)).choose_spec ⟨m,h2⟩).2
  exact Nat.lt_succ_of_le (Nat.le_of_not_lt fun h=>h3 m h h2)
end
theorem SP {E:List (Tm × Tm)}{N:aU}{D:List (Nat × Nat)}{c:Nat->Nat}{s:JS}(h:kT E N D c [] s) (hu:∃ f,qE E f):∃ rk,N0 N c s.sh rk:=by
 obtain⟨r,hr⟩:=Jj h.gi.g h.gi.sound hu
 refine⟨r,fun C hC e t ht j hj=>?_⟩
 obtain⟨t1,t2,t3⟩:=h.SO.at_ C hC e t ht
 have:=hr t t1 t3 j hj
 rwa [t2] at this
theorem Et {N:aU}{c:Nat->Nat}{sh:Nat->Option Nat}:∀ (n:Nat),(∀ i,i < n->∃ m,iG N c sh m (c i))->∃ m,∀ i,i < n->iG N c sh m (c i)
 |0,_=>⟨0,fun i hi=>by omega⟩
 |n+1,h=>by
  obtain⟨m,hm⟩:=Et n fun i hi=>h i (by omega)
  obtain⟨m',RG⟩:=h n (by omega)
  refine⟨max m m',fun i hi=>?_⟩
  by_cases e:i < n
  ·exact (hm i e).le (Nat.le_max_left _ _)
  ·have:i=n:=by omega
   subst this
   exact RG.le (Nat.le_max_right _ _)
section
variable {N:aU}{c h:Nat->Nat}{sh ls vs:List (Int × Int)}{kn:KN}
theorem BZ {σ:Int->Tm}{M:Nat}{p:Int->Bool}(g:gI N) (hS:yK N c sh) (hp:∀ v,p v=true ↔ σ v ≠ vr v)
  (hv:∀ v k,ao vs v=some k->0<=k/\k.toNat < N.length/\iG N c (bp sh) M (c k.toNat)/\σ v=TF N c (bp sh) (pJ ls) M (c k.toNat)/\ao kn (c k.toNat:Int)=some (oT (σ v))) :
  ∀ (l:List Int) (up:List Nat) (acc:List Bd),(∀ v ∈ l,∃ k,ao vs v=some k)->UF up c h->up.length=N.length ->
   oU N sh ls vs kn M l up acc=some (if (l.filter p).any (fun v=>oV (σ v)) then none else some (acc++(l.filter p).map fun v=>⟨v,σ v⟩))
 |[],up,acc,_,_,_=>by rw [oU];simp
 |v::l,up,acc,hk,hU,hl=>by
  obtain⟨k,dL⟩:=hk v (by simp)
  obtain⟨k0,k1,k2,k3,k4⟩:=hv v k dL
  obtain⟨u1,r1,vx,l1⟩:=hU.fa (k:=k.toNat) (by omega)
  have ck:c k.toNat < N.length:=by have:=(hU.rt k.toNat (by omega)).2;omega
  have cc:c (c k.toNat)=c k.toNat:=hU.cc (by omega)
  rw [oU,dL]
  simp only [if_pos k0,r1]
  have hb:(ao sh (c k.toNat:Int)=none/\(ao ls (c k.toNat:Int)).getD 0=v) ↔ σ v=vr v:=by
   rw [k3]
   cases M with
   |zero=>exact k2.elim
   |succ M =>
    rw [TF]
    cases e:ao sh (c k.toNat:Int) with
    |none =>
     have f:bp sh (c k.toNat)=none:=by unfold bp;rw [e];rfl
     rw [f]
     simp only [true_and,pJ,vr,Tm.mk.injEq,and_true]
    |some s =>
     have f:bp sh (c k.toNat)=some s.toNat:=by unfold bp;rw [e];rfl
     obtain⟨s1,s2,s3⟩:=hS.at_ _ ck cc _ f
     rw [f]
     simp only [vr,Tm.mk.injEq]
     exact⟨(fun h=>by cases h.1),fun h=>absurd h.1 s3⟩
  rw [k4,Option.getD_some]
  simp only [QN]
  by_cases e:σ v=vr v
  ·rw [if_pos (hb.2 e),BZ g hS hp hv l u1 acc (fun w hw=>hk w (by simp [hw])) vx (by omega)]
   have:p v=false:=by rw [Bool.eq_false_iff];intro h;exact (hp v).1 h e
   rw [List.filter_cons_of_neg (by rw [this];simp)]
  ·rw [if_neg (fun h=>e (hb.1 h))]
   have:p v=true:=(hp v).2 e
   rw [List.filter_cons_of_pos this]
   cases yP:oV (σ v) with
   |true=>simp [yP]
   |false =>
    obtain⟨u2,m2,pF,l2⟩:=Ju (ls:=ls) g hS M (c k.toNat) u1 k2 vx (by omega) ck cc
    rw [<-k3] at m2
    simp only [m2,Bool.false_eq_true,if_false]
    rw [BZ g hS hp hv l u2 _ (fun w hw=>hk w (by simp [hw])) pF l2]
    simp [yP]
end
theorem Q1 (E:List (Tm × Tm)) (hw:∀ e ∈ E,(dP e.1/\iy e.1)/\dP e.2/\iy e.2) (hz:sw E<=100000000000):∃ b s',my E ⟨[],[],⟨[],[],[]⟩⟩ b s'/\(b=false->qc oV E=([],13)) /\
  (b=true->kU s'/\nA s'.N/\s'.N.length<=100000000000/\∃ b2 up kn,pI s'.N s'.js.sh (List.range s'.N.length) s'.js.up []=some (b2,up,kn)/\(b2=false->qc oV E=([],13)) /\
   (b2=true->∀ l,qF l->(∀ v,v ∈ l ↔ v ∈ s'.vs.map (·.1))->∃ M ro,oU s'.N s'.js.sh s'.js.ls s'.vs kn M l up []=some ro/\qc oV E=(match ro with|none=>([],6)|some o=>(o,0)))):=by
 obtain⟨b,s',h1,h2,h3⟩:=JL (E:=E) E [] ⟨[],[],⟨[],[],[]⟩⟩ [] id (fun e he=>⟨he,hw e he⟩) (fun i hi=>by cases hi) (by simpa using hz) .start ⟨fun v=>rfl,rfl,by simp⟩ (fun p hp=>by cases hp) (fun e he=>by cases he)
 refine⟨b,s',h1,fun e=>zK (h2 e),fun e=>?_⟩
 obtain⟨D,c,hJ,hV,pM,hLe,hD⟩:=h3 e
 rw [List.nil_append] at hD
 obtain⟨hh,hU⟩:=hJ.uf
 have hS:=hJ.SO
 refine⟨hV,pM,hLe,?_⟩
 obtain⟨b2,up,kn,m1,pF,l2,hK,_,m5,m6⟩:=BQ (lo:=pJ s'.js.ls) hS (List.range s'.N.length) s'.js.up [] (fun j hj=>List.mem_range.1 hj) hU hJ.len (fun C q hq=>by cases hq)
 refine⟨b2,up,kn,m1,fun e=>zK fun hu=>m6 e (SP hJ hu),fun e l hl hm=>?_⟩
 have hC:nq E s'.N c:=hJ.gi.closed hD
 have nZ:∀ i,i < s'.N.length->c (c i)=c i/\c i < s'.N.length:=fun i hi=>⟨hU.cc (by rw [hJ.len];exact hi),by have:=(hU.rt i (by rw [hJ.len];exact hi)).2;rw [hJ.len] at this;exact this⟩
 have z6:∀ i,i < s'.N.length->∃ m,iG s'.N c (bp s'.js.sh) m (c i)/\ao kn (c i:Int)=some (oT (TF s'.N c (bp s'.js.sh) (pJ s'.js.ls) m (c i))):=fun i hi=>by
  obtain⟨q,hq⟩:=m5 e i (List.mem_range.2 hi)
  obtain⟨m,k1,k2⟩:=hK _ _ hq
  exact⟨m,k1,by rw [hq,k2]⟩
 have Oo:∀ i,i < s'.N.length->(tn s'.N i).k ≠ 1->∃ t,bp s'.js.sh (c i)=some t:=fun i hi hk=>by
  cases ht:bp s'.js.sh (c i) with
  |some t=>exact⟨t,rfl⟩
  |none =>
   have:=hJ.qG (c i) (nZ i hi).2 (nZ i hi).1
   rw [ht] at this
   exact absurd (this i hi rfl) hk
 obtain⟨r,hr,ZA⟩:=Q0 hC hS Oo nZ fun i hi=>let ⟨m,h,_⟩:=z6 i hi;⟨m,h⟩
 obtain⟨M,hM⟩:=Et (sh:=bp s'.js.sh) (c:=c) s'.N.length fun i hi=>⟨_,ZA i hi⟩
 have qu:∀ (m C:Nat),C < s'.N.length->c C=C->TF s'.N c (bp s'.js.sh) (pJ s'.js.ls) m C=TF s'.N c (fun C=>if C < s'.N.length/\c C=C then bp s'.js.sh C else none) (pJ s'.js.ls) m C:=by
  intro m
  induction m with
  |zero=>intro C _ _;rfl
  |succ m ih =>
   intro C h1 h2
   rw [TF,TF]
   simp only [if_pos (And.intro h1 h2)]
   cases hs:bp s'.js.sh C with
   |none=>rfl
   |some t =>
    simp only [Tm.mk.injEq,true_and]
    refine List.map_congr_left fun j hj=>?_
    have dK:=hS.NZ t (hS.at_ C h1 h2 t hs).1 j hj
    exact ih (c j) (nZ j dK).2 (nZ j dK).1
 obtain⟨B0,LI⟩:∃ B0:Nat->Option Nat,B0=fun C=>if C < s'.N.length/\c C=C then bp s'.js.sh C else none:=⟨_,rfl⟩
 rw [<-LI] at qu
 have j_:∀ C t,B0 C=some t->t < s'.N.length/\c t=C/\(tn s'.N t).k ≠ 1:=fun C t h=>by
  rw [LI] at h
  simp only at h
  split at h
  ·rename_i hc;exact hS.at_ C hc.1 hc.2 t h
  ·cases h
 have mM:∀ i,i < s'.N.length->B0 (c i)=bp s'.js.sh (c i):=fun i hi=>by rw [LI];simp only;rw [if_pos ⟨(nZ i hi).2,(nZ i hi).1⟩]
 have Ek:∀ i,i < s'.N.length->B0 (c i)=none->∀ j,j < s'.N.length->c j=c i->(tn s'.N j).k=1:=fun i hi h j hj e=>Classical.byContradiction fun hk=>by
  obtain⟨t,ht⟩:=Oo j hj hk
  rw [e,<-mM i hi,h] at ht
  cases ht
 have hMe:uK s'.N c (TC s'.N c B0 (pJ s'.js.ls) r):=K7 hC j_ hr Ek fun i hi h=>by
  have h1:=hJ.dw (c i) (nZ i hi).2 (nZ i hi).1
  have h2:=Ek i hi h
  unfold pJ
  cases hl:ao s'.js.ls (c i:Int) with
  |none=>rw [hl] at h1;exact absurd (h2 i hi rfl) (h1 i hi rfl)
  |some v =>
   rw [hl] at h1
   obtain⟨⟨j,j1,j2,j3,j4⟩,j5⟩:=h1
   exact⟨j,j1,j2,j4.symm,fun j' eJ e=>by rw [j4];exact j5 j' eJ e (h2 j' eJ e)⟩
 have SQ:=K5 hC hMe hr
 have ZB:∀ {m m' C:Nat},iG s'.N c (bp s'.js.sh) m C->iG s'.N c (bp s'.js.sh) m' C->TF s'.N c (bp s'.js.sh) (pJ s'.js.ls) m C=TF s'.N c (bp s'.js.sh) (pJ s'.js.ls) m' C:=fun {m m' C} h h'=>by
  rw [<-xF h (Nat.le_max_left m m'),xF h' (Nat.le_max_right m m')]
 obtain⟨σ,SR⟩:∃ σ,σ=xx s'.N c (TC s'.N c B0 (pJ s'.js.ls) r):=⟨_,rfl⟩
 have NL:∀ i,i < s'.N.length->(tn s'.N i).k=1->∀ m,iG s'.N c (bp s'.js.sh) m (c i)->σ (tn s'.N i).i=TF s'.N c (bp s'.js.sh) (pJ s'.js.ls) m (c i):=fun i hi hk m hm=>by
  rw [SR,uM hJ.gi.g hi hk]
  unfold TC
  rw [<-qu _ _ (nZ i hi).2 (nZ i hi).1]
  exact ZB ((ZA i hi).succ) hm
 rw [<-SR] at SQ
 obtain⟨p,hp⟩:∃ p:Int->Bool,∀ v,p v=true ↔ σ v ≠ vr v:=by
  classical
  exact⟨fun v=>decide (σ v ≠ vr v),fun v=>decide_eq_true_iff⟩
 refine⟨M,_,BZ (σ:=σ) (M:=M) (p:=p) hJ.gi.g hS hp (fun v k hk=>?_) l up [] (fun v hv=>nu.1 ((hm v).1 hv)) pF l2,?_⟩
 ·rw [hV.vs] at hk
  cases hx:jE s'.N v with
  |none=>rw [hx] at hk;cases hk
  |some j =>
   rw [hx] at hk
   obtain rfl:=Option.some.inj hk
   obtain⟨a1,a2,a3⟩:=tr hx
   show 0<=(j:Int)/\(j:Int).toNat < _/\iG _ _ _ M (c (j:Int).toNat)/\σ v=TF _ _ _ _ M (c (j:Int).toNat)/\ao kn (c (j:Int).toNat:Int)=_
   rw [Int.toNat_natCast]
   obtain⟨m,w1,w2⟩:=z6 j a1
   have h1:=NL j a1 a2 M (hM j a1)
   rw [a3] at h1
   exact⟨by omega,a1,hM j a1,h1,by rw [w2,h1,ZB w1 (hM j a1)]⟩
 ·have hO:tq E σ (l.filter p):=⟨SQ,rJ hl,fun v=>by
   rw [List.mem_filter,hp]
   refine⟨fun h=>h.2,fun h=>⟨?_,h⟩⟩
   rw [hm,nu,hV.vs]
   cases hx:jE s'.N v with
   |some j=>exact⟨_,rfl⟩
   |none =>
    refine absurd ?_ h
    rw [SR]
    exact BC fun ⟨i,h1,h2,h3⟩=>zL hx i h1 h2 h3⟩
  rw [zJ hO,Fe]
  split<;>simp
end Go.Proofs.YtgjfgekaclobaaaGreat
