import Derived.Test.YtbpabjmnhggajaaGreatOs36
namespace Go.Proofs.YtbpabjmnhggajaaGreat
set_option linter.unusedVariables false
set_option linter.unusedSimpArgs false
open Go.RowKit
def Tg (n:Nat) (s:XS) (a b:AV):Option XS:=match a with
 |.pt k sz i j=>match (eW s).get k with
  |some (.arr sz' rows 0 ex)=>match Nat.beq sz sz' && g_ bO (aL b) && Nat.beq n (aL b).length with
   |true=>match rows[i]? with
    |some row=>match Nat.ble (j+(aL b).length) row.length with
     |true=>some (lP s k (some (.arr sz (rows.set i (mF row j (aL b))) 0 ex)))
     |false=>none
    |none=>none
   |false=>none
  |_=>none
 |_=>none
def Ns (sz by_:Nat) (s:XS) (a b:AV):Option (AV × XS):=match dF (eW s) b with
 |none=>none
 |some more=>match eB s.yk s.nx with
  |true=>none
  |false=>match a with
   |.sl true rows=>match more with
    |[]=>some (.sl true rows,s)
    |x::more=>match lA sz rows && lA sz (x::more) && Nat.ble ((rows.length+(x::more).length)*by_) 35184372088832 with
     |true=>some (.ob s.nx sz 0 (rows.length+(x::more).length) none,mo s (.arr sz (rows++x::more) 0 false))
     |false=>none
   |.ob k sz' off len cx=>match (eW s).get k with
    |some (.arr gw rows fz ex)=>match more with
     |[]=>match off,cx,Nat.beq gw sz' with
      |0,none,true=>some (.ob k sz' 0 len none,s)
      |_,_,_=>none
     |x::more=>match Nat.beq gw sz && Nat.beq sz' sz && lA sz (x::more) && tM bO (x::more) && Nat.ble ((len+(x::more).length)*by_) 35184372088832 && Nat.ble fz len && Nat.ble (off+len) rows.length with
      |true=>match cx with
       |none=>match off with
        |0=>some (.ob s.nx sz 0 (len+(x::more).length) none,mo (lP s k none) (.arr sz (rows.take len++x::more) fz false))
        |_=>none
       |some c=>match Nat.beq c len with
        |true=>some (.ob s.nx sz 0 (len+(x::more).length) none,mo s (.arr sz ((rows.drop off).take len++x::more) 0 false))
        |false=>none
      |false=>none
    |_=>none
   |_=>none
def DH:List (Value × AV)->Bool
 |[]=>true
 |(.int .i64 _,_)::l=>DH l
 |_=>false
def tW (dr:Bool) (q:ee) (f:Nat->AV) (s:XS):Option (AV × XS) :=
 match q with
 |.load k x=>match mc k (eW s) (x.ev f) with
  |some a=>some (a,s)
  |none=>none
 |.alloc cs=>match eB s.yk s.nx with
  |false=>some (.pt s.nx cs.length 0 0,mo s (.arr cs.length [cs] 0 true))
  |true=>none
 |.box x=>match eB s.yk s.nx,g_ bO (aL (x.ev f)) with
  |false,true=>some (.pt s.nx (aL (x.ev f)).length 0 0,mo s (.arr (aL (x.ev f)).length [aL (x.ev f)] 0 true))
  |_,_=>none
 |.store n x b=>match Tg n s (x.ev f) (b.ev f) with
  |some s'=>some (.v undef,s')
  |none=>none
 |.append sz by_ a b=>Ns sz by_ s (a.ev f) (b.ev f)
 |.iI z by_ l c=>match l.ev f,c.ev f with
  |.v (.int _ i),.v (.int _ j)=>match decide (0<=i/\i=j/\i*by_<=35184372088832/\i<=9223372036854775807) && !eB s.yk s.nx with
   |true=>some (.ob s.nx z.length 0 i.toNat none,mo s (.arr z.length (List.replicate i.toNat z) 0 true))
   |false=>none
  |_,_=>none
 |.gj x=>match dr,eB s.yk s.nx,x with
  |false,false,none=>some (.mp s.nx,mo s (.mp []))
  |false,false,some x=>match x.ev f with
   |.v (.int _ _)=>some (.mp s.nx,mo s (.mp []))
   |_=>none
  |_,_,_=>none
 |.look z c x i=>match dr,x.ev f,i.ev f with
  |false,.mp k,.v (.int .i64 m)=>match (eW s).get k with
   |some (.mp es)=>match DH es with
    |true=>some ((match oy es m with|some a=>(if c then .aG [a,.v (.bool true)] else a)|none=>(if c then .aG [z,.v (.bool false)] else z)),s)
    |false=>none
   |_=>none
  |_,_,_=>none
 |.j7 x i b=>match x.ev f,i.ev f with
  |.mp k,.v (.int .i64 m)=>match (eW s).get k with
   |some (.mp es)=>match DH es with
    |true=>some (.v undef,lP s k (some (.mp (vp es m (b.ev f)))))
    |false=>none
   |_=>none
  |_,_=>none
 |.yD x=>match x.ev f,eB s.yk s.nx with
  |.v (.string z),false=>some (.pt s.nx 0 0 0,mo s (.si z 0))
  |_,_=>none
 |.sE x=>match x.ev f with
  |.pt k _ 0 0=>match (eW s).get k with
   |some (.si z pos)=>match Nat.blt pos z.size with
    |true=>some (.aG [.v (.bool true),.v (.int .i64 pos),.v (.int .i32 (Utf8.decode z pos).1)],lP s k (some (.si z (pos+(Utf8.decode z pos).2))))
    |false=>some (.aG [.v (.bool false)],s)
   |_=>none
  |_=>none
 |q=>match tR dr q f with
  |some r=>some (r,s)
  |none=>none
section
variable {P:Program}{w0:World}{o:Op}{α:AA}{S S':ae}{r:AV}{dr:Bool}
theorem LP {F:AV->Bool}:∀ {l:List AV},g_ F l=true->l.all F=true:=fun h=>List.all_eq_true.2 (eu h)
theorem af.sto {n:Nat}{x b:QO}{k sz i j:Nat}{ex:Bool}{rows:List (List AV)}{row:List AV}(hx:x.ev α.tm=.pt k sz i j) (hk:S.get k=some (.arr sz rows 0 ex)) (hc:(aL (b.ev α.tm)).all bO=true) (hn:n=(aL (b.ev α.tm)).length) (hi:rows[i]?=some row)
  (hj:j+(aL (b.ev α.tm)).length<=row.length):af P w0 dr (.store n x b) α S (.v undef) (S.set k (some (.arr sz (rows.set i (mF row j (aL (b.ev α.tm)))) 0 ex))):=by
 refine af.of rfl fun o hr=>?_;cases o<;>simp only[res,dS] at hr<;>(repeat' split at hr)<;>(try cases hr)
 rename_i hs;rw[aI] at hx hc hn hj ⊢;simp only[a8,hx];refine bc.mk (a:=_) ?_ ⟨rfl,rfl⟩;simp only[ml,hk,hs,hc,hn,Nat.beq_refl,Bool.and_self,hi,Nat.ble_eq_true_of_le hj]
theorem af.ahB {sz by_ k fz off len c:Nat}{ex:Bool}{a b:QO}{rows more:List (List AV)}{x:List AV}(h1:a.ev α.tm=.ob k sz off len (some c)) (hk:S.get k=some (.arr sz rows fz ex)) (hm:dF S (b.ev α.tm)=some (x::more)) (h0:c=len) (h2:off+len<=rows.length)
  (h3:∀ row ∈ x::more,row.length=sz) (h4:(len+(x::more).length)*by_<=35184372088832) :
  af P w0 dr (.append sz by_ a b) α S (.ob S.nx sz 0 (len+(x::more).length) none) (S.new (.arr sz ((rows.drop off).take len++x::more) 0 false)):=by
 refine af.append (dH hm).1 (dH hm).2 fun e z hz hs hb hp=>?_;rw[h1];simp only[j_];refine bc.mk (te hk) ?_;simp only[hs,hb,hp,Nat.beq_refl,Bool.and_self,Bool.true_and];exact⟨h0,h2,h3,h4,rfl,rfl⟩
theorem zE:∀ {es:List (Value × AV)},DH es=true->lU es:=by
 intro es
 induction es with
 |nil=>intro h;intro p hp;cases hp
 |cons p es ih =>
  intro h;obtain⟨v,a⟩:=p;intro p hp;unfold DH at h;split at h
  ·grind
  ·rename_i e;injection e with e1 e2;injection e1 with e3 e4;subst e2 e3 e4;rcases List.mem_cons.1 hp with rfl|hp
   ·exact⟨_,rfl⟩
   ·exact ih h p hp
  ·grind
section
variable {J:FJ}{s:XS}
theorem DI {k:LK}{a r:AV}(h:mc k (eW s) a=some r):mc k (den J s) a=some r:=by
 unfold mc at h ⊢;split at h
 ·grind
 ·grind[dB]
 ·grind
theorem jh {b:AV}{l:List (List AV)}(h:dF (eW s) b=some l):dF (den J s) b=some l:=by
 obtain⟨h1,h2⟩:=dH h;have key:rowsOf (den J s) b=some l:=by
  unfold rowsOf at h1 ⊢;split at h1
  ·grind
  ·grind[dB]
  all_goals first|exact h1|cases h1
 unfold dF;rw[key,h2];simp only[Nat.beq_refl]
end
theorem Nt {n:Nat}{x b:QO}{f:Nat->AV}{df:List DE}{s s':XS}(h:Tg n s (x.ev f) (b.ev f)=some s'):(∀ J,af P w0 dr (.store n x b) ⟨f,df⟩ (den J s) (.v undef) (den J s'))/\eC s s'/\s'.lg=s.lg:=by
 unfold Tg at h;split at h
 ·rename_i k sz i j hx;split at h
  ·rename_i sz' rows ex hk;split at h
   ·rename_i hc;simp only[Bool.and_eq_true] at hc;obtain⟨⟨h1,h2⟩,h3⟩:=hc;have h1:=Nat.eq_of_beq_eq_true h1;have h3:=Nat.eq_of_beq_eq_true h3;subst h1;split at h
    ·rename_i row hi;split at h
     ·rename_i hj;have hj:=Nat.le_of_ble_eq_true hj;obtain rfl:=oJ_ h;refine⟨fun J=>?_,.wr,rfl⟩;obtain⟨dV,dP⟩:=dB (J:=J) hk;rw[jJ dP];exact af.sto hx dV (LP h2) h3 hi hj
     ·grind
    ·grind
   ·grind
  ·grind
 ·grind
theorem DJ {sz by_:Nat}{a b:QO}{f:Nat->AV}{df:List DE}{s s':XS}(h:Ns sz by_ s (a.ev f) (b.ev f)=some (r,s')):(∀ J,af P w0 dr (.append sz by_ a b) ⟨f,df⟩ (den J s) r (den J s'))/\eC s s'/\s'.lg=s.lg:=by
 unfold Ns at h;split at h
 ·grind
 ·rename_i more hm;split at h
  ·grind
  ·rename_i hyk;split at h
   ·rename_i rows ha;split at h
    ·simp only[oI_,pI_] at h;obtain⟨rfl,rfl⟩:=h;exact⟨fun J=>af.Es ha (jh hm),.refl _,rfl⟩
    ·rename_i x more;split at h
     ·rename_i hc;simp only[Bool.and_eq_true] at hc;obtain⟨⟨h1,h2⟩,h3⟩:=hc;simp only[oI_,pI_] at h;obtain⟨rfl,rfl⟩:=h;refine⟨fun J=>?_,.nw,rfl⟩;rw[jK hyk];exact af.Et ha (jh hm) (gA h1) (gA h2) (Nat.le_of_ble_eq_true h3)
     ·grind
   ·rename_i k sz' off len cx ha;split at h
    ·rename_i gw rows fz ex hk;split at h
     ·split at h
      ·rename_i hb;have hb:=Nat.eq_of_beq_eq_true hb;subst hb;simp only[oI_,pI_] at h;obtain⟨rfl,rfl⟩:=h;exact⟨fun J=>af.CQ ha (dB (J:=J) hk).1 (jh hm),.refl _,rfl⟩
      ·grind
     ·rename_i x more;split at h
      ·rename_i hc;simp only[Bool.and_eq_true] at hc;obtain⟨⟨⟨⟨⟨⟨h1,h2⟩,h3⟩,h4⟩,h5⟩,h6⟩,h7⟩:=hc;have h1:=Nat.eq_of_beq_eq_true h1;have h2:=Nat.eq_of_beq_eq_true h2;have h3:=gA h3;have h4:=l5 h4;have h5:=Nat.le_of_ble_eq_true h5;have h6:=Nat.le_of_ble_eq_true h6;have h7:=Nat.le_of_ble_eq_true h7;subst h1 h2;split at h
       ·split at h
        ·simp only[oI_,pI_] at h;obtain⟨rfl,rfl⟩:=h;refine⟨fun J=>?_,eC.wr.trans .nw,rfl⟩;obtain⟨dV,dP⟩:=dB (J:=J) hk;rw[jK (s:=lP s k none) hyk,jJ dP];exact af.MH ha dV (jh hm) h6 (by omega) (fun row hr=>⟨h3 row hr,List.all_eq_true.2 (h4 row hr)⟩) h5
        ·grind
       ·split at h
        ·rename_i hc;have hc:=Nat.eq_of_beq_eq_true hc;simp only[oI_,pI_] at h;obtain⟨rfl,rfl⟩:=h;refine⟨fun J=>?_,.nw,rfl⟩;rw[jK hyk];exact af.ahB ha (dB (J:=J) hk).1 (jh hm) hc h7 h3 h5
        ·grind
      ·grind
    ·grind
   ·grind
theorem P_ {q:ee}{f:Nat->AV}{df:List DE}{s s':XS}(h:tW dr q f s=some (r,s')):(∀ J,af P w0 dr q ⟨f,df⟩ (den J s) r (den J s'))/\eC s s'/\s'.lg=s.lg:=by
 have pure:∀ {q:ee},(match tR dr q f with|some r=>some (r,s)|none=>none)=some (r,s')->(∀ J,af P w0 dr q ⟨f,df⟩ (den J s) r (den J s'))/\eC s s'/\s'.lg=s.lg:=fun {q} h=>by
  split at h
  ·rename_i r' hq;simp only[oI_,pI_] at h;obtain⟨rfl,rfl⟩:=h;exact⟨fun J=>Ga hq,.refl _,rfl⟩
  ·grind
 cases q with
 |load k x =>
  simp only[tW] at h;split at h
  ·rename_i a ha;simp only[oI_,pI_] at h;obtain⟨rfl,rfl⟩:=h;exact⟨fun J=>af.quiet (by simp only[ja,DI ha]),.refl _,rfl⟩
  ·grind
 |alloc cs =>
  simp only[tW] at h;split at h
  ·rename_i hy;simp only[oI_,pI_] at h;obtain⟨rfl,rfl⟩:=h;refine⟨fun J=>af.quiet ?_,.nw,rfl⟩;rw[jK hy];simp only[ja,qC]
   rfl
  ·grind
 |box x =>
  simp only[tW] at h;split at h
  ·rename_i hy hc;simp only[oI_,pI_] at h;obtain⟨rfl,rfl⟩:=h;refine⟨fun J=>af.quiet ?_,.nw,rfl⟩;rw[jK hy];simp only[ja,qC,LP hc]
   rfl
  ·grind
 |store n x b =>
  simp only[tW] at h;split at h
  ·rename_i s1 hs;simp only[oI_,pI_] at h;obtain⟨rfl,rfl⟩:=h;exact Nt hs
  ·grind
 |append sz by_ a b=>exact DJ h
 |iI z by_ l c =>
  simp only[tW] at h;split at h
  ·rename_i k1 i k2 j hl hc;split at h
   ·rename_i hd;simp only[Bool.and_eq_true,Bool.not_eq_true'] at hd;have eQ:=of_decide_eq_true hd.1;simp only[oI_,pI_] at h;obtain⟨rfl,rfl⟩:=h;refine⟨fun J=>?_,.nw,rfl⟩;rw[jK hd.2];exact af.UO hl hc eQ.1 eQ.2.1 eQ.2.2.1 eQ.2.2.2
   ·grind
  ·grind
 |gj x =>
  simp only[tW] at h;split at h
  ·rename_i hy;simp only[oI_,pI_] at h;obtain⟨rfl,rfl⟩:=h;refine⟨fun J=>?_,.nw,rfl⟩;rw[jK hy];exact af.gj
  ·rename_i y hy;split at h
   ·rename_i hx;simp only[oI_,pI_] at h;obtain⟨rfl,rfl⟩:=h;refine⟨fun J=>?_,.nw,rfl⟩;rw[jK hy];exact af.Yy hx
   ·grind
  ·grind
 |look z c x i =>
  simp only[tW] at h;split at h
  ·rename_i k m hx hi;split at h
   ·rename_i es hk;split at h
    ·rename_i he;simp only[oI_,pI_] at h;obtain⟨rfl,rfl⟩:=h;exact⟨fun J=>af.look hx (dB (J:=J) hk).1 (zE he) hi,.refl _,rfl⟩
    ·grind
   ·grind
  ·grind
 |j7 x i b =>
  simp only[tW] at h;split at h
  ·rename_i k m hx hi;split at h
   ·rename_i es hk;split at h
    ·rename_i he;simp only[oI_,pI_] at h;obtain⟨rfl,rfl⟩:=h;refine⟨fun J=>?_,.wr,rfl⟩;obtain⟨dV,dP⟩:=dB (J:=J) hk;rw[jJ dP];cases dr with
     |false=>exact af.j7 hx dV (zE he) hi rfl
     |true=>exact af.Dl hx dV (zE he) hi rfl
    ·grind
   ·grind
  ·grind
 |yD x =>
  simp only[tW] at h;split at h
  ·rename_i z hx hy;simp only[oI_,pI_] at h;obtain⟨rfl,rfl⟩:=h;refine⟨fun J=>?_,.nw,rfl⟩;rw[jK hy];exact af.X8 hx
  ·grind
 |sE x =>
  simp only[tW] at h;split at h
  ·rename_i k sz hx;split at h
   ·rename_i z pos hk;split at h
    ·rename_i hp;simp only[oI_,pI_] at h;obtain⟨rfl,rfl⟩:=h;refine⟨fun J=>?_,.wr,rfl⟩;obtain⟨dV,dP⟩:=dB (J:=J) hk;rw[jJ dP];exact af.MI hx dV (dM hp)
    ·rename_i hp;simp only[oI_,pI_] at h;obtain⟨rfl,rfl⟩:=h;refine⟨fun J=>af.X9 hx (dB (J:=J) hk).1 ?_,.refl _,rfl⟩;rcases Nat.lt_or_ge pos z.size with h1|h1
     ·have:Nat.blt pos z.size=true:=Nat.ble_eq_true_of_le h1;rw[this] at hp;cases hp
     ·grind
   ·grind
  ·grind
 |_=>exact pure h
end
section
variable {P:Program}{w0:World}{n:Nat}{α:AA}{S S' N:ae}{r:AV}
theorem St.BJ {A:Nat->Prop}{g:Gh}{w:World}(hS:St w0 A g S w) (hN:∀ k o,N.get k=some o->S.get k=some o) (hx:S.nx<=S'.nx) (h':∀ k o,S'.get k=some o->S.get k=some o/\N.get k=none) :
  Ext A g w (g.still N) w/\St w0 A (g.still N) S' w:=by
 have vM:∀ b q,(g.still N).fz b q ↔ (g.fz b q\/∃ k sz rows fz ex,N.get k=some (.arr sz rows fz ex)/\g.al k/\b=g.ob k/\q < rows.length*sz):=fun b q=>Iff.rfl;have hL:Later g w (g.still N) w:=⟨fun _ h=>h,fun _ _=>rfl,fun _ _=>rfl,fun b q h=>.inl h,fun _ _ _=>rfl⟩;have OY:∀ k o q,S'.get k=some o->g.al k->(g.still N).fz (g.ob k) q->g.fz (g.ob k) q:=fun k o q hk ha hq=>by
  rcases (vM _ q).1 hq with hq|⟨j,sz,rows,fz,ex,hj,aK,e,_⟩
  ·grind
  ·obtain⟨k1,k2⟩:=h' k o hk;have:=hS.inj k j _ _ k1 (hN j _ hj) ha aK e;rw[this,hj] at k2;cases k2
 refine⟨{ hL with size:=Nat.le_refl _,aU:=fun _ _ _=>rfl,h_:=fun b q hq=>?_ },⟨hS.base,hS.up,hS.lo,fun k hk=>Nat.lt_of_lt_of_le (hS.al k hk) hx,fun k o hk ha=>?_,fun i j o p hi hj ai aj e=>hS.inj i j o p (h' i o hi).1 (h' j p hj).1 ai aj e,fun b q hq=>?_,fun b q hb=>.inl (hS.oT b q hb),
  fun k J hk ha c hc=>hS.iE k J (h' k _ hk).1 ha c hc,fun k J j o hk ha hj aj bU hc=>hS.kL k J j o (h' k _ hk).1 ha (h' j o hj).1 aj bU hc,fun j k J J' hj hk aj ak=>hS.mQ j k J J' (h' j _ hj).1 (h' k _ hk).1 aj ak⟩⟩
 ·rcases (vM b q).1 hq with hq|⟨k,sz,rows,fz,ex,hk,aK,rfl,_⟩
  ·grind
  ·exact .inr (hS.bT k _ (hN k _ hk) aK).1
 ·obtain⟨k2,k3,k4⟩:=hS.bT k o (h' k o hk).1 ha;refine⟨k2,k3,k4.later hL rfl (fun q hq=>OY k o q hk ha hq) fun J hJ=>⟨rfl,Nat.le_refl _,fun _ _=>rfl,fun c q hc hq=>?_⟩⟩;rcases (vM c q).1 hq with hq|⟨j,sz,rows,fz,ex,hj,aK,rfl,_⟩
  ·grind
  ·subst hJ;refine absurd hc (hS.kL k J j _ (h' k _ hk).1 ha (hN j _ hj) aK fun e=>?_);have:=(h' k _ hk).2;rw[<-e,hj] at this;cases this
 ·rcases (vM b q).1 hq with hq|⟨k,sz,rows,fz,ex,hk,aK,rfl,_⟩
  ·exact hS.cK b q hq
  ·exact (hS.bT k _ (hN k _ hk) aK).2.1
theorem qU.BJ {k:Nat}{args args':List AV}{Qa:ae}(hN:∀ k o,N.get k=some o->S.get k=some o) (hx:S.nx<=S'.nx) (h':∀ k o,S'.get k=some o->S.get k=some o/\N.get k=none) (hf:eY N args args') (h:qU P w0 k args' S' r Qa):qU P w0 k args S r Qa:=by
 intro F m A g xs w hF hS aK hA;obtain⟨hE,fk⟩:=hS.BJ hN hx h';have Vv:St w0 A g N w->True:=fun _=>trivial;have oQ:jc (g.still N) w args' xs:=by
  refine⟨hA.1.trans hf.len,fun i a x ha hx=>?_⟩;have hi:i < args.length:=by rw[hf.len];exact (List.getElem?_eq_some_iff.1 ha).1
  have h0:=List.getElem?_eq_getElem hi;have zF:St w0 A g ⟨N.get,S.nx⟩ w:=hS.forget (Nat.le_refl _) fun j p hj _=>hN j p hj;have hr:=(hf.at i _ a h0 ha);exact (hr.mono (S:=N) (T:=⟨N.get,S.nx⟩) fun _ _ _ _ _ h=>h).rep zF (hA.2 i _ x h0 hx)
 obtain⟨l,f,tmps,assign,body,h1,h2⟩:=h F m A (g.still N) xs w hF fk aK oQ;refine⟨l,f,tmps,assign,body,h1,RoundIn.mono h2 ?_⟩;rintro e w' ⟨v,g',rfl,k1,k2,k3⟩;exact⟨v,g',rfl,k1,k2,hE.trans k3⟩
theorem Cv.aad {t:Nat}{a':AV}(hN:∀ k o,N.get k=some o->S.get k=some o) (hx:S.nx<=S'.nx) (h':∀ k o,S'.get k=some o->S.get k=some o/\N.get k=none) (ht:α.tm t ≠ .u) (hf:aR N (α.tm t) a'):Cv w0 n α S ⟨a7 α.tm t a',α.df⟩ S':=by
 intro A g q w hS hA;obtain⟨hE,fk⟩:=hS.BJ hN hx h';have zF:St w0 A g ⟨N.get,S.nx⟩ w:=hS.forget (Nat.le_refl _) fun j p hj _=>hN j p hj;have aA:t < n:=by
  rcases Nat.lt_or_ge t n with h1|h1
  ·grind
  ·exact absurd (hA.out t h1) ht
 refine⟨g.still N,fk,(hA.later hE.toLater).slot ht ?_,hE⟩;exact (hf.mono (S:=N) (T:=⟨N.get,S.nx⟩) fun _ _ _ _ _ h=>h).rep zF (hA.tm t aA)
end
def zG (F:AV->List Nat):List AV->List Nat
 |[]=>[]
 |a::l=>F a++zG F l
def Nu (F:AV->List Nat):List (List AV)->List Nat
 |[]=>[]
 |a::l=>zG F a++Nu F l
def zH (S:ae):Nat->AV->List Nat
 |0,_=>[]
 |m+1,a=>match a with
  |.agg l|.aG l|.ip l=>zG (zH S m) l
  |.sl _ rows=>Nu (zH S m) rows
  |.fn _ l c=>zG (zH S m) l++zG (zH S m) c
  |.ob k _ _ _ _|.pt k _ _ _|.gr k _ _=>match S.get k with
   |some (.arr _ rows _ _)=>k::Nu (zH S m) rows
   |_=>[]
  |_=>[]
def lC (k:Nat):List Nat->Bool
 |[]=>false
 |j::l=>match Nat.beq j k with|true=>true|false=>lC k l
def Th (K:List Nat) (S:ae):ae:=⟨fun k=>match lC k K with|true=>S.get k|false=>none,S.nx⟩
def uY (s:XS):List Nat->XS
 |[]=>s
 |k::ks=>uY (lP s k none) ks
theorem LQ:∀ {K:List Nat}{s:XS}{k:Nat},fb (uY s K) k=if lC k K=true then none else fb s k
 |[],s,k=>by simp[uY,lC]
 |j::K,s,k=>by
  rw[uY,LQ];simp only[lC];have e:fb (lP s j none) k=if k=j then none else fb s k:=by grind[fb,lP,lO]
  rw[e];by_cases hjk:k=j
  ·subst hjk;simp[Nat.beq_refl]
  ·have hb:Nat.beq j k=false:=by
    cases hb:Nat.beq j k with
    |true=>exact absurd (Nat.eq_of_beq_eq_true hb).symm hjk
    |false=>rfl
   simp[hb,hjk]
theorem E2:∀ {K:List Nat}{s:XS},eC s (uY s K)/\(uY s K).lg=s.lg/\(uY s K).nx=s.nx/\(uY s K).yk=s.yk/\(uY s K).an=s.an
 |[],s=>⟨.refl _,rfl,rfl,rfl,rfl⟩
 |j::K,s=>by
  obtain⟨h1,h2,h3,h4,h5⟩:=E2 (K:=K) (s:=lP s j none);exact⟨eC.wr.trans h1,h2,h3,h4,h5⟩
theorem Ti {K:List Nat}{J:FJ}{s:XS}{k:Nat}{o:Ob}(h:(Th K (eW s)).get k=some o):lC k K=true/\eB s.yk k=false/\(den J s).get k=some o:=by
 have h:(match lC k K with|true=>(eW s).get k|false=>none)=some o:=h;cases e:lC k K with
 |true=>rw[e] at h;obtain⟨h1,h2⟩:=dB (J:=J) h;exact⟨rfl,h2,h1⟩
 |false=>rw[e] at h;cases h
theorem Xd {K:List Nat}{J:FJ}{s:XS}{k:Nat}{o:Ob}(h:(den J (uY s K)).get k=some o):(den J s).get k=some o/\(Th K (eW s)).get k=none:=by
 have h:(match eB (uY s K).yk k with|true=>some (Ob.fo J)|false=>fb (uY s K) k)=some o:=h;rw[E2.2.2.2.1] at h;show (match eB s.yk k with|true=>some (Ob.fo J)|false=>fb s k)=some o/\(match lC k K with|true=>(match eB s.yk k with|true=>none|false=>fb s k)|false=>none)=none;cases e:eB s.yk k with
 |true=>rw[e] at h;exact⟨h,by grind⟩
 |false =>
  rw[e] at h;have h:fb (uY s K) k=some o:=h;rw[LQ] at h;cases e2:lC k K with
  |true=>rw[e2] at h;simp at h
  |false=>rw[e2] at h;simp at h;exact⟨h,rfl⟩
def IZ (s:XS) (aZ9:List AV):Option (List AV × XS):=match g_ (jU 60) aZ9 with
 |true=>some (aZ9,s)
 |false=>match l4 (iz (Th (zG (zH (eW s) 60) aZ9) (eW s)) 60) aZ9 with
  |some qi=>some (qi,uY s (zG (zH (eW s) 60) aZ9))
  |none=>none
theorem zI {S:ae}{m:Nat}:∀ {l l':List AV},l4 (iz S m) l=some l'->eY S l l'/\dK l'
 |[],l',h=>by obtain rfl:=oJ_ h;exact⟨trivial,trivial⟩
 |b::l,l',h=>by
  simp only[l4] at h;split at h
  ·rename_i b' hb;split at h
   ·rename_i m hm;obtain rfl:=oJ_ h;obtain⟨h1,h2⟩:=zI hm;obtain⟨h3,h4⟩:=sL hb;exact⟨⟨h3,h1⟩,⟨h4,h2⟩⟩
   ·grind
  ·grind
theorem xq {s s':XS}{aZ9 qi:List AV}(h:IZ s aZ9=some (qi,s')):∃ N:ae,(∀ J k o,N.get k=some o->(den J s).get k=some o)/\(∀ J k o,(den J s').get k=some o->(den J s).get k=some o/\N.get k=none)/\eY N aZ9 qi/\dK qi/\eC s s'/\s'.lg=s.lg/\s'.nx=s.nx/\s'.yk=s.yk/\s'.an=s.an:=by
 unfold IZ at h;split at h
 ·rename_i hp;simp only[oI_,pI_] at h;obtain⟨rfl,rfl⟩:=h;exact⟨ae.none_,fun J k o h=>(by cases h),fun J k o h=>⟨h,rfl⟩,eY.refl _ _,xg hp,.refl _,rfl,rfl,rfl,rfl⟩
 ·split at h
  ·rename_i as1 hf;simp only[oI_,pI_] at h;obtain⟨rfl,rfl⟩:=h;obtain⟨h1,h2⟩:=zI hf;obtain⟨k1,k2,k3,k4,k5⟩:=E2 (K:=zG (zH (eW s) 60) aZ9) (s:=s);exact⟨_,fun J k o h=>(Ti h).2.2,fun J k o h=>Xd h,h1,h2,k1,k2,k3,k4,k5⟩
  ·grind
def vD (B:Nat):Nat->AV->Bool
 |0,_=>false
 |m+1,a=>match a with
  |.u|.v _=>true
  |.agg l|.aG l|.ip l=>g_ (vD B m) l
  |.sl _ rows=>tM (vD B m) rows
  |.fn _ l c=>match g_ (vD B m) l with|true=>g_ (vD B m) c|false=>false
  |.ob k _ _ _ _|.pt k _ _ _|.mp k|.yl k|.gr k _ _=>Nat.blt k B
theorem kI {B:Nat}:∀ {m:Nat}{a:AV},vD B m a=true->dz B a
 |0,a,h=>by cases h
 |m+1,a,h=>by
  cases a with
  |u=>exact .u
  |v x=>exact .v
  |agg l=>exact .agg fun a ha=>kI (eu h a ha)
  |aG l=>exact .aG fun a ha=>kI (eu h a ha)
  |ip l=>exact .ip fun a ha=>kI (eu h a ha)
  |sl ex rows=>exact .sl fun r hr a ha=>kI (l5 h r hr a ha)
  |fn f l c =>
   simp only[vD] at h;split at h
   ·rename_i h1;exact .fn (fun a ha=>kI (eu h1 a ha)) (fun a ha=>kI (eu h a ha))
   ·grind
  |ob=>exact .ob (dM h)
  |pt=>exact .pt (dM h)
  |mp=>exact .mp (dM h)
  |yl=>exact .yl (dM h)
  |gr=>exact .gr (dM h)
def Nv (B:Nat):List (Value × AV)->Bool
 |[]=>true
 |p::l=>match vD B 60 p.2 with|true=>Nv B l|false=>false
theorem I0 {B:Nat}:∀ {l:List (Value × AV)},Nv B l=true->∀ p ∈ l,dz B p.2
 |[],_,a,h=>by grind
 |b::l,hp,a,h=>by
  simp only[Nv] at hp;split at hp
  ·rename_i hb;rcases List.mem_cons.1 h with rfl|h
   ·exact kI hb
   ·exact I0 hp a h
  ·grind
def Tk (B:Nat):Ob->Bool
 |.arr _ rows _ _=>tM (vD B 60) rows
 |.mp es=>Nv B es
 |.df|.si _ _|.un=>true
 |_=>false
theorem I1 {B:Nat}{o:Ob}(h:Tk B o=true):fR B o:=by
 cases o with
 |arr sz rows fz ex=>exact fun r hr a ha=>kI (l5 h r hr a ha)
 |mp es=>exact I0 h
 |df=>trivial
 |si=>trivial
 |un=>trivial
 |_=>cases h
def aaf (m:List (Nat × Nat)) (k:Nat):Option Nat:=match m with
 |[]=>none
 |p::m=>match Nat.beq p.2 k with|true=>some p.1|false=>aaf m k
def E3 (B N:Nat) (m:List (Nat × Nat)) (k:Nat):Option Nat:=match aaf m k with
 |some j=>match Nat.beq k (dE B (aJ m) j) && Nat.blt j N with
  |true=>some j
  |false=>none
 |none=>none
theorem o5 {B N:Nat}{m:List (Nat × Nat)}{k j:Nat}(h:E3 B N m k=some j):k=dE B (aJ m) j/\Nat.blt j N=true:=by
 unfold E3 at h;split at h
 ·split at h
  ·rename_i hb;simp only[Bool.and_eq_true] at hb;obtain rfl:=oJ_ h;exact⟨Nat.eq_of_beq_eq_true hb.1,hb.2⟩
  ·grind
 ·grind
def I2 (B N:Nat) (m:List (Nat × Nat)) (a:AV):Option AV:=match vD B 60 a with
 |true=>some a
 |false=>match a with
  |.ob k sz off len cx=>match E3 B N m k with|some j=>some (.ob j sz off len cx)|none=>none
  |.gr k sz len=>match E3 B N m k with|some j=>some (.gr j sz len)|none=>none
  |.pt k sz i q=>match E3 B N m k with|some j=>some (.pt j sz i q)|none=>none
  |.mp k=>match E3 B N m k with|some j=>some (.mp j)|none=>none
  |_=>none
theorem Xe {B N:Nat}{m:List (Nat × Nat)}{a a':AV}(h:I2 B N m a=some a'):ij B m N a a':=by
 unfold I2 at h;split at h
 ·rename_i hk;obtain rfl:=oJ_ h;exact .ao (kI hk)
 ·split at h
  ·split at h
   ·rename_i j hj;obtain rfl:=oJ_ h;exact .new (o5 hj).1 (o5 hj).2
   ·grind
  ·split at h
   ·rename_i j hj;obtain rfl:=oJ_ h;exact .iR (o5 hj).1 (o5 hj).2
   ·grind
  ·split at h
   ·rename_i j hj;obtain rfl:=oJ_ h;exact .mS (o5 hj).1 (o5 hj).2
   ·grind
  ·split at h
   ·rename_i j hj;obtain rfl:=oJ_ h;exact .qm (o5 hj).1 (o5 hj).2
   ·grind
  ·grind
theorem I3 {B N:Nat}{m:List (Nat × Nat)}:∀ {l l':List AV},l4 (I2 B N m) l=some l'->vK B m N l l'
 |[],l',h=>by obtain rfl:=oJ_ h;trivial
 |b::l,l',h=>by
  simp only[l4] at h;split at h
  ·rename_i b' hb;split at h
   ·rename_i q hq;obtain rfl:=oJ_ h;exact⟨Xe hb,I3 hq⟩
   ·grind
  ·grind
theorem I4 {B N:Nat}{m:List (Nat × Nat)}:∀ {l l':List (List AV)},tL (I2 B N m) l=some l'->CN B m N l l'
 |[],l',h=>by obtain rfl:=oJ_ h;trivial
 |b::l,l',h=>by
  simp only[tL] at h;split at h
  ·rename_i b' hb;split at h
   ·rename_i q hq;obtain rfl:=oJ_ h;exact⟨I3 hb,I4 hq⟩
   ·grind
  ·grind
def obX (B N:Nat) (m:List (Nat × Nat)) (o:Ob):Option Ob:=match Tk B o with
 |true=>some o
 |false=>match o with
  |.arr sz rows fz ex=>match tL (I2 B N m) rows with
   |some cV=>some (.arr sz cV fz ex)
   |none=>none
  |_=>none
theorem aah {B N:Nat}{m:List (Nat × Nat)}{o o':Ob}(h:obX B N m o=some o'):yB B m N o o':=by
 unfold obX at h;split at h
 ·rename_i hk;obtain rfl:=oJ_ h;exact .same (I1 hk)
 ·split at h
  ·split at h
   ·rename_i cV hr;obtain rfl:=oJ_ h;exact .arr (I4 hr)
   ·grind
  ·grind
def E4 (B N:Nat) (m:List (Nat × Nat)) (s:XS):List Nat->Tr (Option Ob)->Tr (Option Ob)
 |[],t=>t
 |j::l,t=>match (eW s).get (dE B (aJ m) j) with
  |some o=>match obX B N m o with
   |some o'=>E4 B N m s l (put t j (some o'))
   |none=>E4 B N m s l t
  |none=>E4 B N m s l t
theorem xr {B N:Nat}{m:List (Nat × Nat)}{s:XS}:∀ {l:List Nat}{t:Tr (Option Ob)},(∀ j o,gz t j=some (some o)->∃ bY,(eW s).get (dE B (aJ m) j)=some bY/\yB B m N bY o) ->
  ∀ j o,gz (E4 B N m s l t) j=some (some o)->∃ bY,(eW s).get (dE B (aJ m) j)=some bY/\yB B m N bY o
 |[],t,h=>h
 |i::l,t,h=>by
  simp only[E4];split
  ·rename_i o ho;split
   ·rename_i o' Zx;refine xr fun j p hj=>?_;rw[lO] at hj;by_cases e:j=i
    ·grind[aah]
    ·grind
   ·exact xr h
  ·exact xr h
def ahC (B:Nat) (a:AV):List Nat:=match a with
 |.ob k _ _ _ _|.gr k _ _|.pt k _ _ _|.mp k=>match Nat.blt k B with|true=>[]|false=>[k]
 |_=>[]
def ahD (B:Nat):Ob->List Nat
 |.arr _ rows _ _=>Nu (ahC B) rows
 |_=>[]
def dedup:List Nat->List Nat->List Nat
 |[],acc=>acc
 |k::l,acc=>match lC k acc with|true=>dedup l acc|false=>dedup l (acc++[k])
def Nw (B:Nat) (s:XS):List Nat->List Nat
 |[]=>[]
 |k::l=>(match (eW s).get k with|some o=>ahD B o|none=>[])++Nw B s l
def grow (B:Nat) (s:XS):Nat->List Nat->List Nat
 |0,W=>W
 |m+1,W=>grow B s m (dedup (Nw B s W) W)
def aai:Nat->List Nat->List (Nat × Nat)
 |_,[]=>[]
 |i,k::l=>(i,k)::aai (i+1) l
def Hl (B:Nat):List (Nat × Option Ob)->List Nat
 |[]=>[]
 |p::l=>match Nat.blt p.1 B with|true=>p.1::Hl B l|false=>Hl B l
def DK (s:XS):List (Nat × Option Ob)->List Nat
 |[]=>[]
 |p::l=>match eB s.yk p.1,p.2 with
  |false,some _=>p.1::DK s l
  |_,_=>DK s l
def ykL:Option Nat->List Nat
 |some k=>[k]
 |none=>[]
def zJ (s:XS):List (Nat × Option Ob)->List (Nat × Ob)
 |[]=>[]
 |p::l=>match eB s.yk p.1,p.2 with
  |false,some o=>(p.1,o)::zJ s l
  |_,_=>zJ s l
def Qb (J:FJ):Option Nat->List (Nat × Ob)
 |some k=>[(k,.fo J)]
 |none=>[]
def oe (J:FJ) (s:XS):List (Nat × Ob):=Qb J s.yk++zJ s (toLk s.m)
def DL (s:XS):List Nat:=ykL s.yk++DK s (toLk s.m)
theorem Co {s:XS}:∀ {l:List (Nat × Option Ob)},(zJ s l).map (·.1)=DK s l
 |[]=>rfl
 |p::l=>by
  simp only[zJ,DK];split
  ·rw[List.map_cons,Co]
  ·exact Co
theorem I5 {J:FJ}{s:XS}:(oe J s).map (·.1)=DL s:=by
 unfold oe DL;rw[List.map_append,Co];cases s.yk<;>rfl
theorem wh {s:XS}{k:Nat}{o:Ob}:∀ {l:List (Nat × Option Ob)},(k,o) ∈ zJ s l ↔ eB s.yk k=false/\(k,some o) ∈ l
 |[]=>by simp[zJ]
 |(j,p)::l=>by
  simp only[zJ];split
  ·rename_i q h1;rw[List.mem_cons,List.mem_cons,wh];simp only[pI_,oI_];constructor
   ·grind
   ·grind
  ·rename_i bU;rw[List.mem_cons,wh];simp only[pI_];constructor
   ·grind
   ·grind
theorem LR {J:FJ}{s:XS}{k:Nat}{o:Ob}:(k,o) ∈ oe J s ↔ (den J s).get k=some o:=by
 unfold oe;rw[List.mem_append,wh,toLk_mem];show _ ↔ (match eB s.yk k with|true=>some (Ob.fo J)|false=>fb s k)=some o;unfold fb;cases hy:s.yk with
 |none =>
  simp only[Qb,eB,List.not_mem_nil,false_or];constructor
  ·grind
  ·grind
 |some y =>
  simp only[Qb,List.mem_singleton,pI_,eB];cases hb:Nat.beq y k with
  |true =>
   have:=Nat.eq_of_beq_eq_true hb;subst this;simp only[oI_];constructor
   ·grind
   ·grind
  |false =>
   constructor
   ·rintro (⟨rfl,_⟩|⟨_,h⟩)
    ·rw[Nat.beq_refl] at hb;cases hb
    ·grind
   ·grind
theorem Tl {l:List (Nat × Ob)}{g:Nat->Option Ob}(h:∀ k o,(k,o) ∈ l ↔ g k=some o):dL l=g:=by
 funext k;cases e:dL l k with
 |some o=>exact ((h k o).1 (fg e)).symm
 |none =>
  cases e2:g k with
  |none=>rfl
  |some o =>
   have hm:=(h k o).2 e2;have:∀ (l:List (Nat × Ob)),(k,o) ∈ l->dL l k ≠ none:=by
    intro l
    induction l with
    |nil=>intro h;cases h
    |cons p l ih =>
     intro h hn;simp only[dL] at hn;split at hn
     ·grind
     ·rename_i hb;rcases List.mem_cons.1 h with rfl|h
      ·rw[Nat.beq_refl] at hb;cases hb
      ·grind
   exact absurd e (this l hm)
theorem I6 {J:FJ}{s:XS}:aq (oe J s) s.nx=den J s:=by
 unfold aq;rw[Tl (fun k o=>LR (J:=J) (s:=s))]
 rfl
def Vw (B N:Nat) (s:XS):Option XS :=
 match grow B s 4 (dedup (Nw B s (Hl B (toLk s.m))) []) with
 |W=>match aai B W with
  |m=>match E4 B N m s (Hl B (toLk s.m)++m.map (·.1)) .nil with
   |t=>match nu B m (DL ⟨t,N,0,s.yk,s.an,s.lg⟩) && Nat.ble B N && (match s.yk with|some k=>Nat.blt k B|none=>true) with
    |true=>some ⟨t,N,0,s.yk,s.an,s.lg⟩
    |false=>none
theorem Gg {B N:Nat}{s s':XS}{F:Nat->AV}(h:Vw B N s=some s'):s'.nx=N/\s'.yk=s.yk/\s'.an=s.an/\s'.lg=s.lg/\s'.lw=0/\∀ J,∃ m,Canon B N m ⟨F,[]⟩ (den J s) [] [] (oe J s'):=by
 unfold Vw at h;simp only at h;split at h
 ·rename_i hc;simp only[Bool.and_eq_true] at hc;obtain⟨⟨h1,h2⟩,h3⟩:=hc;obtain rfl:=oJ_ h;refine⟨rfl,rfl,rfl,rfl,rfl,fun J=>⟨_,trivial,rfl,?_,by rw[I5];exact h1,h2,rfl⟩⟩;have key:∀ {l:List (Nat × Ob)}{m:List (Nat × Nat)},(∀ p ∈ l,∃ bY,(den J s).get (dE B (aJ m) p.1)=some bY/\yB B m N bY p.2)->fY B m N (den J s) l:=by
   intro l m
   induction l with
   |nil=>intro _;trivial
   |cons p l ih=>exact fun h=>⟨.inl (h p (by simp)),ih fun q hq=>h q (by grind)⟩
  refine key fun p hp=>?_;obtain⟨k,o⟩:=p;unfold oe at hp;rcases List.mem_append.1 hp with hp|hp
  ·simp only at hp h3;cases hy:s.yk with
   |none=>rw[hy] at hp;cases hp
   |some y =>
    rw[hy] at hp h3;simp only[Qb,List.mem_singleton,pI_] at hp;obtain⟨rfl,rfl⟩:=hp;refine⟨.fo J,?_,.same trivial⟩;simp only;rw[lh (dM h3)];show (match eB s.yk k with|true=>some (Ob.fo J)|false=>fb s k)=some (Ob.fo J);rw[hy];simp only[eB,Nat.beq_refl]
  ·rw[wh,toLk_mem] at hp;obtain⟨bY,k1,k2⟩:=xr (fun j o h=>by cases h) _ _ hp.2;exact⟨bY,(dB (J:=J) k1).1,k2⟩
 ·grind
section
variable {P:Program}{w0:World}{n:Nat}{α:AA}{S:ae}
theorem Gi {m:Nat}{x i:QO}{o:Op}(h:res P.toTables o=some (.ox m x i)):∃ t u v e,o=.indexAddr t u v/\x=qo u/\i=qo v/\P.underlying t=some (.slice e)/\cY P e=some m:=by
 cases o<;>simp only[res,bE,dS] at h<;>(repeat' split at h)<;>(try cases h)
 exact⟨_,_,_,_,rfl,rfl,rfl,by assumption,by grind⟩
theorem I7 {o:Oper}{m p:Nat}{x i:QO}{k len:Nat}{ik:IntKind}{j:Int}(hr:res P.toTables o.op=some (.ox m x i)) (β:AA) (h:x.ev β.tm=.gr k m len) (hi:i.ev β.tm=.v (.int ik j)) (hp:j=p) (aA:p < len):ez P w0 n o β S (.pt k m p 0) S:=by
 obtain⟨t,u,v,e,ho,rfl,rfl,hu,hs⟩:=Gi hr;rw[aI] at h hi;refine aQ.ops (aQ.quiet fun A g q w hS hA=>?_) fun c' e=>by grind
 have h1:=hA.ev u;have h2:=hA.ev v;rw[h] at h1;rw[hi] at h2;rcases pj h1 with ⟨rfl,A',hv⟩|⟨hk,c',hv,_,_⟩
 ·omega
 ·refine⟨_,?_,aF.pt (g:=g) (w:=w) (k:=k) (sz:=m) (i:=p) (j:=0) hk⟩;subst hp;simp only[execOp,ho,hv,bI h2,Instr.indexAt,asIntOf,Sem.run_bind,run_underlying hu,ct hs,Result.andThen_ok,Sem.run_pure];rw[if_pos ⟨by omega,by omega⟩];simp[ct hs,fF]
theorem af.jM {dr:Bool}{m p:Nat}{x i:QO}{k len:Nat}{ik:IntKind}{j:Int}(h:x.ev α.tm=.gr k m len) (hi:i.ev α.tm=.v (.int ik j)) (hp:j=p) (aA:p < len):af P w0 dr (.ox m x i) α S (.pt k m p 0) S:=by
 cases dr with
 |false=>exact fun n o hr=>I7 hr α h hi hp aA
 |true =>
  intro n o hr;obtain⟨t,u,v,e,ho,hx,hy,hu,hs⟩:=Gi hr;have e1:∀ y ∈ [u,v],(α.only (cG o)).ev y=α.ev y:=fun y hy=>eH fun t2 e2=>en (by rw[ho];simp[Op.operands,<-e2];simpa using hy);have h2:x.ev (α.only (cG o)).tm=.gr k m len:=by grind[aI]
  have h3:i.ev (α.only (cG o)).tm=.v (.int ik j):=by grind[aI]
  have h4:∀ T,ez P w0 n o (α.only (cG o)) T (.pt k m p 0) T:=fun T=>I7 hr _ h2 h3 hp aA;exact⟨h4 S,fun _=>⟨rfl,h4⟩,fun _=>rfl⟩
theorem a6.pP {B:Nat}{k:LK}{x:QO}{b sz i j fz:Nat}{ex:Bool}{rows:List (List AV)}{row:List AV}{a:AV}(hx:x.ev α.tm=.pt b sz i j) (hk:S.get b=some (.arr sz rows fz ex)) (hi:rows[i]?=some row) (ha:pD k row j=some a) :
  a6 P w0 B (.load k x) α S a ⟨[(b,.arr sz rows fz ex)],[],false⟩:=by
 refine fun n o hr=>⟨fun hp=>?_,(show fC S [(b,.arr sz rows fz ex)] from fun p hp=>by grind),fun T _ hT _=>?_⟩
 ·exfalso;generalize o.op=op at hr hp;cases op<;>simp only[res] at hr<;>(repeat' split at hr)<;>(try cases hr)<;>cases hp
 ·rw[show dm T [] false=T from cQ];exact (af.pP (P:=P) (w0:=w0) (dr:=true) (S:=T) hx (hT (b,.arr sz rows fz ex) (by simp)) hi ha n o hr).1
theorem Cv.aaj {kb k sz sz' fz j m:Nat}{row:List AV}{rows:List (List AV)}{ex ex':Bool}(hb:S.get kb=some (.arr sz [row] fz ex)) (hk:S.get k=some (.arr sz' rows 0 ex')) (bU:kb ≠ k) (hj:row[j]?=some (.gr k sz' m)) (hm:m=rows.length) :
  Cv w0 n α S α ((S.set k none).set kb (some (.arr sz [row.set j (.sl false rows)] fz ex))):=by
 intro A g q w hS hA;have hF:aR (ae.none_.set k (some (.arr sz' rows 0 ex'))) (.gr k sz' m) (.sl false rows):=.gr (az _ _ _) (by omega) hm.symm (fun i row bw h1 h2=>by grind) fun i j row bw a a' h1 h2 h3 h4=>by
  rw[h1] at h2;obtain rfl:=oJ_ h2;rw[h3] at h4;obtain rfl:=oJ_ h4;exact .refl _
 obtain⟨N,hN⟩:∃ N:ae,N=ae.none_.set k (some (.arr sz' rows 0 ex')):=⟨_,rfl⟩;rw[<-hN] at hF;have I8:∀ j o,N.get j=some o->j=k/\o=.arr sz' rows 0 ex':=fun j o hj=>by
  rw[hN] at hj;have hj:a7 (fun _=>none) k (some (Ob.arr sz' rows 0 ex')) j=some o:=hj;by_cases e:j=k
  ·grind[az]
  ·grind[aD]
 have Gj:∀ j o,N.get j=some o->S.get j=some o:=fun j o hj=>by grind
 obtain⟨hE,fk⟩:=hS.BJ (S':=S.set k none) Gj (Nat.le_refl _) fun j o hj=>by
  have hj:a7 S.get k none j=some o:=hj;by_cases e:j=k
  ·grind[az]
  ·rw[aD _ _ e] at hj;refine⟨hj,?_⟩;rw[hN];show a7 (fun _=>none) k _ j=none;rw[aD _ _ e]
 have Vv:St w0 A g ⟨N.get,S.nx⟩ w:=hS.forget (Nat.le_refl _) fun j p hj _=>Gj j p hj;have K6:aR ⟨N.get,S.nx⟩ (.gr k sz' m) (.sl false rows):=hF.mono (S:=N) (T:=⟨N.get,S.nx⟩) fun _ _ _ _ _ h=>h;refine⟨g.still N,fk.Eo (Nat.le_refl _) fun i o' hi ha=>?_,hA.later hE.toLater,hE⟩;have hi:a7 (S.set k none).get kb (some (.arr sz [row.set j (.sl false rows)] fz ex)) i=some o':=hi;by_cases e:i=kb
 ·subst e;rw[az] at hi;obtain rfl:=oJ_ hi;have m7:(S.set k none).get i=some (.arr sz [row] fz ex):=by
   show a7 S.get k none i=_;rw[aD _ _ bU];exact hb
  refine⟨_,m7,fun h=>?_,fun J h=>by grind⟩;obtain⟨cs,ty,h1,h2,h3,h4,h5,h6,h7⟩:=h;have cM:g.al i:=ha;obtain⟨_,_,By,ty0,b1,b2,b3,b4,b5,b6,b7⟩:=hS.bT i _ hb cM;have e1:w.heap[g.ob i]?=some (.cells cs ty (0,0)):=h1;rw[e1] at b1;simp only[oI_,Obj.cells.injEq] at b1;obtain⟨rfl,rfl,_⟩:=b1;refine⟨cs,ty,h1,h2,h3,h4,fun r bw hr=>?_,h6,h7⟩;cases r with
  |succ r=>simp at hr
  |zero =>
   simp only[List.getElem?_cons_zero,oI_] at hr;subst hr;obtain⟨q1,q2⟩:=h5 0 row rfl;refine⟨by grind,fun p a hp=>?_⟩;rw[List.getElem?_set] at hp;by_cases e2:j=p
   ·subst e2;have aA:=(List.getElem?_eq_some_iff.1 hj).1;rw[if_pos rfl,if_pos aA] at hp;obtain rfl:=oJ_ hp;obtain⟨x,hx,dR⟩:=(b5 0 row rfl).2 j _ hj;exact⟨x,hx,K6.rep Vv dR⟩
   ·grind
 ·grind[aD]
end
section
set_option maxRecDepth 100000
attribute [local irreducible] ah aC af ad
def adi:FQ 195 Tryz.f195:=a_ Tryz.func195 Tryz.call195
def rO:List Nat:=[1,0,4,13]
def iW (k:Nat):List AV:=[iv k]
def r_ (ρ:Hd) (x:Tm × List Nat):List AV:=[iv x.1.k,iv x.1.i,.v (.string x.1.n),tl ρ x.1.a,aX ρ iW false x.2]
def BL (q:Int × Int):AV:=.agg [iv q.1,iv q.2]
def gO (nl ul:Nat):Ob:=.arr 6 [[.gr 1 5 nl,.mp 2,.gr 3 1 ul,.mp 4,.mp 5,.mp 6]] 0 true
def dY (ρ:Hd) (N:bB):Ob:=.arr 5 (ρ.h (List.map (r_ ρ)) N) 0 false
def dZ (ρ:Hd) (up:List Nat):Ob:=.arr 1 (ρ.h (List.map iW) up) 0 false
def d_ (ρ:Hd) (kv:List (Int × Int)):Ob:=.mp (ρ.h (dh iv) kv)
def bD (ρ:Hd) (kv:List (Int × Int)):Ob:=.mb (ρ.h (dh iv) kv)
def ec (ρ:Hd) (kv:KN):Ob:=.mp (ρ.h (dh BL) kv)
def gS (ρ:Hd) (s:PS) (kn:KN):List (Nat × Ob):=[(0,gO s.N.length s.js.up.length),(1,dY ρ s.N),(2,bD ρ s.vs),(3,dZ ρ s.js.up),(4,d_ ρ s.js.sh),(5,bD ρ s.js.ls),(6,ec ρ kn)]
section
variable {ρ:Hd}{B:Nat}
theorem oh {nl ul:Nat}(h:6 < B):fR B (gO nl ul):=fun row hr a ha=>by
 obtain rfl:=List.mem_singleton.1 hr;simp only[List.mem_cons,List.not_mem_nil,or_false] at ha;rcases ha with rfl|rfl|rfl|rfl|rfl|rfl
 ·exact .gr (by omega)
 ·exact .mp (by omega)
 ·exact .gr (by omega)
 ·exact .mp (by omega)
 ·exact .mp (by omega)
 ·exact .mp (by omega)
theorem To (x:Tm × List Nat):∀ a ∈ r_ ρ x,Pure a:=by
 intro a ha;simp only[r_,List.mem_cons,List.not_mem_nil,or_false] at ha;rcases ha with rfl|rfl|rfl|rfl|rfl
 ·exact .v
 ·exact .v
 ·exact .v
 ·exact aS _
 ·exact eR fun x _ a ha=>by
   obtain rfl:=List.mem_singleton.1 ha;exact .v
theorem qD (N:bB):∀ row ∈ ρ.h (List.map (r_ ρ)) N,∀ a ∈ row,Pure a:=by
 rw[ρ.eq];intro row hr a ha;obtain⟨x,_,rfl⟩:=List.mem_map.1 hr;exact To x a ha
theorem qE (N:List Nat):∀ row ∈ ρ.h (List.map iW) N,∀ a ∈ row,Pure a:=by
 rw[ρ.eq];intro row hr a ha;obtain⟨x,_,rfl⟩:=List.mem_map.1 hr;obtain rfl:=List.mem_singleton.1 ha;exact .v
theorem jv (N:bB):fR B (dY ρ N):=fun row hr a ha=>Pure.aV (qD N row hr a ha)
theorem iN (N:List Nat):fR B (dZ ρ N):=fun row hr a ha=>Pure.aV (qE N row hr a ha)
theorem eh {T:Type}{f:T->AV}(hf:∀ x,Pure (f x)) (kv:List (Int × T)):∀ e ∈ ρ.h (dh f) kv,Pure e.2:=by
 rw[ρ.eq];intro e he;obtain⟨p,_,rfl⟩:=List.mem_map.1 he;exact hf _
theorem iA (x:Int):Pure (iv x):=.v
theorem tX (q:Int × Int):Pure (BL q):=.agg (wP .v .v)
theorem iO (kv:List (Int × Int)):fR B (d_ ρ kv):=fun e he=>Pure.aV (eh iA kv e he)
theorem db (kv:List (Int × Int)):fR B (bD ρ kv):=fun e he=>Pure.aV (eh iA kv e he)
theorem iP (kv:KN):fR B (ec ρ kv):=fun e he=>Pure.aV (eh tX kv e he)
end
theorem gC {N:Nat}{ρ:Hd}{S:ae}{nl ul:Nat}{Nd:bB}{vs sh ls:List (Int × Int)}{up:List Nat}{kn:KN}(h0:S.get 0=some (gO nl ul):=by rfl) (h1:S.get 1=some (dY ρ Nd):=by rfl) (h2:S.get 2=some (bD ρ vs):=by rfl) (h3:S.get 3=some (dZ ρ up):=by rfl)
  (h4:S.get 4=some (d_ ρ sh):=by rfl) (h5:S.get 5=some (bD ρ ls):=by rfl) (h6:S.get 6=some (ec ρ kn):=by rfl):fY 7 [] N S [(0,gO nl ul),(1,dY ρ Nd),(2,bD ρ vs),(3,dZ ρ up),(4,d_ ρ sh),(5,bD ρ ls),(6,ec ρ kn)] :=
 ⟨.inl ⟨_,h0,.same (oh (by omega))⟩,.inl ⟨_,h1,.same (jv _)⟩,.inl ⟨_,h2,.same (db _)⟩,.inl ⟨_,h3,.same (iN _)⟩,.inl ⟨_,h4,.same (iO _)⟩,.inl ⟨_,h5,.same (db _)⟩,.inl ⟨_,h6,.same (iP _)⟩,trivial⟩
section
variable {w0:World}{ρ:Hd}
theorem wi {s:PS}{kn:KN}{k r:Nat}{u:List Nat}(hl:s.js.up.length<=1099511627776) (h:iq s.js.up k=some (u,r)) :
  aC Tryz.prog w0 195 [.pt 0 6 0 0,iv k] (aq (gS ρ s kn) 7) (iv r) (aq (gS ρ ⟨s.N,s.vs,⟨u,s.js.sh,s.js.ls⟩⟩ kn) 7):=by
 obtain⟨m,hm⟩:=wX h;obtain⟨N,vs,up,sh,ls⟩:=s;dsimp only at hl hm ⊢;have jX:u.length=up.length:=by
  clear h hl;revert up k hm
  induction m with
  |zero=>intro k up hm;cases hm
  |succ m ih =>
   intro k up hm;rw[gp] at hm;split at hm
   ·grind
   ·grind
 obtain⟨ul,rP⟩:∃ ul,ul=up.length:=⟨_,rfl⟩;obtain⟨nl,fj⟩:∃ nl,nl=N.length:=⟨_,rfl⟩;simp only[gS,<-rP,<-fj,jX];refine sc 7 7 adi ?_;refine gq rO ?_
 refine ad.bu (σ:=Nat × List Nat × Nat) 7 7 [] (fun p=>[(0,.pt 0 6 0 0),(1,iv p.1),(4,iv 0)]) [] (fun p=>[(0,gO nl ul),(1,dY ρ N),(2,bD ρ vs),(3,dZ ρ p.2.1),(4,d_ ρ sh),(5,bD ρ ls),(6,ec ρ kn)])
  (fun p=>p.2.1.length=ul/\gp p.2.2 p.2.1 p.1=some (u,r)) (fun p=>p.2.2) (k,up,m) ⟨rP.symm,hm⟩ rfl (by exact⟨sq,rfl,gC,rfl,rfl,rfl⟩) ?_
 rintro⟨k,up,m⟩ ⟨hu,hm⟩;simp only at hu hm;cases m with
 |zero=>cases hm
 |succ m =>
  rw[gp] at hm;cases hp:up[k]? with
  |none=>rw[hp] at hm;cases hm
  |some p =>
   rw[hp] at hm;simp only at hm;have dV:=(List.getElem?_eq_some_iff.1 hp).1;have dP:k < ul:=by omega
   by_cases e:p=k
   ·rw[if_pos e] at hm;simp only[oI_,pI_] at hm;obtain⟨rfl,rfl⟩:=hm;subst e;refine gq rO ?_
    repeat' (first
     |(refine ad.op rfl (af.jM rfl rfl rfl dP) ?_;refine og rO (af.pP rfl rfl (fN (f:=iW) hp) rfl) ?_)
     |exact absurd hb (by decide)
     |refine cg rO (fun hb=>?_) fun hb=>?_
     |refine ad.aH ?_;refine gq rO ?_
     |(refine fq ?_))
    all_goals first
     |exact⟨[],.ao .v,gC,rfl⟩
   ·rw[if_neg e] at hm;cases hq:up[p]? with
    |none=>rw[hq] at hm;cases hm
    |some q =>
     rw[hq] at hm;simp only at hm;have ye:=(List.getElem?_eq_some_iff.1 hq).1;have fU:p < ul:=by omega
     have hs:(up.set k q)[k]?=some q:=by grind
     refine gq rO ?_
     repeat' (first
      |(refine ad.op rfl (af.jM rfl rfl rfl dP) ?_;refine og rO (af.pP rfl rfl (fN (f:=iW) hp) rfl) ?_)
      |(refine ad.op rfl (af.jM rfl rfl rfl fU) ?_;refine og rO (af.pP rfl rfl (fN (f:=iW) hq) rfl) ?_)
      |(refine ad.op rfl (af.jM rfl rfl rfl dP) ?_;refine ad.IU (f:=iW) (y:=q) rfl rfl rfl rfl rfl (fun _=>rfl) rfl dV (fun met Nx=>?_);refine gq rO ?_)
      |(refine ad.op rfl (af.jM rfl rfl rfl dP) ?_;refine og rO (af.pP rfl rfl (fN (f:=iW) (x:=q) (by grind)) rfl) ?_)
      |refine cg rO (fun hb=>?_) fun hb=>?_
      |refine ad.aH ?_;refine gq rO ?_
      |(refine fq ?_))
     all_goals first
      |exact absurd (Int.ofNat.inj hb) e
      |refine ad.aO (σ:=Nat × List Nat × Nat) (q,met,m) [] ⟨by grind,by grind⟩ ?_ (by exact⟨sq,rfl,gC,rfl,rfl,rfl⟩);exact Nat.lt_succ_self _
end
end
end Go.Proofs.YtbpabjmnhggajaaGreat
