import Derived.Test.YtgjfgekaclobaaaGreatCa38
namespace Go.Proofs.YtgjfgekaclobaaaGreat
set_option linter.unusedVariables false
set_option linter.unusedSimpArgs false
open Go.RowKit
def RR (n:Nat) (s:XS) (a b:AV):Option XS:=match a with
 |.pt k sz i j=>match (eE s).get k with
  |some (.arr sz' rows 0 ex)=>match Nat.beq sz sz' && gE bQ (aP b) && Nat.beq n (aP b).length with
   |true=>match rows[i]? with
    |some row=>match Nat.ble (j+(aP b).length) row.length with
     |true=>some (kH s k (some (.arr sz (rows.set i (lJ row j (aP b))) 0 ex)))
     |false=>none
    |none=>none
   |false=>none
  |_=>none
 |_=>none
def KC (sz by_:Nat) (s:XS) (a b:AV):Option (AV × XS):=match dD (eE s) b with
 |none=>none
 |some more=>match dY s.yk s.nx with
  |true=>none
  |false=>match a with
   |.sl true rows=>match more with
    |[]=>some (.sl true rows,s)
    |x::more=>match kz sz rows && kz sz (x::more) && Nat.ble ((rows.length+(x::more).length)*by_) 35184372088832 with
     |true=>some (.ob s.nx sz 0 (rows.length+(x::more).length) none,ly s (.arr sz (rows++x::more) 0 false))
     |false=>none
   |.ob k sz' off len cx=>match (eE s).get k with
    |some (.arr fN rows fz ex)=>match more with
     |[]=>match off,cx,Nat.beq fN sz' with
      |0,none,true=>some (.ob k sz' 0 len none,s)
      |_,_,_=>none
     |x::more=>match Nat.beq fN sz && Nat.beq sz' sz && kz sz (x::more) && r5 bQ (x::more) && Nat.ble ((len+(x::more).length)*by_) 35184372088832 && Nat.ble fz len && Nat.ble (off+len) rows.length with
      |true=>match cx with
       |none=>match off with
        |0=>some (.ob s.nx sz 0 (len+(x::more).length) none,ly (kH s k none) (.arr sz (rows.take len++x::more) fz false))
        |_=>none
       |some c=>match Nat.beq c len with
        |true=>some (.ob s.nx sz 0 (len+(x::more).length) none,ly s (.arr sz ((rows.drop off).take len++x::more) 0 false))
        |false=>none
      |false=>none
    |_=>none
   |_=>none
def BU:List (Value × AV)->Bool
 |[]=>true
 |(.int .i64 _,_)::l=>BU l
 |_=>false
def rC (dr:Bool) (q:dp) (f:Nat->AV) (s:XS):Option (AV × XS) :=
 match q with
 |.load k x=>match kX k (eE s) (x.ev f) with
  |some a=>some (a,s)
  |none=>none
 |.alloc cs=>match dY s.yk s.nx with
  |false=>some (.pt s.nx cs.length 0 0,ly s (.arr cs.length [cs] 0 true))
  |true=>none
 |.box x=>match dY s.yk s.nx,gE bQ (aP (x.ev f)) with
  |false,true=>some (.pt s.nx (aP (x.ev f)).length 0 0,ly s (.arr (aP (x.ev f)).length [aP (x.ev f)] 0 true))
  |_,_=>none
 |.store n x b=>match RR n s (x.ev f) (b.ev f) with
  |some s'=>some (.v undef,s')
  |none=>none
 |.append sz by_ a b=>KC sz by_ s (a.ev f) (b.ev f)
 |.im z by_ l c=>match l.ev f,c.ev f with
  |.v (.int _ i),.v (.int _ j)=>match decide (0<=i/\i=j/\i*by_<=35184372088832/\i<=9223372036854775807) && !dY s.yk s.nx with
   |true=>some (.ob s.nx z.length 0 i.toNat none,ly s (.arr z.length (List.replicate i.toNat z) 0 true))
   |false=>none
  |_,_=>none
 |.fk x=>match dr,dY s.yk s.nx,x with
  |false,false,none=>some (.mp s.nx,ly s (.mp []))
  |false,false,some x=>match x.ev f with
   |.v (.int _ _)=>some (.mp s.nx,ly s (.mp []))
   |_=>none
  |_,_,_=>none
 |.look z c x i=>match dr,x.ev f,i.ev f with
  |false,.mp k,.v (.int .i64 m)=>match (eE s).get k with
   |some (.mp es)=>match BU es with
    |true=>some ((match nA es m with|some a=>(if c then .aE [a,.v (.bool true)] else a)|none=>(if c then .aE [z,.v (.bool false)] else z)),s)
    |false=>none
   |_=>none
  |_,_,_=>none
 |.jf x i b=>match x.ev f,i.ev f with
  |.mp k,.v (.int .i64 m)=>match (eE s).get k with
   |some (.mp es)=>match BU es with
    |true=>some (.v undef,kH s k (some (.mp (tw es m (b.ev f)))))
    |false=>none
   |_=>none
  |_,_=>none
 |.wJ x=>match x.ev f,dY s.yk s.nx with
  |.v (.string z),false=>some (.pt s.nx 0 0 0,ly s (.si z 0))
  |_,_=>none
 |.qM x=>match x.ev f with
  |.pt k _ 0 0=>match (eE s).get k with
   |some (.si z pos)=>match Nat.blt pos z.size with
    |true=>some (.aE [.v (.bool true),.v (.int .i64 pos),.v (.int .i32 (Utf8.decode z pos).1)],kH s k (some (.si z (pos+(Utf8.decode z pos).2))))
    |false=>some (.aE [.v (.bool false)],s)
   |_=>none
  |_=>none
 |q=>match r8 dr q f with
  |some r=>some (r,s)
  |none=>none
section
variable {P:Program}{w0:World}{o:Op}{α:AA}{S S':ad}{r:AV}{dr:Bool}
theorem Jg {F:AV->Bool}:∀ {l:List AV},gE F l=true->l.all F=true:=fun h=>List.all_eq_true.2 (dV h)
theorem ae.sto {n:Nat}{x b:QO}{k sz i j:Nat}{ex:Bool}{rows:List (List AV)}{row:List AV}(hx:x.ev α.tm=.pt k sz i j) (hk:S.get k=some (.arr sz rows 0 ex)) (hc:(aP (b.ev α.tm)).all bQ=true) (hn:n=(aP (b.ev α.tm)).length) (hi:rows[i]?=some row)
  (hj:j+(aP (b.ev α.tm)).length<=row.length):ae P w0 dr (.store n x b) α S (.v undef) (S.set k (some (.arr sz (rows.set i (lJ row j (aP (b.ev α.tm)))) 0 ex))):=by
 refine ae.of rfl fun o hr=>?_
 cases o<;>simp only [res,dJ] at hr<;>(repeat' split at hr)<;>(try cases hr)
 rename_i hs
 rw [aJ] at hx hc hn hj ⊢
 simp only [aX,hx]
 refine aZ.mk (a:=_) ?_ ⟨rfl,rfl⟩
 simp only [lu,hk,hs,hc,hn,Nat.beq_refl,Bool.and_self,hi,Nat.ble_eq_true_of_le hj]
theorem ae.akd {sz by_ k fz off len c:Nat}{ex:Bool}{a b:QO}{rows more:List (List AV)}{x:List AV}(h1:a.ev α.tm=.ob k sz off len (some c)) (hk:S.get k=some (.arr sz rows fz ex)) (hm:dD S (b.ev α.tm)=some (x::more)) (h0:c=len) (h2:off+len<=rows.length)
  (h3:∀ row ∈ x::more,row.length=sz) (h4:(len+(x::more).length)*by_<=35184372088832) :
  ae P w0 dr (.append sz by_ a b) α S (.ob S.nx sz 0 (len+(x::more).length) none) (S.new (.arr sz ((rows.drop off).take len++x::more) 0 false)):=by
 refine ae.append (dx hm).1 (dx hm).2 fun e z hz hs hb hp=>?_
 rw [h1]
 simp only [jA]
 refine aZ.mk (rK hk) ?_
 simp only [hs,hb,hp,Nat.beq_refl,Bool.and_self,Bool.true_and]
 exact⟨h0,h2,h3,h4,rfl,rfl⟩
theorem xY:∀ {es:List (Value × AV)},BU es=true->kN es:=by
 intro es
 induction es with
 |nil=>intro h;intro p hp;cases hp
 |cons p es ih =>
  intro h
  obtain⟨v,a⟩:=p
  intro p hp
  unfold BU at h
  split at h
  ·cases ‹_::_=[]›
  ·rename_i e
   injection e with e1 e2
   injection e1 with e3 e4
   subst e2 e3 e4
   rcases List.mem_cons.1 hp with rfl|hp
   ·exact⟨_,rfl⟩
   ·exact ih h p hp
  ·cases h
section
variable {J:FJ}{s:XS}
theorem BV {k:LK}{a r:AV}(h:kX k (eE s) a=some r):kX k (den J s) a=some r:=by
 unfold kX at h ⊢
 split at h
 ·exact h
 ·split at h
  ·rename_i hk
   rw [(dk (J:=J) hk).1]
   exact h
  ·cases h
 ·cases h
theorem iU {b:AV}{l:List (List AV)}(h:dD (eE s) b=some l):dD (den J s) b=some l:=by
 obtain⟨h1,h2⟩:=dx h
 have key:rowsOf (den J s) b=some l:=by
  unfold rowsOf at h1 ⊢
  split at h1
  ·exact h1
  ·split at h1
   ·rename_i hk
    rw [(dk (J:=J) hk).1]
    exact h1
   ·cases h1
  all_goals first|exact h1|cases h1
 unfold dD
 rw [key,h2]
 simp only [Nat.beq_refl]
end
theorem KD {n:Nat}{x b:QO}{f:Nat->AV}{df:List DE}{s s':XS}(h:RR n s (x.ev f) (b.ev f)=some s'):(∀ J,ae P w0 dr (.store n x b) ⟨f,df⟩ (den J s) (.v undef) (den J s'))/\dZ s s'/\s'.lg=s.lg:=by
 unfold RR at h
 split at h
 ·rename_i k sz i j hx
  split at h
  ·rename_i sz' rows ex hk
   split at h
   ·rename_i hc
    simp only [Bool.and_eq_true] at hc
    obtain⟨⟨h1,h2⟩,h3⟩:=hc
    have h1:=Nat.eq_of_beq_eq_true h1
    have h3:=Nat.eq_of_beq_eq_true h3
    subst h1
    split at h
    ·rename_i row hi
     split at h
     ·rename_i hj
      have hj:=Nat.le_of_ble_eq_true hj
      obtain rfl:=oJ_ h
      refine⟨fun J=>?_,.wr,rfl⟩
      obtain⟨dN,eh⟩:=dk (J:=J) hk
      rw [jk eh]
      exact ae.sto hx dN (Jg h2) h3 hi hj
     ·cases h
    ·cases h
   ·cases h
  ·cases h
 ·cases h
theorem BW {sz by_:Nat}{a b:QO}{f:Nat->AV}{df:List DE}{s s':XS}(h:KC sz by_ s (a.ev f) (b.ev f)=some (r,s')):(∀ J,ae P w0 dr (.append sz by_ a b) ⟨f,df⟩ (den J s) r (den J s'))/\dZ s s'/\s'.lg=s.lg:=by
 unfold KC at h
 split at h
 ·cases h
 ·rename_i more hm
  split at h
  ·cases h
  ·rename_i hyk
   split at h
   ·rename_i rows ha
    split at h
    ·simp only [oI_,pI_] at h
     obtain⟨rfl,rfl⟩:=h
     exact⟨fun J=>ae.Fk ha (iU hm),.refl _,rfl⟩
    ·rename_i x more
     split at h
     ·rename_i hc
      simp only [Bool.and_eq_true] at hc
      obtain⟨⟨h1,h2⟩,h3⟩:=hc
      simp only [oI_,pI_] at h
      obtain⟨rfl,rfl⟩:=h
      refine⟨fun J=>?_,.nw,rfl⟩
      rw [jl hyk]
      exact ae.Cq ha (iU hm) (fO h1) (fO h2) (Nat.le_of_ble_eq_true h3)
     ·cases h
   ·rename_i k sz' off len cx ha
    split at h
    ·rename_i fN rows fz ex hk
     split at h
     ·split at h
      ·rename_i hb
       have hb:=Nat.eq_of_beq_eq_true hb
       subst hb
       simp only [oI_,pI_] at h
       obtain⟨rfl,rfl⟩:=h
       exact⟨fun J=>ae.A8 ha (dk (J:=J) hk).1 (iU hm),.refl _,rfl⟩
      ·cases h
     ·rename_i x more
      split at h
      ·rename_i hc
       simp only [Bool.and_eq_true] at hc
       obtain⟨⟨⟨⟨⟨⟨h1,h2⟩,h3⟩,h4⟩,h5⟩,h6⟩,h7⟩:=hc
       have h1:=Nat.eq_of_beq_eq_true h1
       have h2:=Nat.eq_of_beq_eq_true h2
       have h3:=fO h3
       have h4:=kQ h4
       have h5:=Nat.le_of_ble_eq_true h5
       have h6:=Nat.le_of_ble_eq_true h6
       have h7:=Nat.le_of_ble_eq_true h7
       subst h1 h2
       split at h
       ·split at h
        ·simp only [oI_,pI_] at h
         obtain⟨rfl,rfl⟩:=h
         refine⟨fun J=>?_,dZ.wr.trans .nw,rfl⟩
         obtain⟨dN,eh⟩:=dk (J:=J) hk
         rw [jl (s:=kH s k none) hyk,jk eh]
         exact ae.JN ha dN (iU hm) h6 (by omega) (fun row hr=>⟨h3 row hr,List.all_eq_true.2 (h4 row hr)⟩) h5
        ·cases h
       ·split at h
        ·rename_i hc
         have hc:=Nat.eq_of_beq_eq_true hc
         simp only [oI_,pI_] at h
         obtain⟨rfl,rfl⟩:=h
         refine⟨fun J=>?_,.nw,rfl⟩
         rw [jl hyk]
         exact ae.akd ha (dk (J:=J) hk).1 (iU hm) hc h7 h3 h5
        ·cases h
      ·cases h
    ·cases h
   ·cases h
theorem Ph {q:dp}{f:Nat->AV}{df:List DE}{s s':XS}(h:rC dr q f s=some (r,s')):(∀ J,ae P w0 dr q ⟨f,df⟩ (den J s) r (den J s'))/\dZ s s'/\s'.lg=s.lg:=by
 have pure:∀ {q:dp},(match r8 dr q f with|some r=>some (r,s)|none=>none)=some (r,s')->(∀ J,ae P w0 dr q ⟨f,df⟩ (den J s) r (den J s'))/\dZ s s'/\s'.lg=s.lg:=fun {q} h=>by
  split at h
  ·rename_i r' hq
   simp only [oI_,pI_] at h
   obtain⟨rfl,rfl⟩:=h
   exact⟨fun J=>D4 hq,.refl _,rfl⟩
  ·cases h
 cases q with
 |load k x =>
  simp only [rC] at h
  split at h
  ·rename_i a ha
   simp only [oI_,pI_] at h
   obtain⟨rfl,rfl⟩:=h
   exact⟨fun J=>ae.quiet (by simp only [iJ,BV ha]),.refl _,rfl⟩
  ·cases h
 |alloc cs =>
  simp only [rC] at h
  split at h
  ·rename_i hy
   simp only [oI_,pI_] at h
   obtain⟨rfl,rfl⟩:=h
   refine⟨fun J=>ae.quiet ?_,.nw,rfl⟩
   rw [jl hy]
   simp only [iJ,py]
   rfl
  ·cases h
 |box x =>
  simp only [rC] at h
  split at h
  ·rename_i hy hc
   simp only [oI_,pI_] at h
   obtain⟨rfl,rfl⟩:=h
   refine⟨fun J=>ae.quiet ?_,.nw,rfl⟩
   rw [jl hy]
   simp only [iJ,py,Jg hc]
   rfl
  ·cases h
 |store n x b =>
  simp only [rC] at h
  split at h
  ·rename_i s1 hs
   simp only [oI_,pI_] at h
   obtain⟨rfl,rfl⟩:=h
   exact KD hs
  ·cases h
 |append sz by_ a b=>exact BW h
 |im z by_ l c =>
  simp only [rC] at h
  split at h
  ·rename_i k1 i k2 j hl hc
   split at h
   ·rename_i hd
    simp only [Bool.and_eq_true,Bool.not_eq_true'] at hd
    have eu:=of_decide_eq_true hd.1
    simp only [oI_,pI_] at h
    obtain⟨rfl,rfl⟩:=h
    refine⟨fun J=>?_,.nw,rfl⟩
    rw [jl hd.2]
    exact ae.TJ hl hc eu.1 eu.2.1 eu.2.2.1 eu.2.2.2
   ·cases h
  ·cases h
 |fk x =>
  simp only [rC] at h
  split at h
  ·rename_i hy
   simp only [oI_,pI_] at h
   obtain⟨rfl,rfl⟩:=h
   refine⟨fun J=>?_,.nw,rfl⟩
   rw [jl hy]
   exact ae.fk
  ·rename_i y hy
   split at h
   ·rename_i hx
    simp only [oI_,pI_] at h
    obtain⟨rfl,rfl⟩:=h
    refine⟨fun J=>?_,.nw,rfl⟩
    rw [jl hy]
    exact ae.Zt hx
   ·cases h
  ·cases h
 |look z c x i =>
  simp only [rC] at h
  split at h
  ·rename_i k m hx hi
   split at h
   ·rename_i es hk
    split at h
    ·rename_i he
     simp only [oI_,pI_] at h
     obtain⟨rfl,rfl⟩:=h
     exact⟨fun J=>ae.look hx (dk (J:=J) hk).1 (xY he) hi,.refl _,rfl⟩
    ·cases h
   ·cases h
  ·cases h
 |jf x i b =>
  simp only [rC] at h
  split at h
  ·rename_i k m hx hi
   split at h
   ·rename_i es hk
    split at h
    ·rename_i he
     simp only [oI_,pI_] at h
     obtain⟨rfl,rfl⟩:=h
     refine⟨fun J=>?_,.wr,rfl⟩
     obtain⟨dN,eh⟩:=dk (J:=J) hk
     rw [jk eh]
     cases dr with
     |false=>exact ae.jf hx dN (xY he) hi rfl
     |true=>exact ae.Bv hx dN (xY he) hi rfl
    ·cases h
   ·cases h
  ·cases h
 |wJ x =>
  simp only [rC] at h
  split at h
  ·rename_i z hx hy
   simp only [oI_,pI_] at h
   obtain⟨rfl,rfl⟩:=h
   refine⟨fun J=>?_,.nw,rfl⟩
   rw [jl hy]
   exact ae.Y1 hx
  ·cases h
 |qM x =>
  simp only [rC] at h
  split at h
  ·rename_i k sz hx
   split at h
   ·rename_i z pos hk
    split at h
    ·rename_i hp
     simp only [oI_,pI_] at h
     obtain⟨rfl,rfl⟩:=h
     refine⟨fun J=>?_,.wr,rfl⟩
     obtain⟨dN,eh⟩:=dk (J:=J) hk
     rw [jk eh]
     exact ae.JO hx dN (dC hp)
    ·rename_i hp
     simp only [oI_,pI_] at h
     obtain⟨rfl,rfl⟩:=h
     refine⟨fun J=>ae.Y2 hx (dk (J:=J) hk).1 ?_,.refl _,rfl⟩
     rcases Nat.lt_or_ge pos z.size with h1|h1
     ·have:Nat.blt pos z.size=true:=Nat.ble_eq_true_of_le h1
      rw [this] at hp;cases hp
     ·exact h1
   ·cases h
  ·cases h
 |_=>exact pure h
end
section
variable {P:Program}{w0:World}{n B:Nat}{α:AA}{S:ad}{dr:Bool}
theorem xZ {o:Oper}{sz by_:Nat}{a b:QO}{ex:Bool}{rows:List (List AV)}(hr:res P.toTables o.op=some (.append sz by_ a b)) (ha:a.ev α.tm=.sl ex rows) (hb:dD S (b.ev α.tm)=some []):aS P w0 n o α S (.sl ex rows) S:=by
 obtain⟨c,t,t2,u,v,e,e2,z,ho,hc,fC,aY,rfl,rfl,ht,eX,hz,hs,jn,lT,hbl⟩:=lC hr
 rw [aJ] at ha hb
 obtain⟨hm,hlen⟩:=dx hb
 have fC:c.argTypes=#[t,t2]:=by rw [<-Array.toArray_toList (xs:=c.argTypes),fC]
 have aY:c.args=#[u,v]:=by rw [<-Array.toArray_toList (xs:=c.args),aY]
 have ht:P.underlying t=some (.slice e):=by
  unfold fJ at ht
  split at ht
  ·obtain rfl:=oJ_ ht;assumption
  ·cases ht
 have eX:P.underlying t2=some (.slice e2):=by
  unfold fJ at eX
  split at eX
  ·obtain rfl:=oJ_ eX;assumption
  ·cases eX
 refine aS.quiet fun A g q w hS hA=>?_
 have h1:=hA.ev u
 have h2:=hA.ev v
 rw [ha] at h1
 obtain⟨C,c1,e1⟩:=oE (S:=S) hlen hm h2
 obtain⟨C',cc',e3,hle,_⟩:=oM h1
 refine⟨q.eval u,?_,h1⟩
 have bY:(execOp q.eval o).run P w=((Builtin.append_ #[t,t2] o.type #[q.eval u,q.eval v]).run P w).andThen fun v w'=>.ok (.value v) w':=by
  simp [execOp,ho,resolve,hc,fC,aY,invoke,builtin]
 rw [bY,e1,e3,tK ht eX hs hle]
 rfl
theorem Pj {o:Oper}{sz by_:Nat}{a b:QO}{ex:Bool}{rows:List (List AV)}{A:Option Addr}{cp:Nat}(hr:res P.toTables o.op=some (.append sz by_ a b)) (ha:a.ev α.tm=.sl ex rows) (hb:b.ev α.tm=.v (.slice A 0 cp)):aS P w0 n o α S (.sl ex rows) S:=by
 obtain⟨c,t,t2,u,v,e,e2,z,ho,hc,fC,aY,rfl,rfl,ht,eX,hz,hs,jn,lT,hbl⟩:=lC hr
 rw [aJ] at ha hb
 have fC:c.argTypes=#[t,t2]:=by rw [<-Array.toArray_toList (xs:=c.argTypes),fC]
 have aY:c.args=#[u,v]:=by rw [<-Array.toArray_toList (xs:=c.args),aY]
 have ht:P.underlying t=some (.slice e):=by
  unfold fJ at ht
  split at ht
  ·obtain rfl:=oJ_ ht;assumption
  ·cases ht
 have eX:P.underlying t2=some (.slice e2):=by
  unfold fJ at eX
  split at eX
  ·obtain rfl:=oJ_ eX;assumption
  ·cases eX
 refine aS.quiet fun A g q w hS hA=>?_
 have h1:=hA.ev u
 have h2:=hA.ev v
 rw [ha] at h1
 rw [hb] at h2
 have e1:=bO h2
 obtain⟨C',cc',e3,hle,_⟩:=oM h1
 refine⟨q.eval u,?_,h1⟩
 have bY:(execOp q.eval o).run P w=((Builtin.append_ #[t,t2] o.type #[q.eval u,q.eval v]).run P w).andThen fun v w'=>.ok (.value v) w':=by
  simp [execOp,ho,resolve,hc,fC,aY,invoke,builtin]
 rw [bY,e1,e3,tK ht eX hs hle]
 rfl
theorem yX {o:Oper}{sz by_:Nat}{a b:QO}(hr:res P.toTables o.op=some (.append sz by_ a b)):a.ev (α.only (cB o)).tm=a.ev α.tm/\b.ev (α.only (cB o)).tm=b.ev α.tm/\∀ c,o.op ≠ .defer c:=by
 obtain⟨c,t,t2,u,v,e,e2,z,ho,hc,fC,aY,rfl,rfl,_⟩:=lC hr
 have key:∀ q ∈ [u,v],(α.only (cB o)).ev q=α.ev q:=fun q hq=>ew fun t ht=>ee (by
  rw [ho,<-ht]
  have:q ∈ c.args:=Array.mem_toList_iff.1 (by rw [aY];exact hq)
  show q ∈ c.operands
  simp [Call.operands,this,hc])
 exact⟨by rw [aJ,aJ];exact key u (by simp),by rw [aJ,aJ];exact key v (by simp),fun c e=>by rw [ho] at e;cases e⟩
theorem ae.E0 {sz by_:Nat}{a b:QO}{ex:Bool}{rows:List (List AV)}(ha:a.ev α.tm=.sl ex rows) (hb:dD S (b.ev α.tm)=some []):ae P w0 dr (.append sz by_ a b) α S (.sl ex rows) S:=by
 cases dr with
 |false=>exact fun n o hr=>(xZ hr ha hb).ops (yX (α:=α) hr).2.2
 |true =>
  intro n o hr
  obtain⟨h1,h2,h3⟩:=yX (α:=α) hr
  exact⟨(xZ hr (by rw [h1];exact ha) (by rw [h2];exact hb)).ops h3,fun hp=>(by rw [pj hr] at hp;cases hp),fun _=>rfl⟩
theorem ae.BX {sz by_:Nat}{a b:QO}{ex:Bool}{rows:List (List AV)}{A:Option Addr}{cp:Nat}(ha:a.ev α.tm=.sl ex rows) (hb:b.ev α.tm=.v (.slice A 0 cp)):ae P w0 false (.append sz by_ a b) α S (.sl ex rows) S:=fun n o hr=>(Pj hr ha hb).ops (yX (α:=α) hr).2.2
theorem bc.E0 {sz by_:Nat}{a b:QO}{ex ex':Bool}{rows:List (List AV)}(ha:a.ev α.tm=.sl ex rows) (hb:b.ev α.tm=.sl ex' []):bc P w0 B (.append sz by_ a b) α S (.sl ex rows) ⟨[],[],false⟩:=by
 intro n o hr
 refine⟨fun _=>rfl,(show fu S [] from fun p hp=>by cases hp),fun T _ _ _=>?_⟩
 rw [show cY T [] false=T from cG]
 obtain⟨h1,h2,h3⟩:=yX (α:=α) hr
 exact (xZ hr (by rw [h1];exact ha) (by rw [h2,hb];exact g9)).ops h3
end
def RS (sz by_:Nat) (s:XS) (a b:AV):Option (AV × Dt):=match b with
 |.sl _ []=>match a with
  |.sl ex rows=>some (.sl ex rows,⟨[],[],false⟩)
  |.ob k sz' 0 len none=>match (eE s).get k with
   |some (.arr fN rows fz ex)=>match Nat.beq fN sz' with
    |true=>some (.ob k sz' 0 len none,⟨[(k,.arr fN rows fz ex)],[],false⟩)
    |false=>none
   |_=>none
  |_=>none
 |.sl _ (x::more)=>match a with
  |.sl true []=>match kz sz (x::more) && Nat.ble ((x::more).length*by_) 35184372088832 with
   |true=>some (.ob s.nx sz 0 (x::more).length none,⟨[],[(s.nx,some (.arr sz (x::more) 0 false))],true⟩)
   |false=>none
  |.ob k sz' 0 len none=>match (eE s).get k with
   |some (.arr fN rows fz ex)=>match Nat.beq fN sz && Nat.beq sz' sz && kz sz (x::more) && r5 bQ (x::more) && Nat.ble ((len+(x::more).length)*by_) 35184372088832 && Nat.ble fz len && Nat.ble len rows.length with
    |true=>some (.ob s.nx sz 0 (len+(x::more).length) none,⟨[(k,.arr fN rows fz ex)],[(s.nx,some (.arr sz (rows.take len++x::more) fz false)),(k,none)],true⟩)
    |false=>none
   |_=>none
  |_=>none
 |_=>none
section
variable {P:Program}{w0:World}{B:Nat}{s:XS}{r:AV}{J:FJ}
theorem KE {sz by_:Nat}{a b:QO}{f:Nat->AV}{df:List DE}{d:Dt}(h:RS sz by_ s (a.ev f) (b.ev f)=some (r,d)):bc P w0 B (.append sz by_ a b) ⟨f,df⟩ (den J s) r d:=by
 unfold RS at h
 split at h
 ·rename_i ex' hb
  split at h
  ·rename_i ex rows ha
   simp only [oI_,pI_] at h
   obtain⟨rfl,rfl⟩:=h
   exact bc.E0 ha hb
  ·rename_i k sz' len ha
   split at h
   ·rename_i fN rows fz ex hk
    split at h
    ·rename_i hs
     have hs:=Nat.eq_of_beq_eq_true hs
     subst hs
     simp only [oI_,pI_] at h
     obtain⟨rfl,rfl⟩:=h
     exact bc.A8 ha (dk (J:=J) hk).1 hb
    ·cases h
   ·cases h
  ·cases h
 ·rename_i ex' x more hb
  split at h
  ·rename_i ha
   split at h
   ·rename_i hc
    simp only [Bool.and_eq_true] at hc
    simp only [oI_,pI_] at h
    obtain⟨rfl,rfl⟩:=h
    exact bc.Cq (S:=den J s) ha hb (fO hc.1) (Nat.le_of_ble_eq_true hc.2)
   ·cases h
  ·rename_i k sz' len ha
   split at h
   ·rename_i fN rows fz ex hk
    split at h
    ·rename_i hc
     simp only [Bool.and_eq_true] at hc
     obtain⟨⟨⟨⟨⟨⟨h1,h2⟩,h3⟩,h4⟩,h5⟩,h6⟩,h7⟩:=hc
     have h1:=Nat.eq_of_beq_eq_true h1
     have h2:=Nat.eq_of_beq_eq_true h2
     subst h1 h2
     simp only [oI_,pI_] at h
     obtain⟨rfl,rfl⟩:=h
     exact bc.JN (S:=den J s) ha (dk (J:=J) hk).1 hb (Nat.le_of_ble_eq_true h6) (Nat.le_of_ble_eq_true h7) (fun row hr=>⟨fO h3 row hr,List.all_eq_true.2 (kQ h4 row hr)⟩) (Nat.le_of_ble_eq_true h5)
    ·cases h
   ·cases h
  ·cases h
 ·cases h
theorem bc.aee {fq:QO}{fe:List QO}{f:Nat->AV}{df:List DE}{g:FuncId}{aZ9:List AV}{S S':ad}{k sz len fz:Nat}{rows:List (List AV)}{ex:Bool}(bC:dM (fq.ev f) (fe.map (·.ev f))=some (g,aZ9)) (hp:dm aZ9) (h:aK P w0 g aZ9 ad.none_ (.ob k sz 0 len none) S')
  (hk:S'.get k=some (.arr sz rows fz ex)) (hr:∀ r ∈ rows,∀ a ∈ r,Pure a):bc P w0 B (.call fq fe) ⟨f,df⟩ S (.ob S.nx sz 0 len none) ⟨[],[(S.nx,some (.arr sz rows fz ex))],true⟩:=by
 have h1:aK P w0 g aZ9 (au [] 0) (.ob 0 sz 0 len none) (au [(0,.arr sz rows fz ex)] 1):=by
  refine aK.canon (B:=0) (N:=1) (m:=[(0,k)]) (S:=ad.none_) (S':=S') h rfl (.new rfl rfl) ⟨.inl ⟨_,hk,.same fun r eK a ha=>(hr r eK a ha).b9⟩,trivial⟩ rfl rfl
 have pl:∀ {l:List AV},dm l->qA (aN []) 0 l l:=by
  intro l
  induction l with
  |nil=>intro _;trivial
  |cons a l ih=>exact fun h=>⟨Rn.pure h.1,ih h.2⟩
 exact bc.Ut (so':=[(0,.arr sz rows fz ex)]) h1 bC (pl hp) (Rb.ob rfl) ⟨⟨0,_,rfl,rfl,kE.pure hr⟩,trivial⟩ rfl
end
def kB {T:Type}(f:T->List AV) (z:List AV) (m:Nat) (l:List T):List (List AV):=l.map f++List.replicate (m - l.length) z
section
variable {P:Program}{w0:World}{α:AA}{S:ad}{rd:Bool}{n:Nat}{Q:Exit->AA->ad->Prop}{l:List QI}{K:List fc}{ρ:Hd}{T:Type}{f:T->List AV}{z:List AV}{dd:Option Nat}{gg:Option (Nat × Bool)}{acc ys:List T}
theorem RT {m:Nat}{l:List T}(h:l.length<=m):(kB f z m l).length=m:=by unfold kB;simp;omega
theorem aa.ake {by_:Nat}{a b:QO}{i:Int}{m sz:Nat}(ρ:Hd) (f:T->List AV) (hw:bD α.tm gg=some true) (h1:a.ev α.tm=.v (.int .i64 0)) (h2:b.ev α.tm=.v (.int .i64 i)) (hi:i=m) (hs:z.length=sz) (hy:m*by_<=35184372088832) (h6:m<=9223372036854775807)
  (kk:∀ acc:List T,acc=[]->aa P w0 rd n Q (.aU false l K) (bS dd α (.ob S.nx sz 0 0 none)) (S.new (.arr sz (ρ.h (kB f z m) acc) 0 true))):aa P w0 rd n Q (.aU false (⟨dd,gg,.im z by_ a b⟩::l) K) α S:=by
 have h:=kk [] rfl
 rw [ρ.eq] at h
 subst hs hi
 exact aa.op (i:=⟨dd,gg,.im z by_ a b⟩) hw (by simpa [kB] using ae.aal (P:=P) (w0:=w0) (z:=z) (by_:=by_) (S:=S) h1 h2 (by omega) (by omega) (by omega) (by omega)) (by simpa [kB] using h)
theorem aa8 {α:Type}{g:Nat->α}{k:Nat}{o:α}(h:g k=o):a8 g k o=g:=by
 funext j
 by_cases e:j=k
 ·rw [e,aq,h]
 ·rw [aC _ _ e]
theorem aa.aa9 {by_ sz k len m:Nat}{ex ex':Bool}{a b:QO}(hw:bD α.tm gg=some true) (h1:a.ev α.tm=.ob k sz 0 len none) (hk:S.get k=some (.arr sz (ρ.h (kB f z m) acc) 0 ex)) (hn:len=acc.length) (hb:b.ev α.tm=cE ρ f ex' ys) (hl:∀ x,(f x).length=sz) (hc:∀ x,(f x).all bQ=true) (hm:acc.length+ys.length<=m)
  (kk:∀ dE eU,dE=acc++ys->eU=dE.length->aa P w0 rd n Q (.aU false l K) (bS dd α (.ob k sz 0 eU none)) (S.set k (some (.arr sz (ρ.h (kB f z m) dE) 0 ex)))):aa P w0 rd n Q (.aU false (⟨dd,gg,.append sz by_ a b⟩::l) K) α S:=by
 rw [cO] at hb
 have h:=kk _ _ rfl rfl
 rw [ρ.eq] at h hk
 cases ys with
 |nil =>
  rw [List.append_nil] at h
  have e:S.set k (some (.arr sz (kB f z m acc) 0 ex))=S:=by
   cases S with
   |mk g x=>show (⟨a8 g k _,x⟩:ad)=⟨g,x⟩;rw [aa8 hk]
  rw [e] at h
  subst hn
  exact aa.op (i:=⟨dd,gg,.append sz by_ a b⟩) hw (ae.A8 h1 hk (by rw [hb];exact g9)) h
 |cons y ys =>
  have hp:=RT (f:=f) (z:=z) (show acc.length<=m by omega)
  have hlen:(f y::List.map f ys).length=(y::ys).length:=by simp
  have o:=ae.aam (P:=P) (w0:=w0) (by_:=by_) (x:=f y) (more:=List.map f ys) h1 hk (by rw [hb];exact g9) (Nat.zero_le _) (by rw [hp,hlen,hn];exact hm) (fun row hr=>by
   obtain⟨x,_,rfl⟩:=List.mem_map.1 (show row ∈ List.map f (y::ys) from hr)
   exact⟨hl x,hc x⟩)
  have e1:(kB f z m acc).take len=acc.map f:=by rw [kB,hn,List.take_append_of_le_length (by simp),List.take_of_length_le (by simp)]
  have e2:(kB f z m acc).drop (len+(f y::List.map f ys).length)=List.replicate (m - (acc++y::ys).length) z:=by
   rw [kB,hn,List.drop_append,List.drop_eq_nil_of_le (by simp),List.nil_append,List.drop_replicate]
   congr 1
   simp
   omega
  have e3:(kB f z m acc).take len++f y::List.map f ys++(kB f z m acc).drop (len+(f y::List.map f ys).length)=kB f z m (acc++y::ys):=by
   rw [e1,e2]
   simp [kB]
  rw [e3] at o
  have e4:len+(f y::List.map f ys).length=(acc++y::ys).length:=by rw [hn];simp
  rw [e4] at o
  exact aa.op (i:=⟨dd,gg,.append sz by_ a b⟩) hw o h
theorem bp.akf {k sz len m:Nat}{ex:Bool}(hk:S.get k=some (.arr sz (ρ.h (kB f z m) acc) 0 ex)) (hn:len=acc.length):bp S (.ob k sz 0 len none) (cE ρ f false acc):=by
 rw [cO]
 rw [ρ.eq] at hk
 have key:∀ i row,(acc.map f)[i]?=some row->(kB f z m acc)[i]?=some row:=fun i row h=>by
  unfold kB
  rw [List.getElem?_append_left (List.getElem?_eq_some_iff.1 h).1]
  exact h
 refine .ob hk (by simp [kB];omega) (by simp [hn]) (fun i row aV h1 h2=>?_) (fun i j row aV a a' h1 h2 h3 h4=>?_)
 ·rw [Nat.zero_add,key i _ h2] at h1
  rw [oJ_ h1]
 ·rw [Nat.zero_add,key i _ h2] at h1
  rw [oJ_ h1,h3] at h4
  rw [oJ_ h4]
  exact .refl _
end
section
set_option maxRecDepth 100000
attribute [local irreducible] ah aK ae aa
def Vh:CF Tryz.f339:=⟨_,by conv=>lhs;cbv⟩
theorem aef:aT Tryz.prog 339 Vh.1 Tryz.f339.ntmps:=bX Tryz.func339 Vh.2 Tryz.call339
def er:List Nat:=[0,3,10,31,7,4,1,13,6,24,5,30,32,29,9,71]
theorem En:∀ (s:PS) (l:List Tm) (x:Tm),(cF s (l++[x])).1=(bH (cF s l).1 x).1/\(cF s (l++[x])).2=(cF s l).2++[(bH (cF s l).1 x).2]
 |s,[],x=>by simp only [List.nil_append,cF];exact⟨trivial,trivial⟩
 |s,y::l,x=>by
  simp only [List.cons_append,cF]
  obtain⟨h1,h2⟩:=En (bH s y).1 l x
  exact⟨h1,by rw [h2]⟩
def nt (i j nl ul:Nat):Ob:=.arr 6 [[.gr i 5 nl,.mp 2,.gr j 1 ul,.mp 4,.mp 5,.mp 6]] 0 true
def gY (ρ:Hd) (i j:Nat) (s:PS) (kn:KN):List (Nat × Ob):=[(0,nt i j s.N.length s.js.up.length),(2,bB ρ s.vs),(4,dQ ρ s.js.sh),(5,bB ρ s.js.ls),(6,dR ρ kn),(i,dO ρ s.N),(j,dP ρ s.js.up)]
theorem Pk {i j:Nat}{ρ:Hd}{S:ad}{nl ul:Nat}{Nd:bj}{vs sh ls:List (Int × Int)}{up:List Nat}{kn:KN}(h0:S.get 0=some (nt i j nl ul):=by rfl) (h1:S.get i=some (dO ρ Nd):=by rfl) (h2:S.get 2=some (bB ρ vs):=by rfl) (h3:S.get j=some (dP ρ up):=by rfl)
  (h4:S.get 4=some (dQ ρ sh):=by rfl) (h5:S.get 5=some (bB ρ ls):=by rfl) (h6:S.get 6=some (dR ρ kn):=by rfl):gj 7 [(7,i),(8,j)] 9 S [(0,nt 7 8 nl ul),(2,bB ρ vs),(4,dQ ρ sh),(5,bB ρ ls),(6,dR ρ kn),(7,dO ρ Nd),(8,dP ρ up)] :=
 ⟨.inl ⟨_,h0,.arr (by exact⟨⟨.jc rfl rfl,.aB (.mp (by decide)),.jc rfl rfl,.aB (.mp (by decide)),.aB (.mp (by decide)),.aB (.mp (by decide)),trivial⟩,trivial⟩)⟩,.inl ⟨_,h2,.same (cR _)⟩,.inl ⟨_,h4,.same (iw _)⟩,.inl ⟨_,h5,.same (cR _)⟩,.inl ⟨_,h6,.same (iy _)⟩,.inl ⟨_,h1,.same (i_ _)⟩,.inl ⟨_,h3,.same (iu _)⟩,trivial⟩
def gZ (ρ:Hd) (i j nl ul:Nat) (N:bj) (vs:List (Int × Int)) (up:List Nat) (sh ls:List (Int × Int)) (kn:KN):List (Nat × Ob):=[(0,nt i j nl ul),(i,dO ρ N),(2,bB ρ vs),(j,dP ρ up),(4,dQ ρ sh),(5,bB ρ ls),(6,dR ρ kn)]
theorem Pl {ρ:Hd}{i j nl ul:Nat}{N:bj}{vs:List (Int × Int)}{up:List Nat}{sh ls:List (Int × Int)}{kn:KN}{T:ad}(h:fu T (gZ ρ i j nl ul N vs up sh ls kn)):ir (aN [(1,i),(3,j)]) 7 T (gX ρ nl ul N vs up sh ls kn):=by
 have h0:T.get 0=some (nt i j nl ul):=h (0,nt i j nl ul) (by simp [gZ])
 have h1:T.get i=some (dO ρ N):=h (i,dO ρ N) (by simp [gZ])
 have h2:T.get 2=some (bB ρ vs):=h (2,bB ρ vs) (by simp [gZ])
 have h3:T.get j=some (dP ρ up):=h (j,dP ρ up) (by simp [gZ])
 have h4:T.get 4=some (dQ ρ sh):=h (4,dQ ρ sh) (by simp [gZ])
 have h5:T.get 5=some (bB ρ ls):=h (5,bB ρ ls) (by simp [gZ])
 have h6:T.get 6=some (dR ρ kn):=h (6,dR ρ kn) (by simp [gZ])
 exact⟨⟨_,h0,.row ⟨.gr rfl rfl,.mp rfl rfl,.gr rfl rfl,.mp rfl rfl,.mp rfl rfl,.mp rfl rfl,trivial⟩⟩,⟨_,h1,.pure (pv _)⟩,⟨_,h2,.mb (dT ia _)⟩,⟨_,h3,.pure (pw _)⟩,
  ⟨_,h4,.mp (dT ia _)⟩,⟨_,h5,.mb (dT ia _)⟩,⟨_,h6,.mp (dT sf _)⟩,trivial⟩
def gW (ρ:Hd) (a i j nl ul:Nat) (N:bj) (vs:List (Int × Int)) (up:List Nat) (sh ls:List (Int × Int)) (kn:KN):List (Nat × Option Ob):=[(0,some (nt (a+7) (a+8) nl ul)),(2,some (bB ρ vs)),(4,some (dQ ρ sh)),(5,some (bB ρ ls)),(6,some (dR ρ kn)),(i,none),(j,none),
 (a,none),(a+1,none),(a+2,none),(a+3,none),(a+4,none),(a+5,none),(a+6,none),(a+7,some (dO ρ N)),(a+8,some (dP ρ up))]
def Pm (ρ:Hd) (nl ul:Nat) (N:bj) (vs:List (Int × Int)) (up:List Nat) (sh ls:List (Int × Int)) (kn:KN):List (Nat × Ob):=[(0,nt 7 8 nl ul),(2,bB ρ vs),(4,dQ ρ sh),(5,bB ρ ls),(6,dR ρ kn),(7,dO ρ N),(8,dP ρ up)]
theorem Vi {ρ:Hd}{a i j nl ul:Nat}{N:bj}{vs:List (Int × Int)}{up:List Nat}{sh ls:List (Int × Int)}{kn:KN}:gk (cV (aN [(1,i),(3,j)]) 7 a) (Pm ρ nl ul N vs up sh ls kn) (gW ρ a i j nl ul N vs up sh ls kn) :=
 ⟨⟨0,_,rfl,rfl,.row ⟨.gr rfl,.mp rfl,.gr rfl,.mp rfl,.mp rfl,.mp rfl,trivial⟩⟩,⟨2,_,rfl,rfl,.mb (dT ia _)⟩,⟨4,_,rfl,rfl,.mp (dT ia _)⟩,⟨5,_,rfl,rfl,.mb (dT ia _)⟩,⟨6,_,rfl,rfl,.mp (dT sf _)⟩,
  ⟨7,_,rfl,rfl,.pure (pv _)⟩,⟨8,_,rfl,rfl,.pure (pw _)⟩,trivial⟩
section
variable {P:Program}{w0:World}{rd:Bool}{n B:Nat}{Q:Exit->AA->ad->Prop}{α:AA}{S:ad}{l:List QI}{K:List fc}{T:Type}{ρ:Hd}{f:T->List AV}{acc:List T}{V:List (Nat × Nat)}{lg:List (List Nat × List Nat × Bool)}{rs:List Nat}
theorem aa.Vj {dd:Option Nat}{gg:Option (Nat × Bool)}{t:Nat}{b:QO}{sz by_ k len:Nat}{ex ex':Bool}(x:T) (hw:bD α.tm gg=some true) (h1:α.tm t=.gr k sz len) (hk:S.get k=some (.arr sz (ρ.h (List.map f) acc) 0 ex)) (hn:len=acc.length) (ku:∀ c,b.ev (a8 α.tm t c)=b.ev α.tm)
  (hb:b.ev α.tm=.sl ex' [f x]) (hl:(f x).length=sz) (hc:(f x).all bQ=true) (hy:(len+1)*by_<=35184372088832)
  (kk:∀ dE eU,dE=acc++[x]->eU=dE.length->aa P w0 rd n Q (.dB B V (lg++[([k],[S.nx,k],true)]) rs l K) (bS dd α (.gr S.nx sz eU)) (cY S [(S.nx,some (.arr sz (ρ.h (List.map f) dE) 0 false)),(k,none)] true)):aa P w0 rd n Q (.dB B V lg rs (⟨dd,gg,.append sz by_ (.t t) b⟩::l) K) α S:=by
 have hlen:(ρ.h (List.map f) acc).length=acc.length:=aF
 have h:=kk _ _ rfl rfl
 have e:ρ.h (List.map f) acc++[f x]=ρ.h (List.map f) (acc++[x]):=by rw [ρ.eq,ρ.eq,List.map_append];rfl
 rw [<-e,show (acc++[x]).length=len+[f x].length by simp;omega] at h
 exact aa.lP (i:=⟨dd,gg,.append sz by_ (.t t) b⟩) hw (bc.Cw (x:=f x) (more:=[]) h1 hk (by omega) ku hb (fun row hr=>by obtain rfl:=List.mem_singleton.1 hr;exact⟨hl,hc⟩) (by simpa using hy)) h
end
def Jh (s:PS):Prop:=∀ C:Nat,s.N.length<=C->aD s.js.ls (C:Int)=none
theorem Eo:∀ (l:List Tm) (m:Nat),cN (l.take m)<=cN l
 |[],m=>by simp
 |y::l,0=>by simp [cN]
 |y::l,m+1=>by rw [List.take_succ_cons,cN,cN];have:=Eo l m;omega
theorem x6:∀ (s:PS) (l:List Tm),(cF s l).2.length=l.length
 |s,[]=>rfl
 |s,x::l=>by rw [cF];simp only [List.length_cons];rw [x6]
theorem Yv {α:Type}{l:List α}{m:Nat}{y:α}(h:l[m]?=some y):l.take (m+1)=l.take m++[y]:=by rw [List.take_add_one,h];rfl
theorem Pn {l:List Tm}(h:iS l) (m:Nat):iS (l.take m):=CC fun x hx=>h.mem x (List.mem_of_mem_take hx)
theorem Ji:∀ {l:List Tm},(∀ x ∈ l,jM x)->jR l
 |[],_=>by rw [jR];trivial
 |y::l,h=>by rw [jR];exact⟨h y (by simp),Ji fun x hx=>h x (by simp [hx])⟩
theorem Po {l:List Tm}(h:jR l) (m:Nat):jR (l.take m):=Ji fun x hx=>h.mem x (List.mem_of_mem_take hx)
theorem AF {s0:PS}{a:List Tm}(hV:na s0) (hF:Jh s0) (hw:iS a) (DW:jR a) (oW:pV s0.N) (m:Nat):na (cF s0 (a.take m)).1/\Jh (cF s0 (a.take m)).1/\pV (cF s0 (a.take m)).1.N/\(cF s0 (a.take m)).1.N.length<=s0.N.length+cN (a.take m):=by
 obtain⟨h1,h2,h3,h4⟩:=Aw s0 (a.take m) hV (Pn hw m)
 obtain⟨k1,k2⟩:=Az s0.N (a.take m) oW (Po DW m)
 rw [<-h1] at k1 k2
 exact⟨h3,fun C hC=>by rw [h4.xL C hC];exact hF C (Nat.le_trans h4.le hC),k1,k2⟩
theorem GQ {s0:PS}{a:List Tm}{m:Nat}{y:Tm}(hV:na s0) (hF:Jh s0) (hw:iS a) (DW:jR a) (oW:pV s0.N) (hy:a[m]?=some y) :
  na (cF s0 (a.take m)).1/\Jh (cF s0 (a.take m)).1/\eW y/\jM y/\pV (cF s0 (a.take m)).1.N/\(cF s0 (a.take m)).1.N.length+fX y<=s0.N.length+cN a/\(cF s0 (a.take (m+1))).1=(bH (cF s0 (a.take m)).1 y).1/\(cF s0 (a.take (m+1))).2=(cF s0 (a.take m)).2++[(bH (cF s0 (a.take m)).1 y).2]:=by
 obtain⟨h1,h2,h3,h4⟩:=AF hV hF hw DW oW m
 have hm:=List.mem_of_getElem? hy
 have e:=Yv hy
 obtain⟨q1,q2⟩:=En s0 (a.take m) y
 have q3:=Eo a (m+1)
 rw [e,RH] at q3
 rw [e]
 exact⟨h1,h2,hw.mem y hm,DW.mem y hm,h3,by omega,q1,q2⟩
theorem gCL {ρ:Hd}{ni uj rj:Nat}{S:ad}{nl ul kl:Nat}{Nd:bj}{vs sh ls:List (Int × Int)}{up rl:List Nat}{kn:KN}{t:Tm}(h0:S.get 0=some (nt ni uj nl ul):=by rfl) (h1:S.get ni=some (dO ρ Nd):=by rfl) (h2:S.get 2=some (bB ρ vs):=by rfl) (h3:S.get uj=some (dP ρ up):=by rfl)
  (h4:S.get 4=some (dQ ρ sh):=by rfl) (h5:S.get 5=some (bB ρ ls):=by rfl) (h6:S.get 6=some (dR ρ kn):=by rfl) (h7:S.get 7=some (.arr 4 [lh ρ t] 0 true):=by rfl) (h8:S.get 8=some (.arr 5 [[iv t.k,iv t.i,.v (.string t.n),tl ρ t.a,.gr rj 1 kl]] 0 true):=by rfl) (h9:S.get rj=some (.arr 1 (ρ.h (List.map iG) rl) 0 false):=by rfl) :
  gj 9 [(9,ni),(10,uj),(11,rj)] 12 S [(0,nt 9 10 nl ul),(9,dO ρ Nd),(2,bB ρ vs),(10,dP ρ up),(4,dQ ρ sh),(5,bB ρ ls),(6,dR ρ kn),(7,.arr 4 [lh ρ t] 0 true),(8,.arr 5 [[iv t.k,iv t.i,.v (.string t.n),tl ρ t.a,.gr 11 1 kl]] 0 true),(11,.arr 1 (ρ.h (List.map iG) rl) 0 false)] :=
 ⟨.inl ⟨_,h0,.arr (by exact⟨⟨.jc rfl rfl,.aB (.mp (by decide)),.jc rfl rfl,.aB (.mp (by decide)),.aB (.mp (by decide)),.aB (.mp (by decide)),trivial⟩,trivial⟩)⟩,.inl ⟨_,h1,.same (i_ _)⟩,.inl ⟨_,h2,.same (cR _)⟩,.inl ⟨_,h3,.same (iu _)⟩,.inl ⟨_,h4,.same (iw _)⟩,.inl ⟨_,h5,.same (cR _)⟩,.inl ⟨_,h6,.same (iy _)⟩,
  .inl ⟨_,h7,.same (fun row hr a ha=>by obtain rfl:=List.mem_singleton.1 hr;exact Pure.b9 (pb t a ha))⟩,.inl ⟨_,h8,.arr (by exact⟨⟨.aB .v,.aB .v,.aB .v,.aB (Pure.b9 (bl _)),.jc rfl rfl,trivial⟩,trivial⟩)⟩,.inl ⟨_,h9,.same (iu _)⟩,trivial⟩
theorem x7 {ρ:Hd}{i j nl ul:Nat}{N:bj}{vs:List (Int × Int)}{up:List Nat}{sh ls:List (Int × Int)}{kn:KN}{T:ad}(h0:T.get 0=some (nt i j nl ul):=by rfl) (h1:T.get i=some (dO ρ N):=by rfl) (h2:T.get 2=some (bB ρ vs):=by rfl) (h3:T.get j=some (dP ρ up):=by rfl) (h4:T.get 4=some (dQ ρ sh):=by rfl) (h5:T.get 5=some (bB ρ ls):=by rfl) (h6:T.get 6=some (dR ρ kn):=by rfl):fu T (gZ ρ i j nl ul N vs up sh ls kn):=by
 intro p hp
 unfold gZ at hp
 simp only [List.mem_cons,List.not_mem_nil,or_false] at hp
 rcases hp with rfl|rfl|rfl|rfl|rfl|rfl|rfl<;>assumption
theorem aa_ {ρ:Hd}{S:ad}{nl ul:Nat}{Nd:bj}{vs sh ls:List (Int × Int)}{up:List Nat}{kn:KN}{t:Tm}(h0:S.get 0=some (nt 1 3 nl ul):=by rfl) (h1:S.get 1=some (dO ρ Nd):=by rfl) (h2:S.get 2=some (bB ρ vs):=by rfl) (h3:S.get 3=some (dP ρ up):=by rfl)
  (h4:S.get 4=some (dQ ρ sh):=by rfl) (h5:S.get 5=some (bB ρ ls):=by rfl) (h6:S.get 6=some (dR ρ kn):=by rfl) (h7:S.get 7=some (.arr 4 [lh ρ t] 0 true):=by rfl) (h8:S.get 8=some (.arr 5 [[iv t.k,iv t.i,.v (.string t.n),tl ρ t.a,.sl true []]] 0 true):=by rfl) (mQ:Nat.ble S.nx 11=true:=by rfl) :
  gj 9 [(9,1),(10,3)] 12 S [(0,nt 9 10 nl ul),(9,dO ρ Nd),(2,bB ρ vs),(10,dP ρ up),(4,dQ ρ sh),(5,bB ρ ls),(6,dR ρ kn),(7,.arr 4 [lh ρ t] 0 true),(8,.arr 5 [[iv t.k,iv t.i,.v (.string t.n),tl ρ t.a,.gr 11 1 0]] 0 true),(11,.arr 1 (ρ.h (List.map iG) []) 0 false)] :=
 ⟨.inl ⟨_,h0,.arr (by exact⟨⟨.jc rfl rfl,.aB (.mp (by decide)),.jc rfl rfl,.aB (.mp (by decide)),.aB (.mp (by decide)),.aB (.mp (by decide)),trivial⟩,trivial⟩)⟩,.inl ⟨_,h1,.same (i_ _)⟩,.inl ⟨_,h2,.same (cR _)⟩,.inl ⟨_,h3,.same (iu _)⟩,.inl ⟨_,h4,.same (iw _)⟩,.inl ⟨_,h5,.same (cR _)⟩,.inl ⟨_,h6,.same (iy _)⟩,
  .inl ⟨_,h7,.same (fun row hr a ha=>by obtain rfl:=List.mem_singleton.1 hr;exact Pure.b9 (pb t a ha))⟩,.inl ⟨_,h8,.arr (by exact⟨⟨.aB .v,.aB .v,.aB .v,.aB (Pure.b9 (bl _)),.ja,trivial⟩,trivial⟩)⟩,.inr mQ,trivial⟩
section
variable {w0:World}{ρ:Hd}
theorem Vk (sz:Nat):∀ (s:PS) (t:Tm) (kn:KN),fX t<=sz->na s->Jh s->eW t->jM t->pV s.N->s.N.length+fX t<=100000000000 ->
  aK Tryz.prog w0 339 [.pt 0 6 0 0,tm ρ t] (au (gS ρ s kn) 7) (iv (bH s t).2) (au (gY ρ 7 8 (bH s t).1 kn) 9):=by
 induction sz with
 |zero=>intro s t kn h;exfalso;obtain⟨k,i,n,a⟩:=t;rw [fX] at h;omega
 |succ sz ih =>
  rintro⟨N,vs,up,sh,ls⟩ ⟨k,i,n,a⟩ kn bh hV hF hw ha oW hB
  rw [jM] at ha
  have Vl:iS a:=by
   rw [eW] at hw
   split at hw
   ·rw [hw.2,iS];trivial
   ·exact hw.1
  have Vm:jR a:=ha.2.2
  rw [fX] at bh hB
  simp only at hB
  obtain⟨s',eD⟩:∃ s',s'=bH ⟨N,vs,up,sh,ls⟩ ⟨k,i,n,a⟩:=⟨_,rfl⟩
  rw [<-eD]
  rw [bH] at eD
  obtain⟨nl,eF⟩:∃ nl,nl=N.length:=⟨_,rfl⟩
  obtain⟨ul,lz⟩:∃ ul,ul=up.length:=⟨_,rfl⟩
  obtain⟨Pp,AG⟩:∃ Pp,Pp=s'.1.N.length:=⟨_,rfl⟩
  obtain⟨Pq,nR⟩:∃ Pq,Pq=s'.1.js.up.length:=⟨_,rfl⟩
  simp only [gS,gY,<-eF,<-lz,<-AG,<-nR]
  refine aT.fM 7 9 _ aef (by simp [Tryz.ntmps339]) rfl rfl ?_
  refine gq er ?_
  refine bq (fun hb=>?_) (fun hb=>?_)<;>(try simp only [aM] at hb)
  ·subst hb
   rw [if_pos rfl] at eD
   refine gq er ?_
   refine aa.GJ (ρ:=ρ) (f:=iv) (kv:=vs) rfl rfl rfl rfl (fun v hv=>?_) (fun hv=>?_)
   ·rw [hv] at eD
    simp only at eD
    obtain rfl:=eD
    have hv0:((v.toNat:Nat):Int)=v:=by
     have:=hV.vs i
     simp only [hv] at this
     cases hvn:lH N i with
     |none=>rw [hvn] at this;cases this
     |some j=>rw [hvn] at this;obtain rfl:=oJ_ this;rfl
    simp only at AG nR
    rw [hv0]
    obtain rfl:Pp=nl:=by rw [AG,eF]
    obtain rfl:Pq=ul:=by rw [nR,lz]
    refine gq er ?_
    refine fq ?_
    exact⟨[(7,1),(8,3)],.aB .v,Pk,rfl⟩
   ·rw [hv] at eD
    simp only at eD
    refine gq er ?_
    obtain⟨k,hk⟩:∃ k:Int,k=1:=⟨_,rfl⟩
    refine bL fun q hq=>?_
    rw [aF] at hq
    refine gq er ?_
    refine aa.bP (σ:=Int × PS × List Nat × Nat × Nat × Nat) 9 12 [(9,1),(10,3)] (fun p=>[(0,.pt 0 6 0 0),(3,.pt 7 4 0 0),(4,iv 0),(7,.pt 8 5 0 0),(29,tl ρ a),(30,iv q),(31,iv p.1)]) []
     (fun p=>[(0,nt 9 10 p.2.2.2.2.1 p.2.2.2.2.2),(9,dO ρ p.2.1.N),(2,bB ρ p.2.1.vs),(10,dP ρ p.2.1.js.up),(4,dQ ρ p.2.1.js.sh),(5,bB ρ p.2.1.js.ls),(6,dR ρ kn),(7,.arr 4 [lh ρ ⟨1,i,n,a⟩] 0 true),(8,.arr 5 [[iv 1,iv i,.v (.string n),tl ρ a,.gr 11 1 p.2.2.2.1]] 0 true),(11,.arr 1 (ρ.h (List.map iG) p.2.2.1) 0 false)])
     (fun p=>∃ m:Nat,p.1=m/\m<=a.length/\p.2.1=(cF ⟨N,vs,⟨up,sh,ls⟩⟩ (a.take m)).1/\p.2.2.1=(cF ⟨N,vs,⟨up,sh,ls⟩⟩ (a.take m)).2/\p.2.2.2.1=p.2.2.1.length/\p.2.2.2.2.1=p.2.1.N.length/\p.2.2.2.2.2=p.2.1.js.up.length) (fun p=>a.length - p.1.toNat)
     (0,⟨N,vs,⟨up,sh,ls⟩⟩,[],0,nl,ul) ⟨0,rfl,by simp,by simp [cF],by simp [cF],rfl,eF,lz⟩ rfl (by exact⟨sq,rfl,aa_,rfl,rfl,rfl⟩) ?_
    rintro⟨mi,⟨N1,kC,⟨fZ,jK,jx⟩⟩,rl,kl,n1,u1⟩ ⟨m,hm,GR,l_,fE,pY,nn,gL⟩
    simp only at hm GR l_ fE pY nn gL
    refine gq er ?_
    refine bq (fun eB=>?_) (fun eB=>?_)<;>(try simp only [aM] at eB)
    ·have cT:m < a.length:=by omega
     obtain⟨y,hy⟩:∃ y,a[m]?=some y:=⟨_,List.getElem?_eq_getElem cT⟩
     obtain⟨e1,e2,e3,e4,e5,e6,e7,e8⟩:=GQ hV hF Vl Vm oW hy
     rw [<-l_] at e1 e2 e5 e6 e7 e8
     rw [<-fE] at e8
     simp only at e5 e6
     have e9:fX y<=cN a:=q_ y (List.mem_of_getElem? hy)
     have c:=ih _ y kn (by omega) e1 e2 e3 e4 e5 (by simp only;omega)
     obtain⟨⟨⟨N2,uC,⟨ml,pT,pU⟩⟩,r2⟩,hp⟩:∃ p,p=bH ⟨N1,kC,⟨fZ,jK,jx⟩⟩ y:=⟨_,rfl⟩
     rw [<-hp] at c e7 e8
     obtain⟨n2,wb⟩:∃ n2,n2=N2.length:=⟨_,rfl⟩
     obtain⟨u2,iX⟩:∃ u2,u2=ml.length:=⟨_,rfl⟩
     rw [<-fQ nn gL.symm] at c
     have c':aK Tryz.prog w0 339 [.pt 0 6 0 0,tm ρ y] (au (gX ρ n1 u1 N1 kC fZ jK jx kn) 7) (iv (r2:Nat)) (au (Pm ρ n2 u2 N2 uC ml pT pU kn) 9):=by
      rw [wb,iX];exact c
     have akg:kl<=6:=by
      rw [pY,fE,x6,List.length_take];omega
     clear hp c
     refine gq er ?_
     refine aa.op rfl (ae.ind rfl rfl (lj (l:=a) hm hy) ll) ?_
     refine gq er ?_
     refine aa.lP rfl (bc.oK [(1,9),(3,10)] (gZ ρ 9 10 n1 u1 N1 kC fZ jK jx kn) (gW ρ 13 9 10 n2 u2 N2 uC ml pT pU kn) c' rfl ⟨.pt rfl rfl,.pure (cK y),trivial⟩ (.pure .v) x7 (fun T hT=>Pl hT) Vi) ?_
     refine gq er ?_
     refine aa.Vj r2 (f:=iG) rfl rfl rfl pY (fun _=>rfl) rfl rfl rfl (by omega) (fun rl' kl' RU RV=>?_)
     refine gq er ?_
     refine cr (fun m2 gH=>?_)
     refine gq er ?_
     refine aa.bm (σ:=Int × PS × List Nat × Nat × Nat × Nat) (m2,⟨N2,uC,⟨ml,pT,pU⟩⟩,rl',kl',n2,u2) [(9,20),(10,21),(11,29)] ⟨m+1,by simp only;omega,by omega,e7.symm,by simp only;rw [RU,e8],RV,wb,iX⟩ ?_ (by exact⟨sq,rfl,gCL,rfl,rfl,rfl⟩)
     simp only;omega
    ·have cT:m=a.length:=by omega
     rw [cT,List.take_of_length_le (Nat.le_refl _)] at l_ fE
     obtain⟨e1,e2,e5,e6⟩:=AF hV hF Vl Vm oW a.length
     rw [List.take_of_length_le (Nat.le_refl _),<-l_] at e1 e2 e5 e6
     rw [<-l_,<-fE] at eD
     simp only at e5 e6 eD
     refine gq er ?_
     refine aa.aR ?_
     refine gq er ?_
     refine aa.TR (Cv.aa1 (kb:=8) (k:=11) (j:=4) (m:=kl) rfl rfl (by decide) rfl (by rw [aF];exact pY)) ?_
     refine aa.int rfl (ae.qk rfl) fun e he=>?_
     subst he
     refine gq er ?_
     refine aa.aa2 ((⟨1,i,n,a⟩:Tm),rl) (f:=qD ρ) rfl rfl rfl nn (fun _=>rfl) rfl rfl rfl (by omega) (fun N3 n3 hN3 Ep=>?_)
     refine gq er ?_
     have hun:u1=n1:=by rw [gL,nn];exact e1.up
     refine aa.app (x:=n1) (f:=iG) rfl rfl rfl gL (fun _=>rfl) rfl rfl rfl rfl (by omega) (fun BY u3 RW qE=>?_)
     refine gq er ?_
     refine bq (fun uD=>?_) (fun uD=>?_)<;>(try simp only [aM] at uD)
     rotate_left
     ·exact absurd trivial uD
     refine gq er ?_
     have FO:a=[]:=by rw [eW,if_pos rfl] at hw;exact hw.2
     have hvs:kC=vs:=by rw [FO,cF] at l_;exact congrArg PS.vs l_
     have hv1:aD kC i=none:=by rw [hvs];exact hv
     have vX:aD jx (n1:Int)=none:=by rw [nn];exact e2 _ (Nat.le_refl _)
     refine aa.Uw (ρ:=ρ) (f:=iv) (kv:=kC) (z0:=(0:Int)) rfl rfl rfl rfl rfl hv1 (fun V2 j hV2 hj=>?_)
     refine gq er ?_
     refine aa.Ux (ρ:=ρ) (f:=iv) (kv:=V2) (v:=(n1:Int)) rfl rfl rfl rfl rfl hV2 hj (fun V3 hV3=>?_)
     refine gq er ?_
     refine aa.Uw (ρ:=ρ) (f:=iv) (kv:=jx) (z0:=(0:Int)) rfl rfl rfl rfl rfl vX (fun L2 j2 N7 eN=>?_)
     refine gq er ?_
     refine aa.Ux (ρ:=ρ) (f:=iv) (kv:=L2) (v:=i) rfl rfl rfl rfl rfl N7 eN (fun L3 hL3=>?_)
     refine gq er ?_
     refine fq ?_
     have oT:s'=(⟨N3,V3,⟨BY,jK,L3⟩⟩,n1):=by
      rw [eD,hN3,hV3,RW,hL3,nn]
      rw [nn] at vX
      simp only [fP,if_true,pS hv1,pS vX]
      rfl
     subst oT
     simp only at AG nR
     obtain rfl:Pp=n3:=by rw [AG,Ep]
     obtain rfl:Pq=u3:=by rw [nR,qE]
     exact⟨[(7,12),(8,13)],.aB .v,Pk,rfl⟩
  ·rw [if_neg hb] at eD
   simp only at eD
   refine gq er ?_
   refine bL fun q hq=>?_
   rw [aF] at hq
   refine gq er ?_
   refine aa.bP (σ:=Int × PS × List Nat × Nat × Nat × Nat) 9 12 [(9,1),(10,3)] (fun p=>[(0,.pt 0 6 0 0),(3,.pt 7 4 0 0),(4,iv 0),(7,.pt 8 5 0 0),(29,tl ρ a),(30,iv q),(31,iv p.1)]) []
    (fun p=>[(0,nt 9 10 p.2.2.2.2.1 p.2.2.2.2.2),(9,dO ρ p.2.1.N),(2,bB ρ p.2.1.vs),(10,dP ρ p.2.1.js.up),(4,dQ ρ p.2.1.js.sh),(5,bB ρ p.2.1.js.ls),(6,dR ρ kn),(7,.arr 4 [lh ρ ⟨k,i,n,a⟩] 0 true),(8,.arr 5 [[iv k,iv i,.v (.string n),tl ρ a,.gr 11 1 p.2.2.2.1]] 0 true),(11,.arr 1 (ρ.h (List.map iG) p.2.2.1) 0 false)])
    (fun p=>∃ m:Nat,p.1=m/\m<=a.length/\p.2.1=(cF ⟨N,vs,⟨up,sh,ls⟩⟩ (a.take m)).1/\p.2.2.1=(cF ⟨N,vs,⟨up,sh,ls⟩⟩ (a.take m)).2/\p.2.2.2.1=p.2.2.1.length/\p.2.2.2.2.1=p.2.1.N.length/\p.2.2.2.2.2=p.2.1.js.up.length) (fun p=>a.length - p.1.toNat)
    (0,⟨N,vs,⟨up,sh,ls⟩⟩,[],0,nl,ul) ⟨0,rfl,by simp,by simp [cF],by simp [cF],rfl,eF,lz⟩ rfl (by exact⟨sq,rfl,aa_,rfl,rfl,rfl⟩) ?_
   rintro⟨mi,⟨N1,kC,⟨fZ,jK,jx⟩⟩,rl,kl,n1,u1⟩ ⟨m,hm,GR,l_,fE,pY,nn,gL⟩
   simp only at hm GR l_ fE pY nn gL
   refine gq er ?_
   refine bq (fun eB=>?_) (fun eB=>?_)<;>(try simp only [aM] at eB)
   ·have cT:m < a.length:=by omega
    obtain⟨y,hy⟩:∃ y,a[m]?=some y:=⟨_,List.getElem?_eq_getElem cT⟩
    obtain⟨e1,e2,e3,e4,e5,e6,e7,e8⟩:=GQ hV hF Vl Vm oW hy
    rw [<-l_] at e1 e2 e5 e6 e7 e8
    rw [<-fE] at e8
    simp only at e5 e6
    have e9:fX y<=cN a:=q_ y (List.mem_of_getElem? hy)
    have c:=ih _ y kn (by omega) e1 e2 e3 e4 e5 (by simp only;omega)
    obtain⟨⟨⟨N2,uC,⟨ml,pT,pU⟩⟩,r2⟩,hp⟩:∃ p,p=bH ⟨N1,kC,⟨fZ,jK,jx⟩⟩ y:=⟨_,rfl⟩
    rw [<-hp] at c e7 e8
    obtain⟨n2,wb⟩:∃ n2,n2=N2.length:=⟨_,rfl⟩
    obtain⟨u2,iX⟩:∃ u2,u2=ml.length:=⟨_,rfl⟩
    rw [<-fQ nn gL.symm] at c
    have c':aK Tryz.prog w0 339 [.pt 0 6 0 0,tm ρ y] (au (gX ρ n1 u1 N1 kC fZ jK jx kn) 7) (iv (r2:Nat)) (au (Pm ρ n2 u2 N2 uC ml pT pU kn) 9):=by
     rw [wb,iX];exact c
    have akg:kl<=6:=by
     rw [pY,fE,x6,List.length_take];omega
    clear hp c
    refine gq er ?_
    refine aa.op rfl (ae.ind rfl rfl (lj (l:=a) hm hy) ll) ?_
    refine gq er ?_
    refine aa.lP rfl (bc.oK [(1,9),(3,10)] (gZ ρ 9 10 n1 u1 N1 kC fZ jK jx kn) (gW ρ 13 9 10 n2 u2 N2 uC ml pT pU kn) c' rfl ⟨.pt rfl rfl,.pure (cK y),trivial⟩ (.pure .v) x7 (fun T hT=>Pl hT) Vi) ?_
    refine gq er ?_
    refine aa.Vj r2 (f:=iG) rfl rfl rfl pY (fun _=>rfl) rfl rfl rfl (by omega) (fun rl' kl' RU RV=>?_)
    refine gq er ?_
    refine cr (fun m2 gH=>?_)
    refine gq er ?_
    refine aa.bm (σ:=Int × PS × List Nat × Nat × Nat × Nat) (m2,⟨N2,uC,⟨ml,pT,pU⟩⟩,rl',kl',n2,u2) [(9,20),(10,21),(11,29)] ⟨m+1,by simp only;omega,by omega,e7.symm,by simp only;rw [RU,e8],RV,wb,iX⟩ ?_ (by exact⟨sq,rfl,gCL,rfl,rfl,rfl⟩)
    simp only;omega
   ·have cT:m=a.length:=by omega
    rw [cT,List.take_of_length_le (Nat.le_refl _)] at l_ fE
    obtain⟨e1,e2,e5,e6⟩:=AF hV hF Vl Vm oW a.length
    rw [List.take_of_length_le (Nat.le_refl _),<-l_] at e1 e2 e5 e6
    rw [<-l_,<-fE] at eD
    simp only at e5 e6 eD
    refine gq er ?_
    refine aa.aR ?_
    refine gq er ?_
    refine aa.TR (Cv.aa1 (kb:=8) (k:=11) (j:=4) (m:=kl) rfl rfl (by decide) rfl (by rw [aF];exact pY)) ?_
    refine aa.int rfl (ae.qk rfl) fun e he=>?_
    subst he
    refine gq er ?_
    refine aa.aa2 ((⟨k,i,n,a⟩:Tm),rl) (f:=qD ρ) rfl rfl rfl nn (fun _=>rfl) rfl rfl rfl (by omega) (fun N3 n3 hN3 Ep=>?_)
    refine gq er ?_
    have hun:u1=n1:=by rw [gL,nn];exact e1.up
    refine aa.app (x:=n1) (f:=iG) rfl rfl rfl gL (fun _=>rfl) rfl rfl rfl rfl (by omega) (fun BY u3 RW qE=>?_)
    refine gq er ?_
    refine bq (fun uD=>?_) (fun uD=>?_)<;>(try simp only [aM] at uD)
    ·exact absurd uD hb
    refine gq er ?_
    refine aa.jf (ρ:=ρ) (f:=iv) (kv:=jK) (v:=(n1:Int)) rfl rfl rfl rfl rfl (fun SH3 akh=>?_)
    refine gq er ?_
    refine fq ?_
    have oT:s'=(⟨N3,kC,⟨BY,SH3,jx⟩⟩,n1):=by
     rw [eD,hN3,RW,akh,nn]
     simp only [fP,if_neg hb]
     rfl
    subst oT
    simp only at AG nR
    obtain rfl:Pp=n3:=by rw [AG,Ep]
    obtain rfl:Pq=u3:=by rw [nR,qE]
    exact⟨[(7,12),(8,13)],.aB .v,Pk,rfl⟩
end
end
section
set_option maxRecDepth 100000
attribute [local irreducible] ah aK ae aa
def Vn:CF Tryz.f337:=⟨_,by conv=>lhs;cbv⟩
theorem aeg:aT Tryz.prog 337 Vn.1 Tryz.f337.ntmps:=bX Tryz.func337 Vn.2 Tryz.call337
def GU:List Nat:=[0]
section
variable {w0:World}{ρ:Hd}
theorem KF:aK Tryz.prog w0 337 [] (au [] 0) (.pt 0 6 0 0) (au (gS ρ ⟨[],[],⟨[],[],[]⟩⟩ []) 7):=by
 refine aT.fM 0 7 _ aeg (by simp [Tryz.ntmps337]) rfl rfl ?_
 refine gq GU ?_
 refine aa.Bt ρ iv rfl (fun k1 h1=>?_)
 refine gq GU ?_
 refine aa.fk ρ iv rfl (fun k2 h2=>?_)
 refine gq GU ?_
 refine aa.Bt ρ iv rfl (fun k3 h3=>?_)
 refine gq GU ?_
 refine aa.fk ρ zH rfl (fun k4 h4=>?_)
 refine gq GU ?_
 refine fq ?_
 subst h1 h2 h3 h4
 exact⟨[(0,4),(1,5),(2,0),(3,6),(4,1),(5,2),(6,3)],.l5 rfl rfl,⟨.inl ⟨_,rfl,.arr (by exact⟨⟨.ja,.o7 rfl rfl,.ja,.o7 rfl rfl,.o7 rfl rfl,.o7 rfl rfl,trivial⟩,trivial⟩)⟩,.inr rfl,.inl ⟨_,rfl,.same (cR _)⟩,.inr rfl,.inl ⟨_,rfl,.same (iw _)⟩,.inl ⟨_,rfl,.same (cR _)⟩,.inl ⟨_,rfl,.same (iy _)⟩,trivial⟩,rfl⟩
end
structure GI (s:PS):Prop where
 V:na s
 F:Jh s
 A:pV s.N
 G:jt s.N
theorem GI.add {s:PS}{t:Tm}(h:GI s) (hw:eW t) (ha:jM t):GI (bH s t).1/\(bH s t).1.N.length<=s.N.length+fX t:=by
 obtain⟨h1,h2,h3,h4⟩:=nZ s t h.V hw
 obtain⟨k1,k2⟩:=yW s.N t h.A ha
 obtain⟨x1,_,_⟩:=yL s.N t h.G hw
 rw [<-h1] at k1 k2 x1
 exact⟨⟨h3,fun C hC=>by rw [h4.xL C hC];exact h.F C (Nat.le_trans h4.le hC),k1,x1.g⟩,k2⟩
theorem BZ {ls:List (Int × Int)}{a b L:Nat}(ha:a < L) (h:∀ C:Nat,L<=C->aD ls (C:Int)=none):∀ C:Nat,L<=C->aD (iL ls a b) (C:Int)=none:=by
 intro C hC
 have key:∀ v,aD (eV ls (a:Int) v) (C:Int)=none:=fun v=>by rw [bZ,if_neg (by omega)];exact h C hC
 unfold iL
 split
 ·split
  ·split
   ·exact key _
   ·exact h C hC
  ·exact key _
 ·exact h C hC
theorem tc {N:bj}:∀ {m:Nat}{ps:List (Nat × Nat)}{s s':JS}{b:Bool},fl N m ps s=some (b,s')->∀ {L:Nat},s.up.length=L->(∀ C:Nat,L<=C->aD s.ls (C:Int)=none)->∀ C:Nat,L<=C->aD s'.ls (C:Int)=none
 |0,_,_,_,_,h,_,_,_=>by cases h
 |m+1,ps,s,s',b,h,L,hL,hf=>by
  rw [fl] at h
  split at h
  ·cases h
  ·split at h
   ·simp only [oI_,pI_] at h;rw [<-h.2];exact hf
   ·split at h
    ·cases h
    ·rename_i u1 a h1
     split at h
     ·cases h
     ·rename_i u2 b2 h2
      have e1:=f_ h1
      have e2:=f_ h2
      have ea:a < L:=by have:=GN h1;omega
      split at h
      ·exact tc h (by simp only;omega) hf
      ·split at h
       ·split at h
        ·split at h
         ·split at h
          ·split at h
           ·exact tc h (by simp only [List.length_set];omega) (BZ ea hf)
           ·cases h
          ·simp only [oI_,pI_] at h;rw [<-h.2];exact hf
         ·cases h
        ·cases h
       ·exact tc h (by simp only [List.length_set];omega) (BZ ea hf)
theorem GI.join {s:PS}{m:Nat}{ps:List (Nat × Nat)}{j:JS}{b:Bool}(h:GI s) (hj:fl s.N m ps s.js=some (b,j)):GI ⟨s.N,s.vs,j⟩ :=
 ⟨⟨h.V.vs,by rw [n_ hj];exact h.V.up,h.V.nd⟩,fun C hC=>tc hj h.V.up h.F C hC,h.A,h.G⟩
theorem GI.nil:GI ⟨[],[],⟨[],[],[]⟩⟩:=⟨⟨fun v=>rfl,rfl,List.nodup_nil⟩,fun C _=>rfl,fun i hi=>(by cases hi),Ef⟩
end
end Go.Proofs.YtgjfgekaclobaaaGreat
