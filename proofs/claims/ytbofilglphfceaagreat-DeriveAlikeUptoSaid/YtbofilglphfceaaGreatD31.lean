import Derived.Test.YtbofilglphfceaaGreatD29
import Derived.Test.YtbofilglphfceaaGreatD30
namespace Go.Proofs.YtbofilglphfceaaGreat
set_option linter.unusedVariables false
set_option linter.unusedSimpArgs false
open Go.RowKit
def Ee (n:Nat) (s:XS) (a b:AV):Option XS:=match a with
 |.pt k sz i j=>match (cS s).get k with
  |some (.arr sz' rows 0 ex)=>match Nat.beq sz sz' && dA bp (aA b) && Nat.beq n (aA b).length with
   |true=>match rows[i]? with
    |some row=>match Nat.ble (j+(aA b).length) row.length with
     |true=>some (h_ s k (some (.arr sz (rows.set i (ib row j (aA b))) 0 ex)))
     |false=>none
    |none=>none
   |false=>none
  |_=>none
 |_=>none
def yP (sz by_:Nat) (s:XS) (a b:AV):Option (AV × XS):=match cu (cS s) b with
 |none=>none
 |some more=>match cI s.yk s.nx with
  |true=>none
  |false=>match a with
   |.sl true rows=>match more with
    |[]=>some (.sl true rows,s)
    |x::more=>match fE sz rows && fE sz (x::more) && Nat.ble ((rows.length+(x::more).length)*by_) 35184372088832 with
     |true=>some (.ob s.nx sz 0 (rows.length+(x::more).length) none,gj s (.arr sz (rows++x::more) 0 false))
     |false=>none
   |.ob k sz' off len cx=>match (cS s).get k with
    |some (.arr dK rows fz ex)=>match more with
     |[]=>match off,cx,Nat.beq dK sz' with
      |0,none,true=>some (.ob k sz' 0 len none,s)
      |_,_,_=>none
     |x::more=>match Nat.beq dK sz && Nat.beq sz' sz && fE sz (x::more) && lL bp (x::more) && Nat.ble ((len+(x::more).length)*by_) 35184372088832 && Nat.ble fz len && Nat.ble (off+len) rows.length with
      |true=>match cx with
       |none=>match off with
        |0=>some (.ob s.nx sz 0 (len+(x::more).length) none,gj (h_ s k none) (.arr sz (rows.take len++x::more) fz false))
        |_=>none
       |some c=>match Nat.beq c len with
        |true=>some (.ob s.nx sz 0 (len+(x::more).length) none,gj s (.arr sz ((rows.drop off).take len++x::more) 0 false))
        |false=>none
      |false=>none
    |_=>none
   |_=>none
def rS:List (Value × AV)->Bool
 |[]=>true
 |(.int .i64 _,_)::l=>rS l
 |_=>false
def lu (dr:Bool) (q:cj) (f:Nat->AV) (s:XS):Option (AV × XS) :=
 match q with
 |.load k x=>match fY k (cS s) (x.ev f) with
  |some a=>some (a,s)
  |none=>none
 |.alloc cs=>match cI s.yk s.nx with
  |false=>some (.pt s.nx cs.length 0 0,gj s (.arr cs.length [cs] 0 true))
  |true=>none
 |.box x=>match cI s.yk s.nx,dA bp (aA (x.ev f)) with
  |false,true=>some (.pt s.nx (aA (x.ev f)).length 0 0,gj s (.arr (aA (x.ev f)).length [aA (x.ev f)] 0 true))
  |_,_=>none
 |.store n x b=>match Ee n s (x.ev f) (b.ev f) with
  |some s'=>some (.v undef,s')
  |none=>none
 |.append sz by_ a b=>yP sz by_ s (a.ev f) (b.ev f)
 |.eB z by_ l c=>match l.ev f,c.ev f with
  |.v (.int _ i),.v (.int _ j)=>match decide (0<=i/\i=j/\i*by_<=35184372088832/\i<=9223372036854775807) && !cI s.yk s.nx with
   |true=>some (.ob s.nx z.length 0 i.toNat none,gj s (.arr z.length (List.replicate i.toNat z) 0 true))
   |false=>none
  |_,_=>none
 |.jZ x=>match dr,cI s.yk s.nx,x with
  |false,false,none=>some (.mp s.nx,gj s (.mp []))
  |false,false,some x=>match x.ev f with
   |.v (.int _ _)=>some (.mp s.nx,gj s (.mp []))
   |_=>none
  |_,_,_=>none
 |.look z c x i=>match dr,x.ev f,i.ev f with
  |false,.mp k,.v (.int .i64 m)=>match (cS s).get k with
   |some (.mp es)=>match rS es with
    |true=>some ((match uo es m with|some a=>(if c then .aL [a,.v (.bool true)] else a)|none=>(if c then .aL [z,.v (.bool false)] else z)),s)
    |false=>none
   |_=>none
  |_,_,_=>none
 |.mu x i b=>match x.ev f,i.ev f with
  |.mp k,.v (.int .i64 m)=>match (cS s).get k with
   |some (.mp es)=>match rS es with
    |true=>some (.v undef,h_ s k (some (.mp (uE es m (b.ev f)))))
    |false=>none
   |_=>none
  |_,_=>none
 |.ot x=>match x.ev f,cI s.yk s.nx with
  |.v (.string z),false=>some (.pt s.nx 0 0 0,gj s (.si z 0))
  |_,_=>none
 |.po x=>match x.ev f with
  |.pt k _ 0 0=>match (cS s).get k with
   |some (.si z pos)=>match Nat.blt pos z.size with
    |true=>some (.aL [.v (.bool true),.v (.int .i64 pos),.v (.int .i32 (Utf8.decode z pos).1)],h_ s k (some (.si z (pos+(Utf8.decode z pos).2))))
    |false=>some (.aL [.v (.bool false)],s)
   |_=>none
  |_=>none
 |q=>match lM dr q f with
  |some r=>some (r,s)
  |none=>none
section
variable {P:Program}{w0:World}{o:Op}{α:AA}{S S':U}{r:AV}{dr:Bool}
theorem xK {F:AV->Bool}:∀ {l:List AV},dA F l=true->l.all F=true:=fun h=>List.all_eq_true.2 (cr h)
theorem aa.SM {n:Nat}{x b:QO}{k sz i j:Nat}{ex:Bool}{rows:List (List AV)}{row:List AV}(hx:x.ev α.tm=.pt k sz i j) (hk:S.get k=some (.arr sz rows 0 ex)) (hc:(aA (b.ev α.tm)).all bp=true) (hn:n=(aA (b.ev α.tm)).length) (hi:rows[i]?=some row)
  (hj:j+(aA (b.ev α.tm)).length<=row.length):aa P w0 dr (.store n x b) α S (.v undef) (S.set k (some (.arr sz (rows.set i (ib row j (aA (b.ev α.tm)))) 0 ex))):=by
 refine aa.of rfl fun o hr=>?_
 cases o<;>simp only [res,cA] at hr<;>(repeat' split at hr)<;>(try cases hr)
 rename_i hs
 rw [ay] at hx hc hn hj ⊢
 simp only [aE,hx]
 refine aD.mk (a:=_) ?_ ⟨rfl,rfl⟩
 simp only [iq,hk,hs,hc,hn,Nat.beq_refl,Bool.and_self,hi,Nat.ble_eq_true_of_le hj]
theorem aa.Qv {sz by_ k fz off len c:Nat}{ex:Bool}{a b:QO}{rows more:List (List AV)}{x:List AV}(h1:a.ev α.tm=.ob k sz off len (some c)) (hk:S.get k=some (.arr sz rows fz ex)) (hm:cu S (b.ev α.tm)=some (x::more)) (h0:c=len) (h2:off+len<=rows.length)
  (h3:∀ row ∈ x::more,row.length=sz) (h4:(len+(x::more).length)*by_<=35184372088832) :
  aa P w0 dr (.append sz by_ a b) α S (.ob S.nx sz 0 (len+(x::more).length) none) (S.new (.arr sz ((rows.drop off).take len++x::more) 0 false)):=by
 refine aa.append (bX hm).1 (bX hm).2 fun e z hz hs hb hp=>?_
 rw [h1]
 simp only [eV]
 refine aD.mk (lD hk) ?_
 simp only [hs,hb,hp,Nat.beq_refl,Bool.and_self,Bool.true_and]
 exact⟨h0,h2,h3,h4,rfl,rfl⟩
theorem oQ:∀ {es:List (Value × AV)},rS es=true->m9 es:=by
 intro es
 induction es with
 |nil=>intro h;intro p hp;cases hp
 |cons p es ih =>
  intro h
  obtain⟨v,a⟩:=p
  intro p hp
  unfold rS at h
  split at h
  ·cases ‹_::_=[]›
  ·rename_i e
   injection e with e1 e2
   injection e1 with e3 e4
   subst e2 e3 e4
   rcases List.mem_cons.1 hp with rfl|hp
   ·exact⟨_,rfl⟩
   ·exact ih h p hp
  ·cases h
section
variable {J:FJ}{s:XS}
theorem rT {k:LK}{a r:AV}(h:fY k (cS s) a=some r):fY k (den J s) a=some r:=by
 unfold fY at h ⊢
 split at h
 ·exact h
 ·split at h
  ·rename_i hk
   rw [(cg (J:=J) hk).1]
   exact h
  ·cases h
 ·cases h
theorem ep {b:AV}{l:List (List AV)}(h:cu (cS s) b=some l):cu (den J s) b=some l:=by
 obtain⟨h1,h2⟩:=bX h
 have key:rowsOf (den J s) b=some l:=by
  unfold rowsOf at h1 ⊢
  split at h1
  ·exact h1
  ·split at h1
   ·rename_i hk
    rw [(cg (J:=J) hk).1]
    exact h1
   ·cases h1
  all_goals first|exact h1|cases h1
 unfold cu
 rw [key,h2]
 simp only [Nat.beq_refl]
end
theorem yQ {n:Nat}{x b:QO}{f:Nat->AV}{df:List Nat}{s s':XS}(h:Ee n s (x.ev f) (b.ev f)=some s'):(∀ J,aa P w0 dr (.store n x b) ⟨f,df⟩ (den J s) (.v undef) (den J s'))/\cE s s'/\s'.lg=s.lg:=by
 unfold Ee at h
 split at h
 ·rename_i k sz i j hx
  split at h
  ·rename_i sz' rows ex hk
   split at h
   ·rename_i hc
    simp only [Bool.and_eq_true] at hc
    obtain⟨⟨h1,h2⟩,h3⟩:=hc
    have h1:=Nat.eq_of_beq_eq_true h1
    have h3:=Nat.eq_of_beq_eq_true h3
    subst h1
    split at h
    ·rename_i row hi
     split at h
     ·rename_i hj
      have hj:=Nat.le_of_ble_eq_true hj
      obtain rfl:=Option.some.inj h
      refine⟨fun J=>?_,.wr,rfl⟩
      obtain⟨iY,gS⟩:=cg (J:=J) hk
      rw [gk gS]
      exact aa.SM hx iY (xK h2) h3 hi hj
     ·cases h
    ·cases h
   ·cases h
  ·cases h
 ·cases h
theorem rU {sz by_:Nat}{a b:QO}{f:Nat->AV}{df:List Nat}{s s':XS}(h:yP sz by_ s (a.ev f) (b.ev f)=some (r,s')):(∀ J,aa P w0 dr (.append sz by_ a b) ⟨f,df⟩ (den J s) r (den J s'))/\cE s s'/\s'.lg=s.lg:=by
 unfold yP at h
 split at h
 ·cases h
 ·rename_i more hm
  split at h
  ·cases h
  ·rename_i Jw
   split at h
   ·rename_i rows ha
    split at h
    ·simp only [Option.some.injEq,Prod.mk.injEq] at h
     obtain⟨rfl,rfl⟩:=h
     exact⟨fun J=>aa.yA ha (ep hm),.refl _,rfl⟩
    ·rename_i x more
     split at h
     ·rename_i hc
      simp only [Bool.and_eq_true] at hc
      obtain⟨⟨h1,h2⟩,h3⟩:=hc
      simp only [Option.some.injEq,Prod.mk.injEq] at h
      obtain⟨rfl,rfl⟩:=h
      refine⟨fun J=>?_,.nw,rfl⟩
      rw [eI Jw]
      exact aa.uP ha (ep hm) (dp h1) (dp h2) (Nat.le_of_ble_eq_true h3)
     ·cases h
   ·rename_i k sz' off len cx ha
    split at h
    ·rename_i dK rows fz ex hk
     split at h
     ·split at h
      ·rename_i hb
       have hb:=Nat.eq_of_beq_eq_true hb
       subst hb
       simp only [Option.some.injEq,Prod.mk.injEq] at h
       obtain⟨rfl,rfl⟩:=h
       exact⟨fun J=>aa.uu ha (cg (J:=J) hk).1 (ep hm),.refl _,rfl⟩
      ·cases h
     ·rename_i x more
      split at h
      ·rename_i hc
       simp only [Bool.and_eq_true] at hc
       obtain⟨⟨⟨⟨⟨⟨h1,h2⟩,h3⟩,h4⟩,h5⟩,h6⟩,h7⟩:=hc
       have h1:=Nat.eq_of_beq_eq_true h1
       have h2:=Nat.eq_of_beq_eq_true h2
       have h3:=dp h3
       have h4:=fU h4
       have h5:=Nat.le_of_ble_eq_true h5
       have h6:=Nat.le_of_ble_eq_true h6
       have h7:=Nat.le_of_ble_eq_true h7
       subst h1 h2
       split at h
       ·split at h
        ·simp only [Option.some.injEq,Prod.mk.injEq] at h
         obtain⟨rfl,rfl⟩:=h
         refine⟨fun J=>?_,cE.wr.trans .nw,rfl⟩
         obtain⟨iY,gS⟩:=cg (J:=J) hk
         rw [eI (s:=h_ s k none) Jw,gk gS]
         exact aa.yB ha iY (ep hm) h6 (by omega) (fun row hr=>⟨h3 row hr,List.all_eq_true.2 (h4 row hr)⟩) h5
        ·cases h
       ·split at h
        ·rename_i hc
         have hc:=Nat.eq_of_beq_eq_true hc
         simp only [Option.some.injEq,Prod.mk.injEq] at h
         obtain⟨rfl,rfl⟩:=h
         refine⟨fun J=>?_,.nw,rfl⟩
         rw [eI Jw]
         exact aa.Qv ha (cg (J:=J) hk).1 (ep hm) hc h7 h3 h5
        ·cases h
      ·cases h
    ·cases h
   ·cases h
theorem CN {q:cj}{f:Nat->AV}{df:List Nat}{s s':XS}(h:lu dr q f s=some (r,s')):(∀ J,aa P w0 dr q ⟨f,df⟩ (den J s) r (den J s'))/\cE s s'/\s'.lg=s.lg:=by
 have pure:∀ {q:cj},(match lM dr q f with|some r=>some (r,s)|none=>none)=some (r,s')->(∀ J,aa P w0 dr q ⟨f,df⟩ (den J s) r (den J s'))/\cE s s'/\s'.lg=s.lg:=fun {q} h=>by
  split at h
  ·rename_i r' hq
   simp only [Option.some.injEq,Prod.mk.injEq] at h
   obtain⟨rfl,rfl⟩:=h
   exact⟨fun J=>tN hq,.refl _,rfl⟩
  ·cases h
 cases q with
 |load k x =>
  simp only [lu] at h
  split at h
  ·rename_i a ha
   simp only [Option.some.injEq,Prod.mk.injEq] at h
   obtain⟨rfl,rfl⟩:=h
   exact⟨fun J=>aa.quiet (by simp only [dY,rT ha]),.refl _,rfl⟩
  ·cases h
 |alloc cs =>
  simp only [lu] at h
  split at h
  ·rename_i hy
   simp only [Option.some.injEq,Prod.mk.injEq] at h
   obtain⟨rfl,rfl⟩:=h
   refine⟨fun J=>aa.quiet ?_,.nw,rfl⟩
   rw [eI hy]
   simp only [dY,jJ]
   rfl
  ·cases h
 |box x =>
  simp only [lu] at h
  split at h
  ·rename_i hy hc
   simp only [Option.some.injEq,Prod.mk.injEq] at h
   obtain⟨rfl,rfl⟩:=h
   refine⟨fun J=>aa.quiet ?_,.nw,rfl⟩
   rw [eI hy]
   simp only [dY,jJ,xK hc]
   rfl
  ·cases h
 |store n x b =>
  simp only [lu] at h
  split at h
  ·rename_i s1 hs
   simp only [Option.some.injEq,Prod.mk.injEq] at h
   obtain⟨rfl,rfl⟩:=h
   exact yQ hs
  ·cases h
 |append sz by_ a b=>exact rU h
 |eB z by_ l c =>
  simp only [lu] at h
  split at h
  ·rename_i k1 i k2 j hl hc
   split at h
   ·rename_i hd
    simp only [Bool.and_eq_true,Bool.not_eq_true'] at hd
    have dT:=of_decide_eq_true hd.1
    simp only [Option.some.injEq,Prod.mk.injEq] at h
    obtain⟨rfl,rfl⟩:=h
    refine⟨fun J=>?_,.nw,rfl⟩
    rw [eI hd.2]
    exact aa.FM hl hc dT.1 dT.2.1 dT.2.2.1 dT.2.2.2
   ·cases h
  ·cases h
 |jZ x =>
  simp only [lu] at h
  split at h
  ·rename_i hy
   simp only [Option.some.injEq,Prod.mk.injEq] at h
   obtain⟨rfl,rfl⟩:=h
   refine⟨fun J=>?_,.nw,rfl⟩
   rw [eI hy]
   exact aa.jZ
  ·rename_i y hy
   split at h
   ·rename_i hx
    simp only [Option.some.injEq,Prod.mk.injEq] at h
    obtain⟨rfl,rfl⟩:=h
    refine⟨fun J=>?_,.nw,rfl⟩
    rw [eI hy]
    exact aa.IY hx
   ·cases h
  ·cases h
 |look z c x i =>
  simp only [lu] at h
  split at h
  ·rename_i k m hx hi
   split at h
   ·rename_i es hk
    split at h
    ·rename_i he
     simp only [Option.some.injEq,Prod.mk.injEq] at h
     obtain⟨rfl,rfl⟩:=h
     exact⟨fun J=>aa.look hx (cg (J:=J) hk).1 (oQ he) hi,.refl _,rfl⟩
    ·cases h
   ·cases h
  ·cases h
 |mu x i b =>
  simp only [lu] at h
  split at h
  ·rename_i k m hx hi
   split at h
   ·rename_i es hk
    split at h
    ·rename_i he
     simp only [Option.some.injEq,Prod.mk.injEq] at h
     obtain⟨rfl,rfl⟩:=h
     refine⟨fun J=>?_,.wr,rfl⟩
     obtain⟨iY,gS⟩:=cg (J:=J) hk
     rw [gk gS]
     cases dr with
     |false=>exact aa.mu hx iY (oQ he) hi rfl
     |true=>exact aa.LF hx iY (oQ he) hi rfl
    ·cases h
   ·cases h
  ·cases h
 |ot x =>
  simp only [lu] at h
  split at h
  ·rename_i z hx hy
   simp only [Option.some.injEq,Prod.mk.injEq] at h
   obtain⟨rfl,rfl⟩:=h
   refine⟨fun J=>?_,.nw,rfl⟩
   rw [eI hy]
   exact aa.P8 hx
  ·cases h
 |po x =>
  simp only [lu] at h
  split at h
  ·rename_i k sz hx
   split at h
   ·rename_i z pos hk
    split at h
    ·rename_i hp
     simp only [Option.some.injEq,Prod.mk.injEq] at h
     obtain⟨rfl,rfl⟩:=h
     refine⟨fun J=>?_,.wr,rfl⟩
     obtain⟨iY,gS⟩:=cg (J:=J) hk
     rw [gk gS]
     exact aa.P9 hx iY (dI hp)
    ·rename_i hp
     simp only [Option.some.injEq,Prod.mk.injEq] at h
     obtain⟨rfl,rfl⟩:=h
     refine⟨fun J=>aa.P_ hx (cg (J:=J) hk).1 ?_,.refl _,rfl⟩
     rcases Nat.lt_or_ge pos z.size with h1|h1
     ·have:Nat.blt pos z.size=true:=Nat.ble_eq_true_of_le h1
      rw [this] at hp;cases hp
     ·exact h1
   ·cases h
  ·cases h
 |_=>exact pure h
end
section
variable {P:Program}{w0:World}{n B:Nat}{α:AA}{S:U}{dr:Bool}
theorem o3 {o:Oper}{sz by_:Nat}{a b:QO}{ex:Bool}{rows:List (List AV)}(hr:res P.toTables o.op=some (.append sz by_ a b)) (ha:a.ev α.tm=.sl ex rows) (hb:cu S (b.ev α.tm)=some []):aC P w0 n o α S (.sl ex rows) S:=by
 obtain⟨c,t,t2,u,v,e,e2,z,ho,hc,cV,aH,rfl,rfl,ht,cR,hz,hs,eH,fe,Gr⟩:=gw hr
 rw [ay] at ha hb
 obtain⟨hm,hlen⟩:=bX hb
 have cV:c.argTypes=#[t,t2]:=by rw [<-Array.toArray_toList (xs:=c.argTypes),cV]
 have aH:c.args=#[u,v]:=by rw [<-Array.toArray_toList (xs:=c.args),aH]
 have ht:P.underlying t=some (.slice e):=by
  unfold du at ht
  split at ht
  ·obtain rfl:=Option.some.inj ht;assumption
  ·cases ht
 have cR:P.underlying t2=some (.slice e2):=by
  unfold du at cR
  split at cR
  ·obtain rfl:=Option.some.inj cR;assumption
  ·cases cR
 refine aC.quiet fun A g q w hS hA=>?_
 have h1:=hA.ev u
 have h2:=hA.ev v
 rw [ha] at h1
 obtain⟨C,c1,e1⟩:=jm (S:=S) hlen hm h2
 obtain⟨C',Pw,e3,hle,_⟩:=jq h1
 refine⟨q.eval u,?_,h1⟩
 have bm:(execOp q.eval o).run P w=((Builtin.append_ #[t,t2] o.type #[q.eval u,q.eval v]).run P w).andThen fun v w'=>.ok (.value v) w':=by
  simp [execOp,ho,resolve,hc,cV,aH,invoke,builtin]
 rw [bm,e1,e3,mC ht cR hs hle]
 rfl
theorem CR {o:Oper}{sz by_:Nat}{a b:QO}{ex:Bool}{rows:List (List AV)}{A:Option Addr}{cp:Nat}(hr:res P.toTables o.op=some (.append sz by_ a b)) (ha:a.ev α.tm=.sl ex rows) (hb:b.ev α.tm=.v (.slice A 0 cp)):aC P w0 n o α S (.sl ex rows) S:=by
 obtain⟨c,t,t2,u,v,e,e2,z,ho,hc,cV,aH,rfl,rfl,ht,cR,hz,hs,eH,fe,Gr⟩:=gw hr
 rw [ay] at ha hb
 have cV:c.argTypes=#[t,t2]:=by rw [<-Array.toArray_toList (xs:=c.argTypes),cV]
 have aH:c.args=#[u,v]:=by rw [<-Array.toArray_toList (xs:=c.args),aH]
 have ht:P.underlying t=some (.slice e):=by
  unfold du at ht
  split at ht
  ·obtain rfl:=Option.some.inj ht;assumption
  ·cases ht
 have cR:P.underlying t2=some (.slice e2):=by
  unfold du at cR
  split at cR
  ·obtain rfl:=Option.some.inj cR;assumption
  ·cases cR
 refine aC.quiet fun A g q w hS hA=>?_
 have h1:=hA.ev u
 have h2:=hA.ev v
 rw [ha] at h1
 rw [hb] at h2
 have e1:=a_ h2
 obtain⟨C',Pw,e3,hle,_⟩:=jq h1
 refine⟨q.eval u,?_,h1⟩
 have bm:(execOp q.eval o).run P w=((Builtin.append_ #[t,t2] o.type #[q.eval u,q.eval v]).run P w).andThen fun v w'=>.ok (.value v) w':=by
  simp [execOp,ho,resolve,hc,cV,aH,invoke,builtin]
 rw [bm,e1,e3,mC ht cR hs hle]
 rfl
theorem pG {o:Oper}{sz by_:Nat}{a b:QO}(hr:res P.toTables o.op=some (.append sz by_ a b)):a.ev (α.only (cb o)).tm=a.ev α.tm/\b.ev (α.only (cb o)).tm=b.ev α.tm/\∀ c,o.op ≠ .defer c:=by
 obtain⟨c,t,t2,u,v,e,e2,z,ho,hc,cV,aH,rfl,rfl,_⟩:=gw hr
 have key:∀ q ∈ [u,v],(α.only (cb o)).ev q=α.ev q:=fun q hq=>fm fun t ht=>eU (by
  rw [ho,<-ht]
  have:q ∈ c.args:=Array.mem_toList_iff.1 (by rw [aH];exact hq)
  show q ∈ c.operands
  simp [Call.operands,this,hc])
 exact⟨by rw [ay,ay];exact key u (by simp),by rw [ay,ay];exact key v (by simp),fun c e=>by rw [ho] at e;cases e⟩
theorem aa.yY {sz by_:Nat}{a b:QO}{ex:Bool}{rows:List (List AV)}(ha:a.ev α.tm=.sl ex rows) (hb:cu S (b.ev α.tm)=some []):aa P w0 dr (.append sz by_ a b) α S (.sl ex rows) S:=by
 cases dr with
 |false=>exact fun n o hr=>(o3 hr ha hb).ops (pG (α:=α) hr).2.2
 |true =>
  intro n o hr
  obtain⟨h1,h2,h3⟩:=pG (α:=α) hr
  exact⟨(o3 hr (by rw [h1];exact ha) (by rw [h2];exact hb)).ops h3,fun hp=>(by rw [lf hr] at hp;cases hp),fun _=>rfl⟩
theorem aa.LP {sz by_:Nat}{a b:QO}{ex:Bool}{rows:List (List AV)}{A:Option Addr}{cp:Nat}(ha:a.ev α.tm=.sl ex rows) (hb:b.ev α.tm=.v (.slice A 0 cp)):aa P w0 false (.append sz by_ a b) α S (.sl ex rows) S:=fun n o hr=>(CR hr ha hb).ops (pG (α:=α) hr).2.2
theorem bC.yY {sz by_:Nat}{a b:QO}{ex ex':Bool}{rows:List (List AV)}(ha:a.ev α.tm=.sl ex rows) (hb:b.ev α.tm=.sl ex' []):bC P w0 B (.append sz by_ a b) α S (.sl ex rows) ⟨[],[],false⟩:=by
 intro n o hr
 refine⟨fun _=>rfl,(show gJ S [] from fun p hp=>by cases hp),fun T _ _ _=>?_⟩
 rw [show cD T [] false=T from bH]
 obtain⟨h1,h2,h3⟩:=pG (α:=α) hr
 exact (o3 hr (by rw [h1];exact ha) (by rw [h2,hb];exact l9)).ops h3
end
def Ek (sz by_:Nat) (s:XS) (a b:AV):Option (AV × Dt):=match b with
 |.sl _ []=>match a with
  |.sl ex rows=>some (.sl ex rows,⟨[],[],false⟩)
  |.ob k sz' 0 len none=>match (cS s).get k with
   |some (.arr dK rows fz ex)=>match Nat.beq dK sz' with
    |true=>some (.ob k sz' 0 len none,⟨[(k,.arr dK rows fz ex)],[],false⟩)
    |false=>none
   |_=>none
  |_=>none
 |.sl _ (x::more)=>match a with
  |.sl true []=>match fE sz (x::more) && Nat.ble ((x::more).length*by_) 35184372088832 with
   |true=>some (.ob s.nx sz 0 (x::more).length none,⟨[],[(s.nx,some (.arr sz (x::more) 0 false))],true⟩)
   |false=>none
  |.ob k sz' 0 len none=>match (cS s).get k with
   |some (.arr dK rows fz ex)=>match Nat.beq dK sz && Nat.beq sz' sz && fE sz (x::more) && lL bp (x::more) && Nat.ble ((len+(x::more).length)*by_) 35184372088832 && Nat.ble fz len && Nat.ble len rows.length with
    |true=>some (.ob s.nx sz 0 (len+(x::more).length) none,⟨[(k,.arr dK rows fz ex)],[(s.nx,some (.arr sz (rows.take len++x::more) fz false)),(k,none)],true⟩)
    |false=>none
   |_=>none
  |_=>none
 |_=>none
section
variable {P:Program}{w0:World}{B:Nat}{s:XS}{r:AV}{J:FJ}
theorem yZ {sz by_:Nat}{a b:QO}{f:Nat->AV}{df:List Nat}{d:Dt}(h:Ek sz by_ s (a.ev f) (b.ev f)=some (r,d)):bC P w0 B (.append sz by_ a b) ⟨f,df⟩ (den J s) r d:=by
 unfold Ek at h
 split at h
 ·rename_i ex' hb
  split at h
  ·rename_i ex rows ha
   simp only [Option.some.injEq,Prod.mk.injEq] at h
   obtain⟨rfl,rfl⟩:=h
   exact bC.yY ha hb
  ·rename_i k sz' len ha
   split at h
   ·rename_i dK rows fz ex hk
    split at h
    ·rename_i hs
     have hs:=Nat.eq_of_beq_eq_true hs
     subst hs
     simp only [Option.some.injEq,Prod.mk.injEq] at h
     obtain⟨rfl,rfl⟩:=h
     exact bC.uu ha (cg (J:=J) hk).1 hb
    ·cases h
   ·cases h
  ·cases h
 ·rename_i ex' x more hb
  split at h
  ·rename_i ha
   split at h
   ·rename_i hc
    simp only [Bool.and_eq_true] at hc
    simp only [Option.some.injEq,Prod.mk.injEq] at h
    obtain⟨rfl,rfl⟩:=h
    exact bC.uP (S:=den J s) ha hb (dp hc.1) (Nat.le_of_ble_eq_true hc.2)
   ·cases h
  ·rename_i k sz' len ha
   split at h
   ·rename_i dK rows fz ex hk
    split at h
    ·rename_i hc
     simp only [Bool.and_eq_true] at hc
     obtain⟨⟨⟨⟨⟨⟨h1,h2⟩,h3⟩,h4⟩,h5⟩,h6⟩,h7⟩:=hc
     have h1:=Nat.eq_of_beq_eq_true h1
     have h2:=Nat.eq_of_beq_eq_true h2
     subst h1 h2
     simp only [Option.some.injEq,Prod.mk.injEq] at h
     obtain⟨rfl,rfl⟩:=h
     exact bC.yB (S:=den J s) ha (cg (J:=J) hk).1 hb (Nat.le_of_ble_eq_true h6) (Nat.le_of_ble_eq_true h7) (fun row hr=>⟨dp h3 row hr,List.all_eq_true.2 (fU h4 row hr)⟩) (Nat.le_of_ble_eq_true h5)
    ·cases h
   ·cases h
  ·cases h
 ·cases h
theorem bC.LQ {fq:QO}{oO:List QO}{f:Nat->AV}{df:List Nat}{g:FuncId}{aZ9:List AV}{S S':U}{k sz len fz:Nat}{rows:List (List AV)}{ex:Bool}(dg:fh (fq.ev f) (oO.map (·.ev f))=some (g,aZ9)) (hp:cF aZ9) (h:aR P w0 g aZ9 U.none_ (.ob k sz 0 len none) S')
  (hk:S'.get k=some (.arr sz rows fz ex)) (hr:∀ r ∈ rows,∀ a ∈ r,Pure a):bC P w0 B (.call fq oO) ⟨f,df⟩ S (.ob S.nx sz 0 len none) ⟨[],[(S.nx,some (.arr sz rows fz ex))],true⟩:=by
 have h1:aR P w0 g aZ9 (bu [] 0) (.ob 0 sz 0 len none) (bu [(0,.arr sz rows fz ex)] 1):=by
  refine aR.canon (B:=0) (N:=1) (m:=[(0,k)]) (S:=U.none_) (S':=S') h rfl (.new rfl rfl) ⟨.inl ⟨_,hk,.same fun r hY a ha=>(hr r hY a ha).d_⟩,trivial⟩ rfl rfl
 have pl:∀ {l:List AV},cF l->xg (bh []) 0 l l:=by
  intro l
  induction l with
  |nil=>intro _;trivial
  |cons a l ih=>exact fun h=>⟨Rn.pure h.1,ih h.2⟩
 exact bC.Lh (so':=[(0,.arr sz rows fz ex)]) h1 dg (pl hp) (Rb.ob rfl) ⟨⟨0,_,rfl,rfl,w9.pure hr⟩,trivial⟩ rfl
end
end Go.Proofs.YtbofilglphfceaaGreat
