import Derived.Test.YtgjfgekaclobaaaGreatCm38
namespace Go.Proofs.YtgjfgekaclobaaaGreat
set_option linter.unusedVariables false
set_option linter.unusedSimpArgs false
open Go.RowKit
section
variable {P:Program}{w0:World}{n B:Nat}{α:AA}{S:aa}{dr:Bool}
theorem tW {o:Oper}{sz by_:Nat}{a b:QO}{ex:Bool}{rows:List (List AV)}(hr:res P.toTables o.op=some (.append sz by_ a b)) (ha:a.ev α.tm=.sl ex rows) (hb:cI S (b.ev α.tm)=some []):aI P w0 n o α S (.sl ex rows) S:=by
 obtain⟨c,t,t2,u,v,e,e2,z,ho,hc,eO,aT,rfl,rfl,ht,dQ,hz,hs,ja,jN,Zu⟩:=kA hr
 rw [aD] at ha hb
 obtain⟨hm,hlen⟩:=cG hb
 have eO:c.argTypes=#[t,t2]:=by rw [<-Array.toArray_toList (xs:=c.argTypes),eO]
 have aT:c.args=#[u,v]:=by rw [<-Array.toArray_toList (xs:=c.args),aT]
 have ht:P.underlying t=some (.slice e):=by
  unfold eu at ht
  split at ht
  ·obtain rfl:=Option.some.inj ht;assumption
  ·cases ht
 have dQ:P.underlying t2=some (.slice e2):=by
  unfold eu at dQ
  split at dQ
  ·obtain rfl:=Option.some.inj dQ;assumption
  ·cases dQ
 refine aI.quiet fun A g q w hS hA=>?_
 have h1:=hA.ev u
 have h2:=hA.ev v
 rw [ha] at h1
 obtain⟨C,c1,e1⟩:=mq (S:=S) hlen hm h2
 obtain⟨C',ZE,e3,hle,_⟩:=mz h1
 refine⟨q.eval u,?_,h1⟩
 have bw:(execOp q.eval o).run P w=((Builtin.append_ #[t,t2] o.type #[q.eval u,q.eval v]).run P w).andThen fun v w'=>.ok (.value v) w':=by
  simp [execOp,ho,resolve,hc,eO,aT,invoke,builtin]
 rw [bw,e1,e3,qj ht dQ hs hle]
 rfl
theorem JO {o:Oper}{sz by_:Nat}{a b:QO}{ex:Bool}{rows:List (List AV)}{A:Option Addr}{cp:Nat}(hr:res P.toTables o.op=some (.append sz by_ a b)) (ha:a.ev α.tm=.sl ex rows) (hb:b.ev α.tm=.v (.slice A 0 cp)):aI P w0 n o α S (.sl ex rows) S:=by
 obtain⟨c,t,t2,u,v,e,e2,z,ho,hc,eO,aT,rfl,rfl,ht,dQ,hz,hs,ja,jN,Zu⟩:=kA hr
 rw [aD] at ha hb
 have eO:c.argTypes=#[t,t2]:=by rw [<-Array.toArray_toList (xs:=c.argTypes),eO]
 have aT:c.args=#[u,v]:=by rw [<-Array.toArray_toList (xs:=c.args),aT]
 have ht:P.underlying t=some (.slice e):=by
  unfold eu at ht
  split at ht
  ·obtain rfl:=Option.some.inj ht;assumption
  ·cases ht
 have dQ:P.underlying t2=some (.slice e2):=by
  unfold eu at dQ
  split at dQ
  ·obtain rfl:=Option.some.inj dQ;assumption
  ·cases dQ
 refine aI.quiet fun A g q w hS hA=>?_
 have h1:=hA.ev u
 have h2:=hA.ev v
 rw [ha] at h1
 rw [hb] at h2
 have e1:=bg h2
 obtain⟨C',ZE,e3,hle,_⟩:=mz h1
 refine⟨q.eval u,?_,h1⟩
 have bw:(execOp q.eval o).run P w=((Builtin.append_ #[t,t2] o.type #[q.eval u,q.eval v]).run P w).andThen fun v w'=>.ok (.value v) w':=by
  simp [execOp,ho,resolve,hc,eO,aT,invoke,builtin]
 rw [bw,e1,e3,qj ht dQ hs hle]
 rfl
theorem uZ {o:Oper}{sz by_:Nat}{a b:QO}(hr:res P.toTables o.op=some (.append sz by_ a b)):a.ev (α.only (bU o)).tm=a.ev α.tm/\b.ev (α.only (bU o)).tm=b.ev α.tm/\∀ c,o.op ≠ .defer c:=by
 obtain⟨c,t,t2,u,v,e,e2,z,ho,hc,eO,aT,rfl,rfl,_⟩:=kA hr
 have key:∀ q ∈ [u,v],(α.only (bU o)).ev q=α.ev q:=fun q hq=>dM fun t ht=>dA (by
  rw [ho,<-ht]
  have:q ∈ c.args:=Array.mem_toList_iff.1 (by rw [aT];exact hq)
  show q ∈ c.operands
  simp [Call.operands,this,hc])
 exact⟨by rw [aD,aD];exact key u (by simp),by rw [aD,aD];exact key v (by simp),fun c e=>by rw [ho] at e;cases e⟩
theorem ad.Fy {sz by_:Nat}{a b:QO}{ex:Bool}{rows:List (List AV)}(ha:a.ev α.tm=.sl ex rows) (hb:cI S (b.ev α.tm)=some []):ad P w0 dr (.append sz by_ a b) α S (.sl ex rows) S:=by
 cases dr with
 |false=>exact fun n o hr=>(tW hr ha hb).ops (uZ (α:=α) hr).2.2
 |true =>
  intro n o hr
  obtain⟨h1,h2,h3⟩:=uZ (α:=α) hr
  exact⟨(tW hr (by rw [h1];exact ha) (by rw [h2];exact hb)).ops h3,fun hp=>(by rw [uQ hr] at hp;cases hp),fun _=>rfl⟩
theorem ad.U4 {sz by_:Nat}{a b:QO}{ex:Bool}{rows:List (List AV)}{A:Option Addr}{cp:Nat}(ha:a.ev α.tm=.sl ex rows) (hb:b.ev α.tm=.v (.slice A 0 cp)):ad P w0 false (.append sz by_ a b) α S (.sl ex rows) S:=fun n o hr=>(JO hr ha hb).ops (uZ (α:=α) hr).2.2
theorem a_.Fy {sz by_:Nat}{a b:QO}{ex ex':Bool}{rows:List (List AV)}(ha:a.ev α.tm=.sl ex rows) (hb:b.ev α.tm=.sl ex' []):a_ P w0 B (.append sz by_ a b) α S (.sl ex rows) ⟨[],[],false⟩:=by
 intro n o hr
 refine⟨fun _=>rfl,(show fu S [] from fun p hp=>by cases hp),fun T _ _ _=>?_⟩
 rw [show cJ T [] false=T from cE]
 obtain⟨h1,h2,h3⟩:=uZ (α:=α) hr
 exact (tW hr (by rw [h1];exact ha) (by rw [h2,hb];exact iw)).ops h3
end
def LU (sz by_:Nat) (s:XS) (a b:AV):Option (AV × Dt):=match b with
 |.sl _ []=>match a with
  |.sl ex rows=>some (.sl ex rows,⟨[],[],false⟩)
  |.ob k sz' 0 len none=>match (dy s).get k with
   |some (.arr ew rows fz ex)=>match Nat.beq ew sz' with
    |true=>some (.ob k sz' 0 len none,⟨[(k,.arr ew rows fz ex)],[],false⟩)
    |false=>none
   |_=>none
  |_=>none
 |.sl _ (x::more)=>match a with
  |.sl true []=>match iV sz (x::more) && Nat.ble ((x::more).length*by_) 35184372088832 with
   |true=>some (.ob s.nx sz 0 (x::more).length none,⟨[],[(s.nx,some (.arr sz (x::more) 0 false))],true⟩)
   |false=>none
  |.ob k sz' 0 len none=>match (dy s).get k with
   |some (.arr ew rows fz ex)=>match Nat.beq ew sz && Nat.beq sz' sz && iV sz (x::more) && o6 bl (x::more) && Nat.ble ((len+(x::more).length)*by_) 35184372088832 && Nat.ble fz len && Nat.ble len rows.length with
    |true=>some (.ob s.nx sz 0 (len+(x::more).length) none,⟨[(k,.arr ew rows fz ex)],[(s.nx,some (.arr sz (rows.take len++x::more) fz false)),(k,none)],true⟩)
    |false=>none
   |_=>none
  |_=>none
 |_=>none
section
variable {P:Program}{w0:World}{B:Nat}{s:XS}{r:AV}{J:FJ}
theorem Fz {sz by_:Nat}{a b:QO}{f:Nat->AV}{df:List DE}{d:Dt}(h:LU sz by_ s (a.ev f) (b.ev f)=some (r,d)):a_ P w0 B (.append sz by_ a b) ⟨f,df⟩ (den J s) r d:=by
 unfold LU at h
 split at h
 ·rename_i ex' hb
  split at h
  ·rename_i ex rows ha
   simp only [Option.some.injEq,Prod.mk.injEq] at h
   obtain⟨rfl,rfl⟩:=h
   exact a_.Fy ha hb
  ·rename_i k sz' len ha
   split at h
   ·rename_i ew rows fz ex hk
    split at h
    ·rename_i hs
     have hs:=Nat.eq_of_beq_eq_true hs
     subst hs
     simp only [Option.some.injEq,Prod.mk.injEq] at h
     obtain⟨rfl,rfl⟩:=h
     exact a_.AH ha (cz (J:=J) hk).1 hb
    ·cases h
   ·cases h
  ·cases h
 ·rename_i ex' x more hb
  split at h
  ·rename_i ha
   split at h
   ·rename_i hc
    simp only [Bool.and_eq_true] at hc
    simp only [Option.some.injEq,Prod.mk.injEq] at h
    obtain⟨rfl,rfl⟩:=h
    exact a_.A9 (S:=den J s) ha hb (eB hc.1) (Nat.le_of_ble_eq_true hc.2)
   ·cases h
  ·rename_i k sz' len ha
   split at h
   ·rename_i ew rows fz ex hk
    split at h
    ·rename_i hc
     simp only [Bool.and_eq_true] at hc
     obtain⟨⟨⟨⟨⟨⟨h1,h2⟩,h3⟩,h4⟩,h5⟩,h6⟩,h7⟩:=hc
     have h1:=Nat.eq_of_beq_eq_true h1
     have h2:=Nat.eq_of_beq_eq_true h2
     subst h1 h2
     simp only [Option.some.injEq,Prod.mk.injEq] at h
     obtain⟨rfl,rfl⟩:=h
     exact a_.E7 (S:=den J s) ha (cz (J:=J) hk).1 hb (Nat.le_of_ble_eq_true h6) (Nat.le_of_ble_eq_true h7) (fun row hr=>⟨eB h3 row hr,List.all_eq_true.2 (jn h4 row hr)⟩) (Nat.le_of_ble_eq_true h5)
    ·cases h
   ·cases h
  ·cases h
 ·cases h
theorem a_.U5 {fq:QO}{jz:List QO}{f:Nat->AV}{df:List DE}{g:FuncId}{aZ9:List AV}{S S':aa}{k sz len fz:Nat}{rows:List (List AV)}{ex:Bool}(cA:dZ (fq.ev f) (jz.map (·.ev f))=some (g,aZ9)) (hp:du aZ9) (h:aE P w0 g aZ9 aa.none_ (.ob k sz 0 len none) S')
  (hk:S'.get k=some (.arr sz rows fz ex)) (hr:∀ r ∈ rows,∀ a ∈ r,Pure a):a_ P w0 B (.call fq jz) ⟨f,df⟩ S (.ob S.nx sz 0 len none) ⟨[],[(S.nx,some (.arr sz rows fz ex))],true⟩:=by
 have h1:aE P w0 g aZ9 (au [] 0) (.ob 0 sz 0 len none) (au [(0,.arr sz rows fz ex)] 1):=by
  refine aE.canon (B:=0) (N:=1) (m:=[(0,k)]) (S:=aa.none_) (S':=S') h rfl (.new rfl rfl) ⟨.inl ⟨_,hk,.same fun r fg a ha=>(hr r fg a ha).bT⟩,trivial⟩ rfl rfl
 have pl:∀ {l:List AV},du l->vu (aN []) 0 l l:=by
  intro l
  induction l with
  |nil=>intro _;trivial
  |cons a l ih=>exact fun h=>⟨Rn.pure h.1,ih h.2⟩
 exact a_.UX (so':=[(0,.arr sz rows fz ex)]) h1 cA (pl hp) (Rb.ob rfl) ⟨⟨0,_,rfl,rfl,l_.pure hr⟩,trivial⟩ rfl
end
def FA:List UInt8->List UInt8->Bool
 |[],[]=>true
 |a::l,b::m=>match Nat.beq a.toNat b.toNat with|true=>FA l m|false=>false
 |_,_=>false
theorem Ew:∀ {a b:List UInt8},FA a b=true->a=b
 |[],[],_=>rfl
 |[],_::_,h=>by cases h
 |_::_,[],h=>by cases h
 |a::l,b::m,h=>by
  unfold FA at h
  split at h
  ·rename_i e
   rw [UInt8.toNat_inj.1 (Nat.eq_of_beq_eq_true e),Ew h]
  ·cases h
def FB:Bool->Bool->Bool
 |true,true=>true
 |false,false=>true
 |_,_=>false
theorem yW:∀ {a b:Bool},FB a b=true->a=b
 |true,true,_=>rfl
 |false,false,_=>rfl
def LV:Value->Value->Bool
 |.int .i64 a,.int .i64 b=>decide (a=b)
 |.bool a,.bool b=>FB a b
 |.string a,.string b=>FA a.data.toList b.data.toList
 |_,_=>false
theorem Q5 {a b:Value}(h:LV a b=true):a=b:=by
 unfold LV at h
 split at h
 ·rw [of_decide_eq_true h]
 ·rw [yW h]
 ·rename_i a b
  have h:=Ew h
  congr 1
  cases a;cases b
  simp only [ByteArray.mk.injEq]
  exact Array.toList_inj.1 h
 ·cases h
def tX {α:Type}(f:α->α->Bool):List α->List α->Bool
 |[],[]=>true
 |a::l,b::m=>match f a b with|true=>tX f l m|false=>false
 |_,_=>false
theorem oD {α:Type}{f:α->α->Bool}(hf:∀ a b,f a b=true->a=b):∀ {l m:List α},tX f l m=true->l=m
 |[],[],_=>rfl
 |[],_::_,h=>by cases h
 |_::_,[],h=>by cases h
 |a::l,b::m,h=>by
  unfold tX at h
  split at h
  ·rename_i e;rw [hf _ _ e,oD hf h]
  ·cases h
def SY:Option Nat->Option Nat->Bool
 |none,none=>true
 |some a,some b=>Nat.beq a b
 |_,_=>false
theorem Q6:∀ {a b:Option Nat},SY a b=true->a=b
 |none,none,_=>rfl
 |some a,some b,h=>by rw [Nat.eq_of_beq_eq_true h]
 |none,some _,h=>by cases h
 |some _,none,h=>by cases h
def wP:Nat->AV->AV->Bool
 |0,_,_=>false
 |m+1,a,b=>match a,b with
  |.v x,.v y=>LV x y
  |.sl e r,.sl e' r'=>FB e e' && tX (tX (wP m)) r r'
  |.agg l,.agg l'=>tX (wP m) l l'
  |.ob k z o n c,.ob k' z' o' n' c'=>Nat.beq k k' && Nat.beq z z' && Nat.beq o o' && Nat.beq n n' && SY c c'
  |.pt k z o n,.pt k' z' o' n'=>Nat.beq k k' && Nat.beq z z' && Nat.beq o o' && Nat.beq n n'
  |_,_=>false
theorem qO:∀ {m:Nat}(a b:AV),wP m a b=true->a=b
 |0,_,_,h=>by cases h
 |m+1,a,b,h=>by
  unfold wP at h
  split at h
  ·rw [Q5 h]
  ·simp only [Bool.and_eq_true] at h
   rw [yW h.1,oD (fun _ _=>oD qO) h.2]
  ·rw [oD qO h]
  ·simp only [Bool.and_eq_true] at h
   obtain⟨⟨⟨⟨h1,h2⟩,h3⟩,h4⟩,h5⟩:=h
   rw [Nat.eq_of_beq_eq_true h1,Nat.eq_of_beq_eq_true h2,Nat.eq_of_beq_eq_true h3,Nat.eq_of_beq_eq_true h4,Q6 h5]
  ·simp only [Bool.and_eq_true] at h
   obtain⟨⟨⟨h1,h2⟩,h3⟩,h4⟩:=h
   rw [Nat.eq_of_beq_eq_true h1,Nat.eq_of_beq_eq_true h2,Nat.eq_of_beq_eq_true h3,Nat.eq_of_beq_eq_true h4]
  ·cases h
def LW:Option Ob->Option Ob->Bool
 |some (.arr z r f e),some (.arr z' r' f' e')=>Nat.beq z z' && tX (tX (wP 9)) r r' && Nat.beq f f' && FB e e'
 |_,_=>false
theorem Q7 {a b:Option Ob}(h:LW a b=true):a=b:=by
 unfold LW at h
 split at h
 ·simp only [Bool.and_eq_true] at h
  obtain⟨⟨⟨h1,h2⟩,h3⟩,h4⟩:=h
  rw [Nat.eq_of_beq_eq_true h1,oD (fun _ _=>oD qO) h2,Nat.eq_of_beq_eq_true h3,yW h4]
 ·cases h
section
variable {P:Program}{w0:World}{n:Nat}{α:AA}{S S' N:aa}{r:AV}
theorem St.Q8 {A:Nat->Prop}{g:Gh}{w:World}{k m fz:Nat}{rows:List (List AV)}{ex:Bool}(hS:St w0 A g S w) (hk:S.get k=some (.arr m rows fz ex)) :
  Ext A g w (g.still (aa.none_.set k (some (.arr m rows fz ex)))) w/\St w0 A (g.still (aa.none_.set k (some (.arr m rows fz ex)))) (S.set k (some (.arr m rows rows.length ex))) w:=by
 obtain⟨N,hN⟩:∃ N:aa,N=aa.none_.set k (some (.arr m rows fz ex)):=⟨_,rfl⟩
 rw [<-hN]
 have wQ:∀ j o,N.get j=some o->j=k/\o=.arr m rows fz ex:=fun j o hj=>by
  rw [hN] at hj
  have hj:aX (fun _=>none) k (some (Ob.arr m rows fz ex)) j=some o:=hj
  by_cases e:j=k
  ·subst e;rw [ah] at hj;exact⟨rfl,(Option.some.inj hj).symm⟩
  ·rw [aq _ _ e] at hj;cases hj
 have xY:N.get k=some (.arr m rows fz ex):=by
  rw [hN]
  exact ah _ _ _
 have pv:∀ b q,(g.still N).fz b q ↔ (g.fz b q\/∃ k sz rows fz ex,N.get k=some (.arr sz rows fz ex)/\g.al k/\b=g.ob k/\q < rows.length*sz):=fun b q=>Iff.rfl
 have hL:Later g w (g.still N) w:=⟨fun _ h=>h,fun _ _=>rfl,fun _ _=>rfl,fun b q h=>.inl h,fun _ _ _=>rfl⟩
 have h':∀ j o,(S.set k (some (.arr m rows rows.length ex))).get j=some o->(j=k/\o=.arr m rows rows.length ex)\/(j ≠ k/\S.get j=some o):=fun j o hj=>by
  have hj:aX S.get k (some (.arr m rows rows.length ex)) j=some o:=hj
  by_cases e:j=k
  ·subst e;rw [ah] at hj;exact .inl ⟨rfl,(Option.some.inj hj).symm⟩
  ·rw [aq _ _ e] at hj;exact .inr ⟨e,hj⟩
 have any:∀ j o,(S.set k (some (.arr m rows rows.length ex))).get j=some o->∃ o0,S.get j=some o0/\∀ J,o=.fo J->o0=.fo J:=fun j o hj=>by
  rcases h' j o hj with ⟨rfl,rfl⟩|⟨_,h⟩
  ·exact⟨_,hk,fun J h=>by cases h⟩
  ·exact⟨_,h,fun J h=>h⟩
 have Jd:∀ j o q,j ≠ k->S.get j=some o->g.al j->(g.still N).fz (g.ob j) q->g.fz (g.ob j) q:=fun j o q aP hj ha hq=>by
  rcases (pv _ q).1 hq with hq|⟨i,sz,Ou,f,e,hi,aH,he,_⟩
  ·exact hq
  ·obtain⟨rfl,jq⟩:=wQ i _ hi
   exact absurd (hS.inj j i _ _ hj hk ha aH he) aP
 refine⟨{ hL with size:=Nat.le_refl _,cD:=fun _ _ _=>rfl,eW:=fun b q hq=>?_ },⟨hS.base,hS.up,hS.lo,fun j hj=>hS.al j hj,fun j o hj ha=>?_,fun i j o p hi hj ai aj e=>?_,fun b q hq=>?_,fun b q hb=>.inl (hS.lM b q hb),
  fun j J hj ha c hc=>?_,fun j J i o hj ha hi ai aP hc=>?_,fun i j J J' hi hj ai aj=>?_⟩⟩
 ·rcases (pv b q).1 hq with hq|⟨i,sz,Ou,f,e,hi,aH,rfl,_⟩
  ·exact .inl hq
  ·obtain⟨rfl,_⟩:=wQ i _ hi
   exact .inr (hS.bj i _ hk aH).1
 ·have bL:g.al j:=ha
  rcases h' j o hj with ⟨rfl,rfl⟩|⟨aP,dK⟩
  ·obtain⟨k2,k3,cs,ty,p1,p2,p3,p4,p5,p6,p7⟩:=hS.bj j _ hk bL
   refine⟨k2,k3,cs,ty,p1,p2,p3,p4,fun i row hi=>?_,Nat.le_refl _,fun q=>⟨fun hq=>?_,fun hq=>.inr ⟨j,m,rows,fz,ex,xY,bL,rfl,hq⟩⟩⟩
   ·obtain⟨q1,q2⟩:=p5 i row hi
    refine⟨q1,fun p a hp=>?_⟩
    obtain⟨x,hx,hr⟩:=q2 p a hp
    exact⟨x,hx,hr.later hL⟩
   ·rcases (pv _ q).1 hq with hq|⟨i,sz,Ou,f,e,hi,aH,he,aB⟩
    ·exact Nat.lt_of_lt_of_le ((p7 q).1 hq) (Nat.mul_le_mul_right _ p6)
    ·obtain⟨rfl,jq⟩:=wQ i _ hi
     cases jq
     exact aB
  ·obtain⟨k2,k3,k4⟩:=hS.bj j o dK bL
   refine⟨k2,k3,k4.later hL rfl (fun q hq=>Jd j o q aP dK bL hq) fun J hJ=>⟨rfl,Nat.le_refl _,fun _ _=>rfl,fun c q hc hq=>?_⟩⟩
   rcases (pv c q).1 hq with hq|⟨i,sz,Ou,f,e,hi,aH,rfl,_⟩
   ·exact hq
   ·obtain⟨rfl,_⟩:=wQ i _ hi
    subst hJ
    exact absurd hc (hS.iF j J i _ dK bL hk aH fun e=>aP e.symm)
 ·obtain⟨o0,e1,_⟩:=any i o hi
  obtain⟨p0,e2,_⟩:=any j p hj
  exact hS.inj i j _ _ e1 e2 ai aj e
 ·rcases (pv b q).1 hq with hq|⟨i,sz,Ou,f,e,hi,aH,rfl,_⟩
  ·exact hS.bM b q hq
  ·obtain⟨rfl,_⟩:=wQ i _ hi
   exact (hS.bj i _ hk aH).2.1
 ·obtain⟨o0,e1,e2⟩:=any j _ hj
  rw [e2 J rfl] at e1
  exact hS.fp j J e1 ha c hc
 ·obtain⟨o0,e1,e2⟩:=any j _ hj
  rw [e2 J rfl] at e1
  obtain⟨p0,e3,_⟩:=any i _ hi
  exact hS.iF j J i _ e1 ha e3 ai aP hc
 ·obtain⟨o0,e1,e2⟩:=any i _ hi
  rw [e2 J rfl] at e1
  obtain⟨p0,e3,e4⟩:=any j _ hj
  rw [e4 J' rfl] at e3
  exact hS.kD i j J J' e1 e3 ai aj
theorem St.share {A:Nat->Prop}{g:Gh}{w:World}{kb k sz sz' fz Ac m:Nat}{cs:List AV}{rows:List (List AV)}{ex ex':Bool}(hS:St w0 A g S w) (hb:S.get kb=some (.arr sz [.ob k sz' 0 m none::cs] fz ex)) (hk:S.get k=some (.arr sz' rows Ac ex')) (aP:kb ≠ k) (hm:m=rows.length) :
  ∃ g',Ext A g w g' w/\St w0 A g' ((S.set k (some (.arr sz' rows rows.length ex'))).set kb (some (.arr sz [.sl false rows::cs] fz ex))) w:=by
 obtain⟨hE,dO⟩:=hS.Q8 hk
 refine⟨_,hE,?_⟩
 have hF:bX (aa.none_.set k (some (.arr sz' rows Ac ex'))) (.ob k sz' 0 m none) (.sl false rows):=.ob (ah _ _ _) (by omega) hm.symm (fun i row aM h1 h2=>by rw [Nat.zero_add,h2] at h1;rw [Option.some.inj h1]) fun i j row aM a a' h1 h2 h3 h4=>by
  rw [Nat.zero_add,h2] at h1
  obtain rfl:=Option.some.inj h1
  rw [h3] at h4
  obtain rfl:=Option.some.inj h4
  exact .refl _
 obtain⟨N,hN⟩:∃ N:aa,N=aa.none_.set k (some (.arr sz' rows Ac ex')):=⟨_,rfl⟩
 rw [<-hN] at hF dO ⊢
 have Oq:St w0 A g ⟨N.get,S.nx⟩ w:=hS.forget (Nat.le_refl _) fun j p hj _=>by
  rw [hN] at hj
  have hj:aX (fun _=>none) k (some (Ob.arr sz' rows Ac ex')) j=some p:=hj
  by_cases e:j=k
  ·subst e;rw [ah] at hj;rw [<-hj];exact hk
  ·rw [aq _ _ e] at hj;cases hj
 have DN:bX ⟨N.get,S.nx⟩ (.ob k sz' 0 m none) (.sl false rows):=hF.mono (S:=N) (T:=⟨N.get,S.nx⟩) fun _ _ _ _ _ h=>h
 refine dO.AT (Nat.le_refl _) fun i o' hi ha=>?_
 have hi:aX (S.set k (some (.arr sz' rows rows.length ex'))).get kb (some (.arr sz [.sl false rows::cs] fz ex)) i=some o':=hi
 by_cases e:i=kb
 ·subst e
  rw [ah] at hi
  obtain rfl:=Option.some.inj hi
  have gA:(S.set k (some (.arr sz' rows rows.length ex'))).get i=some (.arr sz [.ob k sz' 0 m none::cs] fz ex):=by
   show aX S.get k _ i=_
   rw [aq _ _ aP]
   exact hb
  refine⟨_,gA,fun h=>?_,fun J h=>by cases h⟩
  obtain⟨ZF,ty,h1,h2,h3,h4,h5,h6,h7⟩:=h
  have bL:g.al i:=ha
  obtain⟨_,_,tK,ty0,b1,b2,b3,b4,b5,b6,b7⟩:=hS.bj i _ hb bL
  have e1:w.heap[g.ob i]?=some (.cells ZF ty (0,0)):=h1
  rw [e1] at b1
  simp only [Option.some.injEq,Obj.cells.injEq] at b1
  obtain⟨rfl,rfl,_⟩:=b1
  refine⟨ZF,ty,h1,h2,h3,h4,fun r aM hr=>?_,h6,h7⟩
  cases r with
  |succ r=>simp at hr
  |zero =>
   simp only [List.getElem?_cons_zero,Option.some.injEq] at hr
   subst hr
   obtain⟨q1,q2⟩:=h5 0 _ rfl
   refine⟨q1,fun p a hp=>?_⟩
   cases p with
   |zero =>
    simp only [List.getElem?_cons_zero,Option.some.injEq] at hp
    subst hp
    obtain⟨x,hx,cK⟩:=(b5 0 _ rfl).2 0 _ rfl
    exact⟨x,hx,DN.rep Oq cK⟩
   |succ p=>exact q2 (p+1) a hp
 ·rw [aq _ _ e] at hi
  exact⟨o',hi,fun h=>h,fun J h=>h⟩
theorem aE.share {f:FuncId}{args:List AV}{kb k sz sz' fz Ac m:Nat}{cs:List AV}{rows:List (List AV)}{ex ex':Bool}(hb:S.get kb=some (.arr sz [.ob k sz' 0 m none::cs] fz ex)) (hk:S.get k=some (.arr sz' rows Ac ex')) (aP:kb ≠ k) (hm:m=rows.length)
  (h:aE P w0 f args ((S.set k (some (.arr sz' rows rows.length ex'))).set kb (some (.arr sz [.sl false rows::cs] fz ex))) r S'):aE P w0 f args S r S':=by
 refine⟨h.1,fun F q A g aV w hF hS hA=>?_⟩
 obtain⟨g1,hE,er⟩:=hS.share hb hk aP hm
 refine (h.2 F q A g1 aV w hF er ⟨hA.1,fun i a x h1 h2=>(hA.2 i a x h1 h2).later hE.toLater⟩).mono ?_
 rintro e w' ⟨v,g',rfl,h1,h2,h3⟩
 exact⟨v,g',rfl,h1,h2,hE.trans h3⟩
theorem aE.z_ {f:FuncId}{args aV:List AV}{JM:aa}(hN:∀ k o,N.get k=some o->S.get k=some o) (hx:S.nx<=S'.nx) (h':∀ k o,S'.get k=some o->S.get k=some o/\N.get k=none) (hf:jg N args aV) (h:aE P w0 f aV S' r JM):aE P w0 f args S r JM:=by
 refine⟨h.1,fun F m A g xs w hF hS hA=>?_⟩
 obtain⟨hE,dO⟩:=hS.z_ hN hx h'
 have lJ:jd (g.still N) w aV xs:=by
  refine⟨hA.1.trans hf.len,fun i a x ha hx=>?_⟩
  have hi:i < args.length:=by rw [hf.len];exact (List.getElem?_eq_some_iff.1 ha).1
  have h0:=List.getElem?_eq_getElem hi
  have tR:St w0 A g ⟨N.get,S.nx⟩ w:=hS.forget (Nat.le_refl _) fun j p hj _=>hN j p hj
  have hr:=(hf.at i _ a h0 ha)
  exact (hr.mono (S:=N) (T:=⟨N.get,S.nx⟩) fun _ _ _ _ _ h=>h).rep tR (hA.2 i _ x h0 hx)
 refine (h.2 F m A (g.still N) xs w hF dO lJ).mono ?_
 rintro e w' ⟨v,g',rfl,k1,k2,k3⟩
 exact⟨v,g',rfl,k1,k2,hE.trans k3⟩
end
end Go.Proofs.YtgjfgekaclobaaaGreat
