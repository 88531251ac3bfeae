import Derived.Laws.CopyRow
import Derived.Test.YtbofilglphfceaaGreatQ27
namespace Go.Proofs.YtbofilglphfceaaGreat
set_option linter.unusedVariables false
set_option linter.unusedSimpArgs false
open Go.RowKit
section
set_option maxRecDepth 100000
attribute [local irreducible] ah bc ad ab
def O_:CF Tryz.f214:=⟨_,by conv=>lhs;cbv⟩
theorem X5:aH Tryz.prog 214 O_.1 Tryz.f214.ntmps:=aQ Tryz.func214 O_.2 Tryz.call214
def ql:List Nat:=[6,4,0,5,10,1,19]
def Bd.ok (x:Bd):Prop:=x.t.ok/\cM x.t<=1099511627776
def LL:Tm:=⟨0,0,⟨#[]⟩,[]⟩
def om (b:List Bd) (v:Int):Tm × Bool:=match b.find? fun x=>x.v == v with|some x=>(x.t,true)|none=>(LL,false)
theorem LM {S:ae}{ρ:Hd}:aU S (.agg [.v (.int .i64 0),.v (.int .i64 0),.v (.string ⟨#[]⟩),.sl true []]) (tm ρ LL):=by
 refine .agg rfl fun i a a' h1 h2=>?_
 match i,h1,h2 with
 |0,h1,h2=>obtain rfl:=Option.some.inj h1;obtain rfl:=Option.some.inj h2;exact .refl _
 |1,h1,h2=>obtain rfl:=Option.some.inj h1;obtain rfl:=Option.some.inj h2;exact .refl _
 |2,h1,h2=>obtain rfl:=Option.some.inj h1;obtain rfl:=Option.some.inj h2;exact .refl _
 |3,h1,h2 =>
  obtain rfl:=Option.some.inj h1
  obtain rfl:=Option.some.inj h2
  rw [LL,tl,dx]
  exact aU.wk
theorem Q9 {S:ae}{a a':AV}{b:Bool}(h:aU S a a'):aU S (.bg [a,.v (.bool b)]) (.bg [a',.v (.bool b)]):=by
 refine .bg rfl fun i x x' h1 h2=>?_
 match i,h1,h2 with
 |0,h1,h2=>obtain rfl:=Option.some.inj h1;obtain rfl:=Option.some.inj h2;exact h
 |1,h1,h2=>obtain rfl:=Option.some.inj h1;obtain rfl:=Option.some.inj h2;exact .refl _
section
variable {w0:World}{ρ:Hd}
theorem JF (b:List Bd) (v:Int) (hl:b.length<=1099511627776):ah Tryz.prog w0 214 [eJ ρ b,iv v] (.bg [tm ρ (om b v).1,.v (.bool (om b v).2)]):=by
 obtain⟨R,hR⟩:∃ R,R=om b v:=⟨_,rfl⟩
 rw [<-hR]
 refine X5.aG (by simp [Tryz.ntmps214]) ((.bg fun a ha=>by simp only [List.mem_cons,List.not_mem_nil,or_false] at ha;rcases ha with rfl|rfl;exact ba _;exact .v)) ?_
 refine gq ql ?_
 refine ab.aP (σ:=Int) 1 1 [] (fun i=>[(0,eJ ρ b),(1,.v (.int .i64 v)),(4,.pt 0 4 0 0),(6,.v (.int .i64 i))]) [] (fun _=>[(0,.arr 4 [[.v (.int .i64 0),.v (.int .i64 0),.v (.string ⟨#[]⟩),.sl true []]] 0 true)]) (fun i=>∃ k:Nat,i=k/\k<=b.length/\R=om (b.drop k) v) (fun i=>b.length - i.toNat) 0 ⟨0,rfl,by simp,by simpa using hR⟩ rfl (by exact⟨sq,rfl,⟨.inl ⟨_,rfl,.arr (by exact⟨kq,trivial⟩)⟩,trivial⟩,rfl,rfl,rfl⟩) ?_
 rintro i ⟨k,hi,hk,hp⟩
 clear hR
 refine gq ql ?_
 by_cases au:k < b.length
 ·obtain⟨x,hx,aO⟩:=az au
  rw [aO,om,List.find?_cons] at hp
  obtain⟨xv,xk,xi,xn,xa⟩:=x
  repeat' (first
   |(refine ab.op rfl (ad.ind rfl rfl (ay (l:=b) hi hx) (aw fun _=>rfl)) ?_;refine gq ql ?_)
   |(refine bq (fun hb=>?_) (fun hb=>?_)<;>(try simp only [aq] at hb)<;>(first|refine gq ql ?_))
   |(refine aB fun m hm=>?_;(try rw [af] at hm);refine gq ql ?_)
   |(refine aS fun _ _=>?_;refine gq ql ?_)
   |(refine ab.ao ?_;refine gq ql ?_)
   |(refine ab.bJ ?_;refine gq ql ?_)
   |(refine fq ?_))
  all_goals first
   |(exfalso;omega)
   |(rw [show (xv == v)=true by simp_all] at hp
     subst hp
     exact aU.of_eq rfl)
   |(rw [show (xv == v)=false by simp_all] at hp;(refine ab.aL (σ:=Int) _ [] ?_ ?_ (by exact⟨sq,rfl,⟨.inl ⟨_,rfl,.arr (by exact⟨kq,trivial⟩)⟩,trivial⟩,rfl,rfl,rfl⟩)<;>first|omega|exact⟨k+1,by omega,by omega,by rw [hp];rfl⟩))
 ·skip
  repeat' (first
   |(refine bq (fun hb=>?_) (fun hb=>?_)<;>(try simp only [aq] at hb)<;>(first|refine gq ql ?_))
   |(refine aB fun m hm=>?_;(try rw [af] at hm);refine gq ql ?_)
   |(refine ab.ao ?_;refine gq ql ?_)
   |(refine fq ?_))
  all_goals first
   |(exfalso;omega)
   |skip
  rw [List.drop_eq_nil_of_le (by omega),om] at hp
  subst hp
  exact Q9 LM
end
end
inductive Tr (α:Type) where
 |nil
 |nd (l:Tr α) (v:Option α) (r:Tr α)
def eY {α:Type}:Tr α->Nat->Option α
 |.nil,_=>none
 |.nd l v r,k=>match Nat.beq k 0 with
  |true=>v
  |false=>match Nat.beq (k % 2) 1 with
   |true=>eY l (k / 2)
   |false=>eY r (k / 2 - 1)
def qm {α:Type}:Nat->Tr α->Nat->α->Tr α
 |0,t,_,_=>t
 |m+1,.nil,k,a=>match Nat.beq k 0 with
  |true=>.nd .nil (some a) .nil
  |false=>match Nat.beq (k % 2) 1 with
   |true=>.nd (qm m .nil (k / 2) a) none .nil
   |false=>.nd .nil none (qm m .nil (k / 2 - 1) a)
 |m+1,.nd l v r,k,a=>match Nat.beq k 0 with
  |true=>.nd l (some a) r
  |false=>match Nat.beq (k % 2) 1 with
   |true=>.nd (qm m l (k / 2) a) v r
   |false=>.nd l v (qm m r (k / 2 - 1) a)
theorem vN {i j:Nat}(h:Nat.beq i j=false):i ≠ j:=fun e=>by rw [e,Nat.beq_refl] at h;cases h
theorem LN {α:Type}{a:α}:∀ {m:Nat}{t:Tr α}{k j:Nat},k < m->eY (qm m t k a) j=if j=k then some a else eY t j:=by
 have step:∀ (l:Tr α) (v:Option α) (r:Tr α) (j:Nat),eY (.nd l v r) j=if j=0 then v else if j % 2=1 then eY l (j / 2) else eY r (j / 2 - 1):=by
  intro l v r j
  simp only [eY]
  cases h0:Nat.beq j 0 with
  |true=>rw [if_pos (Nat.eq_of_beq_eq_true h0)]
  |false =>
   rw [if_neg (vN h0)]
   cases h1:Nat.beq (j % 2) 1 with
   |true=>rw [if_pos (Nat.eq_of_beq_eq_true h1)]
   |false=>rw [if_neg (vN h1)]
 have nil:∀ j,eY (Tr.nil:Tr α) j=none:=fun j=>rfl
 have X6:∀ (m:Nat) (t:Tr α) (k:Nat),∃ l v r,(∀ j,eY t j=eY (.nd l v r) j)/\qm (m+1) t k a=if k=0 then .nd l (some a) r else if k % 2=1 then .nd (qm m l (k / 2) a) v r else .nd l v (qm m r (k / 2 - 1) a):=by
  intro m t k
  have key:∀ {X Y Z:Tr α},(match Nat.beq k 0 with|true=>X|false=>match Nat.beq (k % 2) 1 with|true=>Y|false=>Z)=if k=0 then X else if k % 2=1 then Y else Z:=by
   intro X Y Z
   cases h0:Nat.beq k 0 with
   |true=>rw [if_pos (Nat.eq_of_beq_eq_true h0)]
   |false =>
    rw [if_neg (vN h0)]
    cases h1:Nat.beq (k % 2) 1 with
    |true=>rw [if_pos (Nat.eq_of_beq_eq_true h1)]
    |false=>rw [if_neg (vN h1)]
  cases t with
  |nil =>
   refine⟨.nil,none,.nil,fun j=>?_,by rw [qm,key]⟩
   rw [step,nil]
   repeat' split
   all_goals rfl
  |nd l v r=>exact⟨l,v,r,fun j=>rfl,by rw [qm,key]⟩
 intro m
 induction m with
 |zero=>intro t k j h;omega
 |succ m ih =>
  intro t k j h
  obtain⟨l,v,r,h1,h2⟩:=X6 m t k
  rw [h2,h1 j]
  by_cases k0:k=0
  ·subst k0
   rw [if_pos rfl,step,step]
   by_cases j0:j=0
   ·rw [if_pos j0,if_pos j0]
   ·rw [if_neg j0,if_neg j0,if_neg j0]
  ·rw [if_neg k0]
   by_cases k1:k % 2=1
   ·rw [if_pos k1,step,step]
    by_cases j0:j=0
    ·rw [if_pos j0,if_pos j0,if_neg (by omega)]
    ·rw [if_neg j0,if_neg j0]
     by_cases j1:j % 2=1
     ·rw [if_pos j1,if_pos j1,ih (by omega)]
      by_cases e:j=k
      ·rw [if_pos e,if_pos (by omega)]
      ·rw [if_neg e,if_neg (by omega)]
     ·rw [if_neg j1,if_neg j1,if_neg (by omega)]
   ·rw [if_neg k1,step,step]
    by_cases j0:j=0
    ·rw [if_pos j0,if_pos j0,if_neg (by omega)]
    ·rw [if_neg j0,if_neg j0]
     by_cases j1:j % 2=1
     ·rw [if_pos j1,if_pos j1,if_neg (by omega)]
     ·rw [if_neg j1,if_neg j1,ih (by omega)]
      by_cases e:j=k
      ·rw [if_pos e,if_pos (by omega)]
      ·rw [if_neg e,if_neg (by omega)]
def put {α:Type}(t:Tr α) (k:Nat) (a:α):Tr α:=qm (k+1) t k a
theorem kM {α:Type}{a:α}{t:Tr α}{k j:Nat}:eY (put t k a) j=if j=k then some a else eY t j:=LN (Nat.lt_succ_self k)
def en (t:Tr AV):Nat->AV:=fun k=>match eY t k with|some a=>a|none=>.u
theorem tg {t:Tr AV}{d:Nat}{a:AV}:en (put t d a)=bO (en t) d a:=by
 funext k
 unfold en
 rw [kM]
 by_cases e:k=d
 ·subst e;rw [if_pos rfl,aE]
 ·rw [if_neg e,aK _ _ e]
def th (d:Option Nat) (t:Tr AV) (a:AV):Tr AV:=match d with|some d=>put t d a|none=>t
theorem qn {d:Option Nat}{t:Tr AV}{a:AV}{l:List Nat}:cD d ⟨en t,l⟩ a=⟨en (th d t a),l⟩:=by
 cases d with
 |none=>rfl
 |some d=>show (⟨bO (en t) d a,l⟩:AA)=⟨en (put t d a),l⟩;rw [tg]
def pq:List AV->Nat->Tr AV->Tr AV
 |[],_,t=>t
 |a::l,i,t=>pq l (i+1) (put t i a)
theorem E3:∀ {l:List AV}{i:Nat}{t:Tr AV}{k:Nat},en (pq l i t) k=if i<=k/\k < i+l.length then (l[k - i]?).getD .u else en t k
 |[],i,t,k=>by rw [pq,if_neg (by simp)]
 |a::l,i,t,k=>by
  rw [pq,E3,tg]
  by_cases h1:i+1<=k/\k < i+1+l.length
  ·rw [if_pos h1,if_pos (by simp;omega),show k - i=(k - (i+1))+1 by omega]
   rfl
  ·rw [if_neg h1]
   by_cases e:k=i
   ·subst e
    rw [aE,if_pos (by simp),Nat.sub_self]
    rfl
   ·rw [aK _ _ e,if_neg (by simp at h1 ⊢;omega)]
theorem LO {args:List AV}:en (pq args 0 .nil)=kg args:=by
 funext k
 rw [E3]
 by_cases h:0<=k/\k < 0+args.length
 ·rw [if_pos h];rfl
 ·rw [if_neg h]
  unfold kg
  rw [List.getElem?_eq_none (by omega)]
  rfl
def vO (t:Tr AV):List (Nat × AV)->Tr AV
 |[]=>t
 |p::l=>vO (put t p.1 p.2) l
theorem AD:∀ {l:List (Nat × AV)}{t:Tr AV},en (vO t l)=qQ (en t) l
 |[],t=>rfl
 |p::l,t=>by rw [vO,AD,tg];rfl
def toLk {α:Type}:Tr α->List (Nat × α)
 |.nil=>[]
 |.nd l v r=>(match v with|some a=>[(0,a)]|none=>[])++((toLk l).map (fun p=>(2*p.1+1,p.2))++(toLk r).map (fun p=>(2*p.1+2,p.2)))
theorem E4 {α:Type}(l:Tr α) (v:Option α) (r:Tr α) (j:Nat):eY (.nd l v r) j=if j=0 then v else if j % 2=1 then eY l (j / 2) else eY r (j / 2 - 1):=by
 simp only [eY]
 cases h0:Nat.beq j 0 with
 |true=>rw [if_pos (Nat.eq_of_beq_eq_true h0)]
 |false =>
  rw [if_neg (vN h0)]
  cases h1:Nat.beq (j % 2) 1 with
  |true=>rw [if_pos (Nat.eq_of_beq_eq_true h1)]
  |false=>rw [if_neg (vN h1)]
theorem toLk_mem {α:Type}:∀ {t:Tr α}{k:Nat}{a:α},(k,a) ∈ toLk t ↔ eY t k=some a
 |.nil,k,a=>by simp [toLk,eY]
 |.nd l v r,k,a=>by
  rw [E4]
  simp only [toLk,List.mem_append,List.mem_map]
  constructor
  ·rintro (h|⟨⟨j,b⟩,h,e⟩|⟨⟨j,b⟩,h,e⟩)
   ·cases v with
    |none=>cases h
    |some b =>
     simp only [List.mem_singleton,Prod.mk.injEq] at h
     obtain⟨rfl,rfl⟩:=h
     rfl
   ·simp only [Prod.mk.injEq] at e
    obtain⟨rfl,rfl⟩:=e
    rw [if_neg (by omega),if_pos (by omega),show (2*j+1) / 2=j by omega]
    exact toLk_mem.1 h
   ·simp only [Prod.mk.injEq] at e
    obtain⟨rfl,rfl⟩:=e
    rw [if_neg (by omega),if_neg (by omega),show (2*j+2) / 2 - 1=j by omega]
    exact toLk_mem.1 h
  ·intro h
   by_cases k0:k=0
   ·rw [if_pos k0] at h
    subst k0
    rw [h]
    exact .inl (by simp)
   ·rw [if_neg k0] at h
    by_cases k1:k % 2=1
    ·rw [if_pos k1] at h
     exact .inr (.inl ⟨(k / 2,a),toLk_mem.2 h,by simp;omega⟩)
    ·rw [if_neg k1] at h
     exact .inr (.inr ⟨(k / 2 - 1,a),toLk_mem.2 h,by simp;omega⟩)
abbrev FJ:=Nat->(Nat->Nat->Prop)->(Nat->Prop)->World->Prop
structure XS where
 m:Tr (Option Ob)
 nx:Nat
 lw:Nat
 yk:Option Nat
 an:Nat
 lg:List (List AV × Bool)
def dZ (o:Option Nat) (k:Nat):Bool:=match o with|some j=>Nat.beq j k|none=>false
def fS (s:XS) (k:Nat):Option Ob:=match eY s.m k with|some o=>o|none=>none
def den (J:FJ) (s:XS):ae:=⟨fun k=>match dZ s.yk k with|true=>some (.fo J)|false=>fS s k,s.nx⟩
def ez (s:XS):ae:=⟨fun k=>match dZ s.yk k with|true=>none|false=>fS s k,s.nx⟩
def lD (s:XS) (k:Nat) (o:Option Ob):XS:=⟨put s.m k o,s.nx,Nat.min s.lw k,s.yk,s.an,s.lg⟩
def j5 (s:XS) (o:Ob):XS:=⟨put s.m s.nx (some o),s.nx+1,Nat.min s.lw s.nx,s.yk,s.an,s.lg⟩
theorem Pa {o:Option Nat}{k:Nat}(h:dZ o k=true):o=some k:=by
 cases o with
 |none=>cases h
 |some j=>rw [Nat.eq_of_beq_eq_true h]
theorem du {J:FJ}{s:XS}{k:Nat}{o:Ob}(h:(ez s).get k=some o):(den J s).get k=some o/\dZ s.yk k=false:=by
 have h:(match dZ s.yk k with|true=>none|false=>fS s k)=some o:=h
 show (match dZ s.yk k with|true=>some (.fo J)|false=>fS s k)=some o/\_
 cases e:dZ s.yk k with
 |true=>rw [e] at h;cases h
 |false=>rw [e] at h;exact⟨h,rfl⟩
theorem j6 {J:FJ}{s:XS}{k:Nat}{o:Option Ob}(hk:dZ s.yk k=false):den J (lD s k o)=(den J s).set k o:=by
 unfold den lD ae.set
 simp only [ae.mk.injEq,and_true]
 funext j
 unfold fS
 simp only [kM]
 by_cases e:j=k
 ·subst e;rw [hk,aE,if_pos rfl]
 ·rw [aK _ _ e,if_neg e]
theorem iq {J:FJ}{s:XS}{o:Ob}(hk:dZ s.yk s.nx=false):den J (j5 s o)=(den J s).new o:=by
 unfold den j5 ae.new
 simp only [ae.mk.injEq,and_true]
 funext j
 unfold fS
 simp only [kM]
 by_cases e:j=s.nx
 ·subst e;rw [hk,aE,if_pos rfl]
 ·rw [aK _ _ e,if_neg e]
inductive uN (P:Program) (w0:World):FJ->List (List AV × Bool)->FJ->Prop where
 |nil (J:FJ):uN P w0 J [] J
 |cons {J J1 J':FJ}{x:List AV}{b:Bool}{l:List (List AV × Bool)}(h:∀ (T:ae) (k:Nat),T.get k=some (.fo J)->ov P w0 k x T (.v (.bool b)) (T.set k (some (.fo J1)))) (t:uN P w0 J1 l J'):uN P w0 J ((x,b)::l) J'
section
variable {P:Program}{w0:World}
theorem uN.app:∀ {l m:List (List AV × Bool)}{J J':FJ},uN P w0 J (l++m) J'->∃ J1,uN P w0 J l J1/\uN P w0 J1 m J'
 |[],m,J,J',h=>⟨J,.nil J,h⟩
 |(x,b)::l,m,J,J',h=>by
  cases h with
  |cons h t =>
   obtain⟨J1,h1,h2⟩:=t.app
   exact⟨J1,.cons h h1,h2⟩
structure dU (s s':XS):Prop where
 lw:s'.lw<=s.lw
 nx:s.nx<=s'.nx
 yk:s'.yk=s.yk
 lg:∃ L,s'.lg=L++s.lg
 aD:∀ k,k < s'.lw->fS s' k=fS s k
theorem dU.refl (s:XS):dU s s:=⟨Nat.le_refl _,Nat.le_refl _,rfl,⟨[],rfl⟩,fun _ _=>rfl⟩
theorem dU.trans {s1 s2 s3:XS}(h:dU s1 s2) (k:dU s2 s3):dU s1 s3:=by
 obtain⟨L,hL⟩:=h.lg
 obtain⟨M,hM⟩:=k.lg
 exact⟨Nat.le_trans k.lw h.lw,Nat.le_trans h.nx k.nx,k.yk.trans h.yk,⟨M++L,by rw [hM,hL,List.append_assoc]⟩,fun j hj=>(k.aD j hj).trans (h.aD j (Nat.lt_of_lt_of_le hj k.lw))⟩
theorem dU.wr {s:XS}{k:Nat}{o:Option Ob}:dU s (lD s k o):=by
 refine⟨Nat.min_le_left _ _,Nat.le_refl _,rfl,⟨[],rfl⟩,fun j hj=>?_⟩
 have:j < k:=Nat.lt_of_lt_of_le hj (Nat.min_le_right _ _)
 unfold fS lD
 simp only [kM]
 rw [if_neg (by omega)]
theorem dU.nw {s:XS}{o:Ob}:dU s (j5 s o):=by
 refine⟨Nat.min_le_left _ _,Nat.le_succ _,rfl,⟨[],rfl⟩,fun j hj=>?_⟩
 have:j < s.nx:=Nat.lt_of_lt_of_le hj (Nat.min_le_right _ _)
 unfold fS j5
 simp only [kM]
 rw [if_neg (by omega)]
def iE (P:Program) (w0:World) (s s':XS) (J J':FJ):Prop:=∃ L,s'.lg=L++s.lg/\uN P w0 J L.reverse J'
theorem iE.same {s s':XS}{J J':FJ}(h:iE P w0 s s' J J') (e:s'.lg=s.lg):J'=J:=by
 obtain⟨L,h1,h2⟩:=h
 rw [e] at h1
 have:L=[]:=by
  have:=congrArg List.length h1
  simp at this
  exact this
 subst this
 cases h2
 rfl
theorem iE.split {s1 s2 s3:XS}{J J':FJ}(h:dU s1 s2) (k:dU s2 s3) (hc:iE P w0 s1 s3 J J'):∃ J1,iE P w0 s1 s2 J J1/\iE P w0 s2 s3 J1 J':=by
 obtain⟨L,hL⟩:=h.lg
 obtain⟨M,hM⟩:=k.lg
 obtain⟨X,hX,hJ⟩:=hc
 rw [hM,hL,<-List.append_assoc] at hX
 obtain rfl:=List.append_cancel_right hX
 rw [List.reverse_append] at hJ
 obtain⟨J1,h1,h2⟩:=hJ.app
 exact⟨J1,⟨L,hL,h1⟩,⟨M,hM,h2⟩⟩
end
def jW (F:AV->Option AV):List AV->Option (List AV)
 |[]=>some []
 |a::l=>match F a with
  |some a'=>match jW F l with
   |some l'=>some (a'::l')
   |none=>none
  |none=>none
def qp (F:AV->Option AV):List (List AV)->Option (List (List AV))
 |[]=>some []
 |a::l=>match jW F a with
  |some a'=>match qp F l with
   |some l'=>some (a'::l')
   |none=>none
  |none=>none
def fT (S:ae):Nat->AV->Option AV
 |0,_=>none
 |m+1,a=>match a with
  |.v x=>some (.v x)
  |.agg l=>match jW (fT S m) l with|some l'=>some (.agg l')|none=>none
  |.bg l=>match jW (fT S m) l with|some l'=>some (.bg l')|none=>none
  |.sl _ rows=>match qp (fT S m) rows with|some l'=>some (.sl false l')|none=>none
  |.ip cs=>match jW (fT S m) cs with|some l'=>some (.ip l')|none=>none
  |.fn f l c=>match jW (fT S m) l,jW (fT S m) c with|some l',some c'=>some (.fn f l' c')|_,_=>none
  |.ob k sz off len _=>match S.get k with
   |some (.arr sz' rows _ _)=>match Nat.beq sz' sz && Nat.ble (off+len) rows.length with
    |true=>match qp (fT S m) ((rows.drop off).take len) with|some l'=>some (.sl false l')|none=>none
    |false=>none
   |_=>none
  |.gr k sz len=>match S.get k with
   |some (.arr sz' rows _ _)=>match Nat.beq sz' sz && Nat.ble len rows.length with
    |true=>match qp (fT S m) (rows.take len) with|some l'=>some (.sl false l')|none=>none
    |false=>none
   |_=>none
  |.pt k sz i j=>match S.get k with
   |some (.arr sz' rows _ _)=>match Nat.beq sz' sz with
    |true=>match rows[i]? with
     |some row=>match Nat.ble j row.length with
      |true=>match jW (fT S m) (row.drop j) with|some l'=>some (.ip l')|none=>none
      |false=>none
     |none=>none
    |false=>none
   |_=>none
  |_=>none
def fD (F:AV->Bool):List AV->Bool
 |[]=>true
 |a::l=>match F a with|true=>fD F l|false=>false
def qq (F:AV->Bool):List (List AV)->Bool
 |[]=>true
 |a::l=>match fD F a with|true=>qq F l|false=>false
def iA:Nat->AV->Bool
 |0,_=>false
 |m+1,a=>match a with
  |.v _=>true
  |.agg l|.bg l|.ip l=>fD (iA m) l
  |.sl _ rows=>qq (iA m) rows
  |.fn _ l c=>match fD (iA m) l with|true=>fD (iA m) c|false=>false
  |_=>false
theorem dF {F:AV->Bool}:∀ {l:List AV},fD F l=true->∀ a ∈ l,F a=true
 |[],_,a,h=>by cases h
 |b::l,hp,a,h=>by
  simp only [fD] at hp
  split at hp
  ·rename_i hb
   rcases List.mem_cons.1 h with rfl|h
   ·exact hb
   ·exact dF hp a h
  ·cases hp
theorem jX {F:AV->Bool}:∀ {l:List (List AV)},qq F l=true->∀ r ∈ l,∀ a ∈ r,F a=true
 |[],_,a,h=>by cases h
 |b::l,hp,a,h=>by
  simp only [qq] at hp
  split at hp
  ·rename_i hb
   rcases List.mem_cons.1 h with rfl|h
   ·exact dF hb
   ·exact jX hp a h
  ·cases hp
theorem eC:∀ {m:Nat}{a:AV},iA m a=true->Pure a
 |0,a,h=>by cases h
 |m+1,a,h=>by
  cases a with
  |v x=>exact .v
  |agg l=>exact .agg fun a ha=>eC (dF h a ha)
  |bg l=>exact .bg fun a ha=>eC (dF h a ha)
  |ip l=>exact .ip fun a ha=>eC (dF h a ha)
  |sl ex rows=>exact .sl fun r hr a ha=>eC (jX h r hr a ha)
  |fn f l c =>
   simp only [iA] at h
   split at h
   ·rename_i h1
    exact .fn (fun a ha=>eC (dF h1 a ha)) (fun a ha=>eC (dF h a ha))
   ·cases h
  |_=>cases h
theorem ti {m:Nat}:∀ {l:List AV},fD (iA m) l=true->db l
 |[],_=>trivial
 |a::l,h=>by
  simp only [fD] at h
  split at h
  ·rename_i h1
   exact⟨eC h1,ti h⟩
  ·cases h
theorem vP {F:AV->Option AV}:∀ {l l':List AV},jW F l=some l'->l.length=l'.length/\∀ (i:Nat) (a a':AV),l[i]?=some a->l'[i]?=some a'->F a=some a'
 |[],l',h=>by obtain rfl:=Option.some.inj h;exact⟨rfl,fun i a a' h=>by simp at h⟩
 |b::l,l',h=>by
  simp only [jW] at h
  split at h
  ·rename_i b' hb
   split at h
   ·rename_i m hm
    obtain rfl:=Option.some.inj h
    obtain⟨h1,h2⟩:=vP hm
    refine⟨by simp [h1],fun i a a' ha cA=>?_⟩
    cases i with
    |zero=>simp at ha cA;subst ha cA;exact hb
    |succ i=>simp at ha cA;exact h2 i a a' ha cA
   ·cases h
  ·cases h
theorem sw {F:AV->Option AV}:∀ {l l':List (List AV)},qp F l=some l'->l.length=l'.length/\∀ (i:Nat) (a a':List AV),l[i]?=some a->l'[i]?=some a'->jW F a=some a'
 |[],l',h=>by obtain rfl:=Option.some.inj h;exact⟨rfl,fun i a a' h=>by simp at h⟩
 |b::l,l',h=>by
  simp only [qp] at h
  split at h
  ·rename_i b' hb
   split at h
   ·rename_i m hm
    obtain rfl:=Option.some.inj h
    obtain⟨h1,h2⟩:=sw hm
    refine⟨by simp [h1],fun i a a' ha cA=>?_⟩
    cases i with
    |zero=>simp at ha cA;subst ha cA;exact hb
    |succ i=>simp at ha cA;exact h2 i a a' ha cA
   ·cases h
  ·cases h
section
variable {S:ae}
theorem pv:∀ {m:Nat}{a a':AV},fT S m a=some a'->aU S a a'/\Pure a'
 |0,a,a',h=>by cases h
 |m+1,a,a',h=>by
  have xc:∀ {l l':List AV},jW (fT S m) l=some l'->∀ b ∈ l',Pure b:=fun {l l'} hl b hb=>by
   obtain⟨h1,h2⟩:=vP hl
   obtain⟨i,hi⟩:=List.getElem?_of_mem hb
   have au:i < l.length:=by rw [h1];exact (List.getElem?_eq_some_iff.1 hi).1
   exact (pv (h2 i _ b (List.getElem?_eq_getElem au) hi)).2
  have sy:∀ {l l':List AV},jW (fT S m) l=some l'->l.length=l'.length/\∀ (i:Nat) (a a':AV),l[i]?=some a->l'[i]?=some a'->aU S a a':=fun hl=>⟨(vP hl).1,fun i a a' h1 h2=>(pv ((vP hl).2 i a a' h1 h2)).1⟩
  have LP:∀ {l l':List (List AV)},qp (fT S m) l=some l'->∀ r ∈ l',∀ b ∈ r,Pure b:=fun {l l'} hl r hr=>by
   obtain⟨h1,h2⟩:=sw hl
   obtain⟨i,hi⟩:=List.getElem?_of_mem hr
   have au:i < l.length:=by rw [h1];exact (List.getElem?_eq_some_iff.1 hi).1
   exact xc (h2 i _ r (List.getElem?_eq_getElem au) hi)
  have atR:∀ {l l':List (List AV)},qp (fT S m) l=some l'->l.length=l'.length/\(∀ (i:Nat) (r r':List AV),l[i]?=some r->l'[i]?=some r'->r.length=r'.length) /\
    ∀ (i j:Nat) (r r':List AV) (a a':AV),l[i]?=some r->l'[i]?=some r'->r[j]?=some a->r'[j]?=some a'->aU S a a':=fun hl =>
   ⟨(sw hl).1,fun i r r' h1 h2=>(sy ((sw hl).2 i r r' h1 h2)).1,fun i j r r' a a' h1 h2 h3 h4=>(sy ((sw hl).2 i r r' h1 h2)).2 j a a' h3 h4⟩
  cases a with
  |v x=>obtain rfl:=Option.some.inj h;exact⟨.refl _,.v⟩
  |agg l =>
   simp only [fT] at h
   split at h
   ·rename_i l' hl
    obtain rfl:=Option.some.inj h
    exact⟨.agg (sy hl).1 (sy hl).2,.agg (xc hl)⟩
   ·cases h
  |bg l =>
   simp only [fT] at h
   split at h
   ·rename_i l' hl
    obtain rfl:=Option.some.inj h
    exact⟨.bg (sy hl).1 (sy hl).2,.bg (xc hl)⟩
   ·cases h
  |ip l =>
   simp only [fT] at h
   split at h
   ·rename_i l' hl
    obtain rfl:=Option.some.inj h
    exact⟨.ip (Nat.le_of_eq (sy hl).1.symm) (sy hl).2,.ip (xc hl)⟩
   ·cases h
  |sl ex rows =>
   simp only [fT] at h
   split at h
   ·rename_i l' hl
    obtain rfl:=Option.some.inj h
    exact⟨.sl (atR hl).1 (atR hl).2.1 (atR hl).2.2,.sl (LP hl)⟩
   ·cases h
  |fn f l c =>
   simp only [fT] at h
   split at h
   ·rename_i l' c' hl hc
    obtain rfl:=Option.some.inj h
    exact⟨.fn (sy hl).1 (sy hc).1 (sy hl).2 (sy hc).2,.fn (xc hl) (xc hc)⟩
   ·cases h
  |ob k sz off len cx =>
   simp only [fT] at h
   split at h
   ·rename_i sz' rows fz ex hk
    split at h
    ·rename_i hb
     simp only [Bool.and_eq_true] at hb
     have e:=Nat.eq_of_beq_eq_true hb.1
     have e2:=Nat.le_of_ble_eq_true hb.2
     subst e
     split at h
     ·rename_i l' hl
      obtain rfl:=Option.some.inj h
      obtain⟨q1,q2,q3⟩:=atR hl
      have hlen:l'.length=len:=by rw [<-q1];simp;omega
      have get:∀ (i:Nat) (row bB:List AV),rows[off+i]?=some row->l'[i]?=some bB->((rows.drop off).take len)[i]?=some row:=fun i row bB h1 h2=>by
       have:=(List.getElem?_eq_some_iff.1 h2).1
       rw [List.getElem?_take_of_lt (by omega),List.getElem?_drop]
       exact h1
      exact⟨.ob hk e2 hlen (fun i row bB h1 h2=>q2 i row bB (get i row bB h1 h2) h2) (fun i j row bB a a' h1 h2 h3 h4=>q3 i j row bB a a' (get i row bB h1 h2) h2 h3 h4),.sl (LP hl)⟩
     ·cases h
    ·cases h
   ·cases h
  |gr k sz len =>
   simp only [fT] at h
   split at h
   ·rename_i sz' rows fz ex hk
    split at h
    ·rename_i hb
     simp only [Bool.and_eq_true] at hb
     have e:=Nat.eq_of_beq_eq_true hb.1
     have e2:=Nat.le_of_ble_eq_true hb.2
     subst e
     split at h
     ·rename_i l' hl
      obtain rfl:=Option.some.inj h
      obtain⟨q1,q2,q3⟩:=atR hl
      have hlen:l'.length=len:=by rw [<-q1];simp;omega
      have get:∀ (i:Nat) (row bB:List AV),rows[i]?=some row->l'[i]?=some bB->(rows.take len)[i]?=some row:=fun i row bB h1 h2=>by
       have:=(List.getElem?_eq_some_iff.1 h2).1
       rw [List.getElem?_take_of_lt (by omega)]
       exact h1
      exact⟨.gr hk e2 hlen (fun i row bB h1 h2=>q2 i row bB (get i row bB h1 h2) h2) (fun i j row bB a a' h1 h2 h3 h4=>q3 i j row bB a a' (get i row bB h1 h2) h2 h3 h4),.sl (LP hl)⟩
     ·cases h
    ·cases h
   ·cases h
  |pt k sz i j =>
   simp only [fT] at h
   split at h
   ·rename_i sz' rows fz ex hk
    split at h
    ·rename_i hb
     have e:=Nat.eq_of_beq_eq_true hb
     subst e
     split at h
     ·rename_i row hi
      split at h
      ·rename_i hj
       have hj:=Nat.le_of_ble_eq_true hj
       split at h
       ·rename_i l' hl
        obtain rfl:=Option.some.inj h
        obtain⟨q1,q2⟩:=sy hl
        simp at q1
        exact⟨.pt hk hi (by omega) (fun q a a' h1 h2=>q2 q a a' (by rw [List.getElem?_drop];exact h1) h2),.ip (xc hl)⟩
       ·cases h
      ·cases h
     ·cases h
    ·cases h
   ·cases h
  |_=>cases h
theorem aU.mono {S T:ae}(h:∀ k sz rows fz ex,S.get k=some (.arr sz rows fz ex)->T.get k=some (.arr sz rows fz ex)) {a a':AV}(hf:aU S a a'):aU T a a':=by
 induction hf with
 |refl a=>exact .refl a
 |agg hl h ih=>exact .agg hl ih
 |bg hl h ih=>exact .bg hl ih
 |ob hk h1 h2 h3 h4 ih=>exact .ob (h _ _ _ _ _ hk) h1 h2 h3 ih
 |pt hk h1 h2 h3 ih=>exact .pt (h _ _ _ _ _ hk) h1 h2 ih
 |fn h1 h2 h3 h4 i1 i2=>exact .fn h1 h2 i1 i2
 |sl h1 h2 h3 ih=>exact .sl h1 h2 ih
 |ip h1 h2 ih=>exact .ip h1 ih
 |gr hk h1 h2 h3 h4 ih=>exact .gr (h _ _ _ _ _ hk) h1 h2 h3 ih
end
section
variable {P:Program}{w0:World}{n:Nat}{o:Oper}{α:AA}{S S':ae}{r:AV}
theorem St.zI {A:Nat->Prop}{g:Gh}{w:World}{k sz fz p:Nat}{rows more:List (List AV)}{ex:Bool}{cs:Array Value}{ty:TypeId}{news:List Value}(hS:St w0 A g S w) (hk:S.get k=some (.arr sz rows fz ex)) (ha:g.al k) (hc:w.heap[g.ob k]?=some (.cells cs ty (0,0)))
  (hl:∀ r ∈ more,r.length=sz) (hn:news.length=more.length*sz) (hr:∀ (i:Nat) (row:List AV) (j:Nat) (a:AV),more[i]?=some row->row[j]?=some a->∃ x,news[i*sz+j]?=some x/\aJ g w a x) (hp:p+more.length<=rows.length) (hf:fz<=p) :
  Ext A g w g (w.setRow (g.ob k) (cs.toList.take (p*sz)++news++cs.toList.drop (p*sz+news.length)).toArray)/\St w0 A g (S.set k (some (.arr sz (rows.take p++more++rows.drop (p+more.length)) fz ex))) (w.setRow (g.ob k) (cs.toList.take (p*sz)++news++cs.toList.drop (p*sz+news.length)).toArray):=by
 obtain⟨k2,k3,yh,lS,h1,h2,h3,h4,h5,h6,h7⟩:=hS.cC k _ hk ha
 obtain⟨rfl,rfl⟩:yh=cs/\lS=ty:=by
  rw [hc] at h1
  simp only [Option.some.injEq,Obj.cells.injEq] at h1
  exact⟨h1.1.symm,h1.2.1.symm⟩
 have hm:p*sz+more.length*sz<=g.cp k*sz:=by rw [<-Nat.add_mul];exact Nat.mul_le_mul_right sz (by omega)
 have ee:p*sz+news.length<=yh.toList.length:=by
  have e:=Array.length_toList (xs:=yh)
  rw [hn,e,h2];exact hm
 obtain⟨cs',nL⟩:∃ cs',cs'=(yh.toList.take (p*sz)++news++yh.toList.drop (p*sz+news.length)).toArray:=⟨_,rfl⟩
 rw [<-nL]
 have jS:∀ q,cs'[q]?=if q < p*sz then yh[q]? else if q < p*sz+news.length then news[q - p*sz]? else yh[q]?:=by
  intro q
  rw [nL,List.getElem?_toArray,pI _ _ _ ee]
  simp only [Array.getElem?_toList]
 have Gd:cs'.size=yh.size:=by
  rw [nL]
  simp at ee ⊢
  omega
 have ji:(rows.take p++more++rows.drop (p+more.length)).length=rows.length:=by simp;omega
 exact hS.row hk ha h1 (cs':=cs') (ob:=.arr sz (rows.take p++more++rows.drop (p+more.length)) fz ex) (fun J=>⟨by simp,by simp⟩) (fun q hq=>by
  have:=(h7 q).1 hq
  rw [jS,if_pos (Nat.lt_of_lt_of_le this (Nat.mul_le_mul_right sz hf))]) (fun hL=>by
  refine⟨cs',lS,setRow_heap w _ yh cs' lS (0,0) h1,Gd.trans h2,by rw [ji];exact h3,fun h=>by rw [ji];exact h4 h,fun i row hi=>?_,by rw [ji];exact h6,h7⟩
  rw [pI _ _ _ hp] at hi
  split at hi
  ·rename_i c1
   refine⟨(h5 i row hi).1,fun j a cA=>?_⟩
   obtain⟨x,hx,dw⟩:=(h5 i row hi).2 j a cA
   have hj:j < sz:=by rw [<-(h5 i row hi).1];exact (List.getElem?_eq_some_iff.1 cA).1
   exact⟨x,by rw [jS,if_pos (jr c1 hj)];exact hx,dw.later hL⟩
  ·rename_i c1
   split at hi
   ·rename_i c2
    have ji:=hl row (List.mem_of_getElem? hi)
    refine⟨ji,fun j a cA=>?_⟩
    obtain⟨x,hx,dw⟩:=hr _ row j a hi cA
    have au:=(List.getElem?_eq_some_iff.1 hx).1
    have e:i*sz=p*sz+(i - p)*sz:=by rw [<-Nat.add_mul];congr 1;omega
    exact⟨x,by rw [jS,if_neg (by omega),if_pos (by omega),show i*sz+j - p*sz=(i - p)*sz+j by omega];exact hx,dw.later hL⟩
   ·rename_i c2
    refine⟨(h5 i row hi).1,fun j a cA=>?_⟩
    obtain⟨x,hx,dw⟩:=(h5 i row hi).2 j a cA
    have e:p*sz+news.length<=i*sz:=by rw [hn,<-Nat.add_mul];exact Nat.mul_le_mul_right sz (by omega)
    exact⟨x,by rw [jS,if_neg (by omega),if_neg (by omega)];exact hx,dw.later hL⟩)
theorem kN {t e:TypeId}(h:fk P t=some e):P.underlying t=some (.slice e):=by
 unfold fk at h
 split at h
 ·obtain rfl:=Option.some.inj h;assumption
 ·cases h
theorem xd {sz:Nat}{a b:QO}{o:Op}(h:res P.toTables o=some (.copy sz a b)):∃ c t t2 u v e e2,o=.call c/\c.callee=.builtin .copy/\c.argTypes=#[t,t2]/\c.args=#[u,v]/\a=qo u/\b=qo v/\fk P t=some e/\fk P t2=some e2/\cQ P e=some sz:=by
 cases o<;>simp only [res,jz,dY] at h<;>(repeat' split at h)<;>(try cases h)
 exact⟨_,_,_,_,_,_,_,rfl,by assumption,by rw [<-Array.toArray_toList (xs:=Call.argTypes _)];congr,by rw [<-Array.toArray_toList (xs:=Call.args _)];congr,rfl,rfl,by assumption,by assumption,by assumption⟩
theorem AE (w:World) (t t2 ty e:TypeId) (i:TypeInfo) (ht:P.underlying t=some (.slice e)) (hi:P.info? e=some i) (d a:Option Addr) (dl dc c:Nat):(Builtin.copy_ #[t,t2] ty #[.slice d dl dc,.slice a 0 c]).run P w=.ok (goInt 0) w:=by
 have hl:∀ (x:Addr),(loadCells x 0).run P w=.ok #[] w:=fun x=>by simpa using run_loadCells_list (P:=P) w x [] (by simp)
 cases d<;>cases a<;>simp [Builtin.copy_,run_underlying ht,Builtin.lenOf,Builtin.firstCells,sizeOf,typeInfo,hi,storeCells,hl]
theorem JG (w:World) (t t2 ty e lS:TypeId) (i:TypeInfo) (ht:P.underlying t=some (.slice e)) (hi:P.info? e=some i) (g q dl dc:Nat) (cur:Array Value) (hg:w.heap[g]?=some (.cells cur lS (0,0)))
  (a:Addr) (m c:Nat) (news:List Value) (hl:news.length=m*i.size) (pw:∀ j u,news[j]?=some u->w.cell? (a.add j)=some u) (h1:∀ u ∈ news,u.oneCell'=true) (hle:m<=dl) (ee:q+news.length<=cur.size) :
  (Builtin.copy_ #[t,t2] ty #[.slice (some ⟨g,q,none⟩) dl dc,.slice (some a) m c]).run P w=.ok (goInt m) (w.setRow g (cur.toList.take q++news++cur.toList.drop (q+news.length)).toArray):=by
 have hf:=run_firstCells_some (P:=P) w i.size m a m c news hl pw
 have jf:=run_storeCells_at P g q lS news 0 cur w hg (by simpa using ee) h1
 simp only [Nat.add_zero] at jf
 have hn:Nat.min m dl=m:=Nat.min_eq_left hle
 simp [Builtin.copy_,run_underlying ht,sizeOf,typeInfo,hi,Builtin.lenOf,hn,hf,jf]
theorem ad.abG {sz k sz' off len:Nat}{cx:Option Nat}{a b:QO}(hx:a.ev α.tm=.ob k sz' off len cx) (hm:dh S (b.ev α.tm)=some []):ad P w0 false (.copy sz a b) α S (.v (.int .i64 0)) S:=ad.run fun n o hr=>by
 obtain⟨c,t,t2,u,v,e,e2,ho,hc,fe,bA,rfl,rfl,ht,eZ,hs⟩:=xd hr
 rw [aR] at hx hm
 obtain⟨hm,hlen⟩:=cZ hm
 have ht:=kN ht
 obtain⟨i,hi,bH⟩:=ic hs
 intro A g q w hS hA
 have g1:=hA.ev u
 have g2:=hA.ev v
 rw [hx] at g1
 obtain⟨cc,e1,_⟩:=fV g1
 obtain⟨B,c2,e3⟩:=mZ (by simpa using hlen) hm g2
 refine⟨_,_,g,.inl ?_,.v,hS,.refl _ _ _⟩
 have cr:(execOp q.eval o).run P w=((Builtin.copy_ #[t,t2] o.type #[q.eval u,q.eval v]).run P w).andThen fun v w'=>.ok (.value v) w':=by
  simp [execOp,ho,resolve,hc,fe,bA,invoke,builtin]
 rw [cr,e1,e3,AE w t t2 o.type e i ht hi]
 rfl
theorem ad.abH {dr:Bool}{sz:Nat}{e1 e2:Bool}{a b:QO}(hx:a.ev α.tm=.sl e1 []) (hy:b.ev α.tm=.sl e2 []):ad P w0 dr (.copy sz a b) α S (.v (.int .i64 0)) S:=by
 have key:∀ (α:AA) (S:ae) (n:Nat) (o:Oper) (c:Call) (t t2:TypeId) (u v:Operand) (e:TypeId),o.op=.call c->c.callee=.builtin .copy->c.argTypes=#[t,t2]->c.args=#[u,v]->fk P t=some e->cQ P e=some sz->α.ev u=.sl e1 []->α.ev v=.sl e2 []->bf P w0 n o α S (.v (.int .i64 0)) S:=by
  intro α S n o c t t2 u v e ho hc fe bA ht hs hx hy
  have ht:=kN ht
  obtain⟨i,hi,bH⟩:=ic hs
  intro A g q w hS hA
  have g1:=hA.ev u
  have g2:=hA.ev v
  rw [hx] at g1
  rw [hy] at g2
  obtain⟨B1,c1,f1⟩:=mZ (S:=ae.none_) rfl rfl g1
  obtain⟨B2,c2,f2⟩:=mZ (S:=ae.none_) rfl rfl g2
  refine⟨_,_,g,.inl ?_,.v,hS,.refl _ _ _⟩
  have cr:(execOp q.eval o).run P w=((Builtin.copy_ #[t,t2] o.type #[q.eval u,q.eval v]).run P w).andThen fun v w'=>.ok (.value v) w':=by
   simp [execOp,ho,resolve,hc,fe,bA,invoke,builtin]
  rw [cr,f1,f2,AE w t t2 o.type e i ht hi]
  rfl
 have go:∀ (n:Nat) (o:Oper),res P.toTables o.op=some (.copy sz a b)->ew P w0 n o (α.only (dp o)) S (.v (.int .i64 0)) S/\(∀ T,ew P w0 n o (α.only (dp o)) T (.v (.int .i64 0)) T)/\ew P w0 n o α S (.v (.int .i64 0)) S:=by
  intro n o hr
  obtain⟨c,t,t2,u,v,e,e2',ho,hc,fe,bA,rfl,rfl,ht,eZ,hs⟩:=xd hr
  rw [aR] at hx hy
  have e:∀ z ∈ [u,v],(α.only (dp o)).ev z=α.ev z:=fun z hz=>jw fun t ht=>iN (by rw [ho];simp only [Op.operands,Call.operands,bA,<-ht];simp at hz ⊢;rcases hz with rfl|rfl<;>simp)
  have hd:∀ c,o.op ≠ .defer c:=fun c e=>by rw [ho] at e;cases e
  exact⟨(key _ _ n o c t t2 u v _ ho hc fe bA ht hs (by rw [e u (by simp)];exact hx) (by rw [e v (by simp)];exact hy)).ops hd,fun T=>(key _ _ n o c t t2 u v _ ho hc fe bA ht hs (by rw [e u (by simp)];exact hx) (by rw [e v (by simp)];exact hy)).ops hd,(key _ _ n o c t t2 u v _ ho hc fe bA ht hs hx hy).ops hd⟩
 cases dr with
 |false=>exact fun n o hr=>(go n o hr).2.2
 |true=>exact fun n o hr=>⟨(go n o hr).1,fun _=>⟨rfl,(go n o hr).2.1⟩,fun _=>rfl⟩
theorem ad.cpy {sz k off len fz:Nat}{cx:Option Nat}{a b:QO}{rows more:List (List AV)}{x:List AV}{ex:Bool}(hx:a.ev α.tm=.ob k sz off len cx) (hk:S.get k=some (.arr sz rows fz ex)) (hm:dh S (b.ev α.tm)=some (x::more)) (hle:(x::more).length<=len) (nt:off+len<=rows.length) (hf:fz<=off)
  (h3:∀ row ∈ x::more,row.length=sz/\row.all cn=true):ad P w0 false (.copy sz a b) α S (.v (.int .i64 (x::more).length)) (S.set k (some (.arr sz (rows.take off++(x::more)++rows.drop (off+(x::more).length)) fz ex))):=ad.run fun n o hr=>by
 obtain⟨c,t,t2,u,v,e,e2,ho,hc,fe,bA,rfl,rfl,ht,eZ,hs⟩:=xd hr
 rw [aR] at hx hm
 obtain⟨hm,hlen⟩:=cZ hm
 have ht:=kN ht
 obtain⟨i,hi,bH⟩:=ic hs
 intro A g q w hS hA
 have g1:=hA.ev u
 have g2:=hA.ev v
 rw [hx] at g1
 obtain⟨cc,e1,bN,_,_,_,_⟩:=fV g1
 obtain⟨b2,q2,c2,news,e3,Ge,jA⟩:=lq hS hm g2 (by simp) (fun r hr=>(h3 r hr).1) hlen
 obtain⟨k2,k3,cs,lS,p1,p2,p3,p4,p5,p6,p7⟩:=hS.cC k _ hk bN
 have g_:off*sz+(x::more).length*sz<=g.cp k*sz:=by rw [<-Nat.add_mul];exact Nat.mul_le_mul_right sz (by omega)
 have ee:off*sz+news.length<=cs.size:=by rw [jA.1,p2];omega
 have cr:=JG (P:=P) w t t2 o.type e lS i ht hi (g.ob k) (off*sz) len cc cs p1 ⟨b2,q2,none⟩ (x::more).length c2 news (by rw [jA.1,bH]) jA.2.1 (xe jA h3) hle ee
 obtain⟨hE,dg⟩:=hS.zI (p:=off) (more:=x::more) (news:=news) hk bN p1 (fun r hr=>(h3 r hr).1) jA.1 (fun i row j a hi ha=>jA.2.2 i row hi j a ha) (by omega) hf
 refine⟨_,_,g,.inl ?_,.v,dg,hE⟩
 have hx:(execOp q.eval o).run P w=((Builtin.copy_ #[t,t2] o.type #[q.eval u,q.eval v]).run P w).andThen fun v w'=>.ok (.value v) w':=by
  simp [execOp,ho,resolve,hc,fe,bA,invoke,builtin]
 rw [hx,e1,e3,cr]
 rfl
end
end Go.Proofs.YtbofilglphfceaaGreat
