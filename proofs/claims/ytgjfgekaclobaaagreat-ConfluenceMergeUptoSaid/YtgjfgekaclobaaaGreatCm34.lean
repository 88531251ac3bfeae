import Derived.Test.YtgjfgekaclobaaaGreatCm33
namespace Go.Proofs.YtgjfgekaclobaaaGreat
set_option linter.unusedVariables false
set_option linter.unusedSimpArgs false
open Go.RowKit
inductive Tr (α:Type) where
 |nil
 |nd (l:Tr α) (v:Option α) (r:Tr α)
def ef {α:Type}:Tr α->Nat->Option α
 |.nil,_=>none
 |.nd l v r,k=>match Nat.beq k 0 with
  |true=>v
  |false=>match Nat.beq (k % 2) 1 with
   |true=>ef l (k / 2)
   |false=>ef r (k / 2 - 1)
def o3 {α:Type}:Nat->Tr α->Nat->α->Tr α
 |0,t,_,_=>t
 |m+1,.nil,k,a=>match Nat.beq k 0 with
  |true=>.nd .nil (some a) .nil
  |false=>match Nat.beq (k % 2) 1 with
   |true=>.nd (o3 m .nil (k / 2) a) none .nil
   |false=>.nd .nil none (o3 m .nil (k / 2 - 1) a)
 |m+1,.nd l v r,k,a=>match Nat.beq k 0 with
  |true=>.nd l (some a) r
  |false=>match Nat.beq (k % 2) 1 with
   |true=>.nd (o3 m l (k / 2) a) v r
   |false=>.nd l v (o3 m r (k / 2 - 1) a)
theorem uV {i j:Nat}(h:Nat.beq i j=false):i ≠ j:=fun e=>by rw [e,Nat.beq_refl] at h;cases h
theorem LB {α:Type}{a:α}:∀ {m:Nat}{t:Tr α}{k j:Nat},k < m->ef (o3 m t k a) j=if j=k then some a else ef t j:=by
 have step:∀ (l:Tr α) (v:Option α) (r:Tr α) (j:Nat),ef (.nd l v r) j=if j=0 then v else if j % 2=1 then ef l (j / 2) else ef r (j / 2 - 1):=by
  intro l v r j
  simp only [ef]
  cases h0:Nat.beq j 0 with
  |true=>rw [if_pos (Nat.eq_of_beq_eq_true h0)]
  |false =>
   rw [if_neg (uV h0)]
   cases h1:Nat.beq (j % 2) 1 with
   |true=>rw [if_pos (Nat.eq_of_beq_eq_true h1)]
   |false=>rw [if_neg (uV h1)]
 have nil:∀ j,ef (Tr.nil:Tr α) j=none:=fun j=>rfl
 have U3:∀ (m:Nat) (t:Tr α) (k:Nat),∃ l v r,(∀ j,ef t j=ef (.nd l v r) j)/\o3 (m+1) t k a=if k=0 then .nd l (some a) r else if k % 2=1 then .nd (o3 m l (k / 2) a) v r else .nd l v (o3 m r (k / 2 - 1) a):=by
  intro m t k
  have key:∀ {X Y Z:Tr α},(match Nat.beq k 0 with|true=>X|false=>match Nat.beq (k % 2) 1 with|true=>Y|false=>Z)=if k=0 then X else if k % 2=1 then Y else Z:=by
   intro X Y Z
   cases h0:Nat.beq k 0 with
   |true=>rw [if_pos (Nat.eq_of_beq_eq_true h0)]
   |false =>
    rw [if_neg (uV h0)]
    cases h1:Nat.beq (k % 2) 1 with
    |true=>rw [if_pos (Nat.eq_of_beq_eq_true h1)]
    |false=>rw [if_neg (uV h1)]
  cases t with
  |nil =>
   refine⟨.nil,none,.nil,fun j=>?_,by rw [o3,key]⟩
   rw [step,nil]
   repeat' split
   all_goals rfl
  |nd l v r=>exact⟨l,v,r,fun j=>rfl,by rw [o3,key]⟩
 intro m
 induction m with
 |zero=>intro t k j h;omega
 |succ m ih =>
  intro t k j h
  obtain⟨l,v,r,h1,h2⟩:=U3 m t k
  rw [h2,h1 j]
  by_cases k0:k=0
  ·subst k0
   rw [if_pos rfl,step,step]
   by_cases j0:j=0
   ·rw [if_pos j0,if_pos j0]
   ·rw [if_neg j0,if_neg j0,if_neg j0]
  ·rw [if_neg k0]
   by_cases k1:k % 2=1
   ·rw [if_pos k1,step,step]
    by_cases j0:j=0
    ·rw [if_pos j0,if_pos j0,if_neg (by omega)]
    ·rw [if_neg j0,if_neg j0]
     by_cases j1:j % 2=1
     ·rw [if_pos j1,if_pos j1,ih (by omega)]
      by_cases e:j=k
      ·rw [if_pos e,if_pos (by omega)]
      ·rw [if_neg e,if_neg (by omega)]
     ·rw [if_neg j1,if_neg j1,if_neg (by omega)]
   ·rw [if_neg k1,step,step]
    by_cases j0:j=0
    ·rw [if_pos j0,if_pos j0,if_neg (by omega)]
    ·rw [if_neg j0,if_neg j0]
     by_cases j1:j % 2=1
     ·rw [if_pos j1,if_pos j1,if_neg (by omega)]
     ·rw [if_neg j1,if_neg j1,ih (by omega)]
      by_cases e:j=k
      ·rw [if_pos e,if_pos (by omega)]
      ·rw [if_neg e,if_neg (by omega)]
def put {α:Type}(t:Tr α) (k:Nat) (a:α):Tr α:=o3 (k+1) t k a
theorem kh {α:Type}{a:α}{t:Tr α}{k j:Nat}:ef (put t k a) j=if j=k then some a else ef t j:=LB (Nat.lt_succ_self k)
def dI (t:Tr AV):Nat->AV:=fun k=>match ef t k with|some a=>a|none=>.u
theorem rT {t:Tr AV}{d:Nat}{a:AV}:dI (put t d a)=aX (dI t) d a:=by
 funext k
 unfold dI
 rw [kh]
 by_cases e:k=d
 ·subst e;rw [if_pos rfl,ah]
 ·rw [if_neg e,aq _ _ e]
def rU (d:Option Nat) (t:Tr AV) (a:AV):Tr AV:=match d with|some d=>put t d a|none=>t
theorem o4 {d:Option Nat}{t:Tr AV}{a:AV}{l:List DE}:bJ d ⟨dI t,l⟩ a=⟨dI (rU d t a),l⟩:=by
 cases d with
 |none=>rfl
 |some d=>show (⟨aX (dI t) d a,l⟩:AA)=⟨dI (put t d a),l⟩;rw [rT]
def ov:List AV->Nat->Tr AV->Tr AV
 |[],_,t=>t
 |a::l,i,t=>ov l (i+1) (put t i a)
theorem Eo:∀ {l:List AV}{i:Nat}{t:Tr AV}{k:Nat},dI (ov l i t) k=if i<=k/\k < i+l.length then (l[k - i]?).getD .u else dI t k
 |[],i,t,k=>by rw [ov,if_neg (by simp)]
 |a::l,i,t,k=>by
  rw [ov,Eo,rT]
  by_cases h1:i+1<=k/\k < i+1+l.length
  ·rw [if_pos h1,if_pos (by simp;omega),show k - i=(k - (i+1))+1 by omega]
   rfl
  ·rw [if_neg h1]
   by_cases e:k=i
   ·subst e
    rw [ah,if_pos (by simp),Nat.sub_self]
    rfl
   ·rw [aq _ _ e,if_neg (by simp at h1 ⊢;omega)]
theorem LC {args:List AV}:dI (ov args 0 .nil)=j7 args:=by
 funext k
 rw [Eo]
 by_cases h:0<=k/\k < 0+args.length
 ·rw [if_pos h];rfl
 ·rw [if_neg h]
  unfold j7
  rw [List.getElem?_eq_none (by omega)]
  rfl
def uW (t:Tr AV):List (Nat × AV)->Tr AV
 |[]=>t
 |p::l=>uW (put t p.1 p.2) l
theorem zW:∀ {l:List (Nat × AV)}{t:Tr AV},dI (uW t l)=rB (dI t) l
 |[],t=>rfl
 |p::l,t=>by rw [uW,zW,rT];rfl
def toLk {α:Type}:Tr α->List (Nat × α)
 |.nil=>[]
 |.nd l v r=>(match v with|some a=>[(0,a)]|none=>[])++((toLk l).map (fun p=>(2*p.1+1,p.2))++(toLk r).map (fun p=>(2*p.1+2,p.2)))
theorem Ep {α:Type}(l:Tr α) (v:Option α) (r:Tr α) (j:Nat):ef (.nd l v r) j=if j=0 then v else if j % 2=1 then ef l (j / 2) else ef r (j / 2 - 1):=by
 simp only [ef]
 cases h0:Nat.beq j 0 with
 |true=>rw [if_pos (Nat.eq_of_beq_eq_true h0)]
 |false =>
  rw [if_neg (uV h0)]
  cases h1:Nat.beq (j % 2) 1 with
  |true=>rw [if_pos (Nat.eq_of_beq_eq_true h1)]
  |false=>rw [if_neg (uV h1)]
theorem toLk_mem {α:Type}:∀ {t:Tr α}{k:Nat}{a:α},(k,a) ∈ toLk t ↔ ef t k=some a
 |.nil,k,a=>by simp [toLk,ef]
 |.nd l v r,k,a=>by
  rw [Ep]
  simp only [toLk,List.mem_append,List.mem_map]
  constructor
  ·rintro (h|⟨⟨j,b⟩,h,e⟩|⟨⟨j,b⟩,h,e⟩)
   ·cases v with
    |none=>cases h
    |some b =>
     simp only [List.mem_singleton,Prod.mk.injEq] at h
     obtain⟨rfl,rfl⟩:=h
     rfl
   ·simp only [Prod.mk.injEq] at e
    obtain⟨rfl,rfl⟩:=e
    rw [if_neg (by omega),if_pos (by omega),show (2*j+1) / 2=j by omega]
    exact toLk_mem.1 h
   ·simp only [Prod.mk.injEq] at e
    obtain⟨rfl,rfl⟩:=e
    rw [if_neg (by omega),if_neg (by omega),show (2*j+2) / 2 - 1=j by omega]
    exact toLk_mem.1 h
  ·intro h
   by_cases k0:k=0
   ·rw [if_pos k0] at h
    subst k0
    rw [h]
    exact .inl (by simp)
   ·rw [if_neg k0] at h
    by_cases k1:k % 2=1
    ·rw [if_pos k1] at h
     exact .inr (.inl ⟨(k / 2,a),toLk_mem.2 h,by simp;omega⟩)
    ·rw [if_neg k1] at h
     exact .inr (.inr ⟨(k / 2 - 1,a),toLk_mem.2 h,by simp;omega⟩)
abbrev FJ:=Nat->(Nat->Nat->Prop)->(Nat->Prop)->World->Prop
structure XS where
 m:Tr (Option Ob)
 nx:Nat
 lw:Nat
 yk:Option Nat
 an:Nat
 lg:List (List AV × Bool)
def cY (o:Option Nat) (k:Nat):Bool:=match o with|some j=>Nat.beq j k|none=>false
def dJ (s:XS) (k:Nat):Option Ob:=match ef s.m k with|some o=>o|none=>none
def den (J:FJ) (s:XS):aa:=⟨fun k=>match cY s.yk k with|true=>some (.fo J)|false=>dJ s k,s.nx⟩
def dy (s:XS):aa:=⟨fun k=>match cY s.yk k with|true=>none|false=>dJ s k,s.nx⟩
def jb (s:XS) (k:Nat) (o:Option Ob):XS:=⟨put s.m k o,s.nx,Nat.min s.lw k,s.yk,s.an,s.lg⟩
def jA (s:XS) (o:Ob):XS:=⟨put s.m s.nx (some o),s.nx+1,Nat.min s.lw s.nx,s.yk,s.an,s.lg⟩
theorem On {o:Option Nat}{k:Nat}(h:cY o k=true):o=some k:=by
 cases o with
 |none=>cases h
 |some j=>rw [Nat.eq_of_beq_eq_true h]
theorem cz {J:FJ}{s:XS}{k:Nat}{o:Ob}(h:(dy s).get k=some o):(den J s).get k=some o/\cY s.yk k=false:=by
 have h:(match cY s.yk k with|true=>none|false=>dJ s k)=some o:=h
 show (match cY s.yk k with|true=>some (.fo J)|false=>dJ s k)=some o/\_
 cases e:cY s.yk k with
 |true=>rw [e] at h;cases h
 |false=>rw [e] at h;exact⟨h,rfl⟩
theorem gD {J:FJ}{s:XS}{k:Nat}{o:Option Ob}(hk:cY s.yk k=false):den J (jb s k o)=(den J s).set k o:=by
 unfold den jb aa.set
 simp only [aa.mk.injEq,and_true]
 funext j
 unfold dJ
 simp only [kh]
 by_cases e:j=k
 ·subst e;rw [hk,ah,if_pos rfl]
 ·rw [aq _ _ e,if_neg e]
theorem gE {J:FJ}{s:XS}{o:Ob}(hk:cY s.yk s.nx=false):den J (jA s o)=(den J s).new o:=by
 unfold den jA aa.new
 simp only [aa.mk.injEq,and_true]
 funext j
 unfold dJ
 simp only [kh]
 by_cases e:j=s.nx
 ·subst e;rw [hk,ah,if_pos rfl]
 ·rw [aq _ _ e,if_neg e]
inductive tP (P:Program) (w0:World):FJ->List (List AV × Bool)->FJ->Prop where
 |nil (J:FJ):tP P w0 J [] J
 |cons {J J1 J':FJ}{x:List AV}{b:Bool}{l:List (List AV × Bool)}(h:∀ (T:aa) (k:Nat),T.get k=some (.fo J)->s9 P w0 k x T (.v (.bool b)) (T.set k (some (.fo J1)))) (t:tP P w0 J1 l J'):tP P w0 J ((x,b)::l) J'
section
variable {P:Program}{w0:World}
theorem tP.app:∀ {l m:List (List AV × Bool)}{J J':FJ},tP P w0 J (l++m) J'->∃ J1,tP P w0 J l J1/\tP P w0 J1 m J'
 |[],m,J,J',h=>⟨J,.nil J,h⟩
 |(x,b)::l,m,J,J',h=>by
  cases h with
  |cons h t =>
   obtain⟨J1,h1,h2⟩:=t.app
   exact⟨J1,.cons h h1,h2⟩
structure cZ (s s':XS):Prop where
 lw:s'.lw<=s.lw
 nx:s.nx<=s'.nx
 yk:s'.yk=s.yk
 lg:∃ L,s'.lg=L++s.lg
 aJ:∀ k,k < s'.lw->dJ s' k=dJ s k
theorem cZ.refl (s:XS):cZ s s:=⟨Nat.le_refl _,Nat.le_refl _,rfl,⟨[],rfl⟩,fun _ _=>rfl⟩
theorem cZ.trans {s1 s2 s3:XS}(h:cZ s1 s2) (k:cZ s2 s3):cZ s1 s3:=by
 obtain⟨L,hL⟩:=h.lg
 obtain⟨M,hM⟩:=k.lg
 exact⟨Nat.le_trans k.lw h.lw,Nat.le_trans h.nx k.nx,k.yk.trans h.yk,⟨M++L,by rw [hM,hL,List.append_assoc]⟩,fun j hj=>(k.aJ j hj).trans (h.aJ j (Nat.lt_of_lt_of_le hj k.lw))⟩
theorem cZ.wr {s:XS}{k:Nat}{o:Option Ob}:cZ s (jb s k o):=by
 refine⟨Nat.min_le_left _ _,Nat.le_refl _,rfl,⟨[],rfl⟩,fun j hj=>?_⟩
 have:j < k:=Nat.lt_of_lt_of_le hj (Nat.min_le_right _ _)
 unfold dJ jb
 simp only [kh]
 rw [if_neg (by omega)]
theorem cZ.nw {s:XS}{o:Ob}:cZ s (jA s o):=by
 refine⟨Nat.min_le_left _ _,Nat.le_succ _,rfl,⟨[],rfl⟩,fun j hj=>?_⟩
 have:j < s.nx:=Nat.lt_of_lt_of_le hj (Nat.min_le_right _ _)
 unfold dJ jA
 simp only [kh]
 rw [if_neg (by omega)]
def gF (P:Program) (w0:World) (s s':XS) (J J':FJ):Prop:=∃ L,s'.lg=L++s.lg/\tP P w0 J L.reverse J'
theorem gF.same {s s':XS}{J J':FJ}(h:gF P w0 s s' J J') (e:s'.lg=s.lg):J'=J:=by
 obtain⟨L,h1,h2⟩:=h
 rw [e] at h1
 have:L=[]:=by
  have:=congrArg List.length h1
  simp at this
  exact this
 subst this
 cases h2
 rfl
theorem gF.split {s1 s2 s3:XS}{J J':FJ}(h:cZ s1 s2) (k:cZ s2 s3) (hc:gF P w0 s1 s3 J J'):∃ J1,gF P w0 s1 s2 J J1/\gF P w0 s2 s3 J1 J':=by
 obtain⟨L,hL⟩:=h.lg
 obtain⟨M,hM⟩:=k.lg
 obtain⟨X,hX,hJ⟩:=hc
 rw [hM,hL,<-List.append_assoc] at hX
 obtain rfl:=List.append_cancel_right hX
 rw [List.reverse_append] at hJ
 obtain⟨J1,h1,h2⟩:=hJ.app
 exact⟨J1,⟨L,hL,h1⟩,⟨M,hM,h2⟩⟩
end
def jm (F:AV->Option AV):List AV->Option (List AV)
 |[]=>some []
 |a::l=>match F a with
  |some a'=>match jm F l with
   |some l'=>some (a'::l')
   |none=>none
  |none=>none
def o5 (F:AV->Option AV):List (List AV)->Option (List (List AV))
 |[]=>some []
 |a::l=>match jm F a with
  |some a'=>match o5 F l with
   |some l'=>some (a'::l')
   |none=>none
  |none=>none
def fk (S:aa):Nat->AV->Option AV
 |0,_=>none
 |m+1,a=>match a with
  |.v x=>some (.v x)
  |.agg l=>match jm (fk S m) l with|some l'=>some (.agg l')|none=>none
  |.aC l=>match jm (fk S m) l with|some l'=>some (.aC l')|none=>none
  |.sl _ rows=>match o5 (fk S m) rows with|some l'=>some (.sl false l')|none=>none
  |.ip cs=>match jm (fk S m) cs with|some l'=>some (.ip l')|none=>none
  |.fn f l c=>match jm (fk S m) l,jm (fk S m) c with|some l',some c'=>some (.fn f l' c')|_,_=>none
  |.ob k sz off len _=>match S.get k with
   |some (.arr sz' rows _ _)=>match Nat.beq sz' sz && Nat.ble (off+len) rows.length with
    |true=>match o5 (fk S m) ((rows.drop off).take len) with|some l'=>some (.sl false l')|none=>none
    |false=>none
   |_=>none
  |.gr k sz len=>match S.get k with
   |some (.arr sz' rows _ _)=>match Nat.beq sz' sz && Nat.ble len rows.length with
    |true=>match o5 (fk S m) (rows.take len) with|some l'=>some (.sl false l')|none=>none
    |false=>none
   |_=>none
  |.pt k sz i j=>match S.get k with
   |some (.arr sz' rows _ _)=>match Nat.beq sz' sz with
    |true=>match rows[i]? with
     |some row=>match Nat.ble j row.length with
      |true=>match jm (fk S m) (row.drop j) with|some l'=>some (.ip l')|none=>none
      |false=>none
     |none=>none
    |false=>none
   |_=>none
  |_=>none
def eV (F:AV->Bool):List AV->Bool
 |[]=>true
 |a::l=>match F a with|true=>eV F l|false=>false
def o6 (F:AV->Bool):List (List AV)->Bool
 |[]=>true
 |a::l=>match eV F a with|true=>o6 F l|false=>false
def gJ:Nat->AV->Bool
 |0,_=>false
 |m+1,a=>match a with
  |.v _=>true
  |.agg l|.aC l|.ip l=>eV (gJ m) l
  |.sl _ rows=>o6 (gJ m) rows
  |.fn _ l c=>match eV (gJ m) l with|true=>eV (gJ m) c|false=>false
  |_=>false
theorem cW {F:AV->Bool}:∀ {l:List AV},eV F l=true->∀ a ∈ l,F a=true
 |[],_,a,h=>by cases h
 |b::l,hp,a,h=>by
  simp only [eV] at hp
  split at hp
  ·rename_i hb
   rcases List.mem_cons.1 h with rfl|h
   ·exact hb
   ·exact cW hp a h
  ·cases hp
theorem jn {F:AV->Bool}:∀ {l:List (List AV)},o6 F l=true->∀ r ∈ l,∀ a ∈ r,F a=true
 |[],_,a,h=>by cases h
 |b::l,hp,a,h=>by
  simp only [o6] at hp
  split at hp
  ·rename_i hb
   rcases List.mem_cons.1 h with rfl|h
   ·exact cW hb
   ·exact jn hp a h
  ·cases hp
theorem dS:∀ {m:Nat}{a:AV},gJ m a=true->Pure a
 |0,a,h=>by cases h
 |m+1,a,h=>by
  cases a with
  |v x=>exact .v
  |agg l=>exact .agg fun a ha=>dS (cW h a ha)
  |aC l=>exact .aC fun a ha=>dS (cW h a ha)
  |ip l=>exact .ip fun a ha=>dS (cW h a ha)
  |sl ex rows=>exact .sl fun r hr a ha=>dS (jn h r hr a ha)
  |fn f l c =>
   simp only [gJ] at h
   split at h
   ·rename_i h1
    exact .fn (fun a ha=>dS (cW h1 a ha)) (fun a ha=>dS (cW h a ha))
   ·cases h
  |_=>cases h
theorem rV {m:Nat}:∀ {l:List AV},eV (gJ m) l=true->du l
 |[],_=>trivial
 |a::l,h=>by
  simp only [eV] at h
  split at h
  ·rename_i h1
   exact⟨dS h1,rV h⟩
  ·cases h
theorem uX {F:AV->Option AV}:∀ {l l':List AV},jm F l=some l'->l.length=l'.length/\∀ (i:Nat) (a a':AV),l[i]?=some a->l'[i]?=some a'->F a=some a'
 |[],l',h=>by obtain rfl:=Option.some.inj h;exact⟨rfl,fun i a a' h=>by simp at h⟩
 |b::l,l',h=>by
  simp only [jm] at h
  split at h
  ·rename_i b' hb
   split at h
   ·rename_i m hm
    obtain rfl:=Option.some.inj h
    obtain⟨h1,h2⟩:=uX hm
    refine⟨by simp [h1],fun i a a' ha bL=>?_⟩
    cases i with
    |zero=>simp at ha bL;subst ha bL;exact hb
    |succ i=>simp at ha bL;exact h2 i a a' ha bL
   ·cases h
  ·cases h
theorem qL {F:AV->Option AV}:∀ {l l':List (List AV)},o5 F l=some l'->l.length=l'.length/\∀ (i:Nat) (a a':List AV),l[i]?=some a->l'[i]?=some a'->jm F a=some a'
 |[],l',h=>by obtain rfl:=Option.some.inj h;exact⟨rfl,fun i a a' h=>by simp at h⟩
 |b::l,l',h=>by
  simp only [o5] at h
  split at h
  ·rename_i b' hb
   split at h
   ·rename_i m hm
    obtain rfl:=Option.some.inj h
    obtain⟨h1,h2⟩:=qL hm
    refine⟨by simp [h1],fun i a a' ha bL=>?_⟩
    cases i with
    |zero=>simp at ha bL;subst ha bL;exact hb
    |succ i=>simp at ha bL;exact h2 i a a' ha bL
   ·cases h
  ·cases h
section
variable {S:aa}
theorem ow:∀ {m:Nat}{a a':AV},fk S m a=some a'->bX S a a'/\Pure a'
 |0,a,a',h=>by cases h
 |m+1,a,a',h=>by
  have wM:∀ {l l':List AV},jm (fk S m) l=some l'->∀ b ∈ l',Pure b:=fun {l l'} hl b hb=>by
   obtain⟨h1,h2⟩:=uX hl
   obtain⟨i,hi⟩:=List.getElem?_of_mem hb
   have aB:i < l.length:=by rw [h1];exact (List.getElem?_eq_some_iff.1 hi).1
   exact (ow (h2 i _ b (List.getElem?_eq_getElem aB) hi)).2
  have qM:∀ {l l':List AV},jm (fk S m) l=some l'->l.length=l'.length/\∀ (i:Nat) (a a':AV),l[i]?=some a->l'[i]?=some a'->bX S a a':=fun hl=>⟨(uX hl).1,fun i a a' h1 h2=>(ow ((uX hl).2 i a a' h1 h2)).1⟩
  have LD:∀ {l l':List (List AV)},o5 (fk S m) l=some l'->∀ r ∈ l',∀ b ∈ r,Pure b:=fun {l l'} hl r hr=>by
   obtain⟨h1,h2⟩:=qL hl
   obtain⟨i,hi⟩:=List.getElem?_of_mem hr
   have aB:i < l.length:=by rw [h1];exact (List.getElem?_eq_some_iff.1 hi).1
   exact wM (h2 i _ r (List.getElem?_eq_getElem aB) hi)
  have atR:∀ {l l':List (List AV)},o5 (fk S m) l=some l'->l.length=l'.length/\(∀ (i:Nat) (r r':List AV),l[i]?=some r->l'[i]?=some r'->r.length=r'.length) /\
    ∀ (i j:Nat) (r r':List AV) (a a':AV),l[i]?=some r->l'[i]?=some r'->r[j]?=some a->r'[j]?=some a'->bX S a a':=fun hl =>
   ⟨(qL hl).1,fun i r r' h1 h2=>(qM ((qL hl).2 i r r' h1 h2)).1,fun i j r r' a a' h1 h2 h3 h4=>(qM ((qL hl).2 i r r' h1 h2)).2 j a a' h3 h4⟩
  cases a with
  |v x=>obtain rfl:=Option.some.inj h;exact⟨.refl _,.v⟩
  |agg l =>
   simp only [fk] at h
   split at h
   ·rename_i l' hl
    obtain rfl:=Option.some.inj h
    exact⟨.agg (qM hl).1 (qM hl).2,.agg (wM hl)⟩
   ·cases h
  |aC l =>
   simp only [fk] at h
   split at h
   ·rename_i l' hl
    obtain rfl:=Option.some.inj h
    exact⟨.aC (qM hl).1 (qM hl).2,.aC (wM hl)⟩
   ·cases h
  |ip l =>
   simp only [fk] at h
   split at h
   ·rename_i l' hl
    obtain rfl:=Option.some.inj h
    exact⟨.ip (Nat.le_of_eq (qM hl).1.symm) (qM hl).2,.ip (wM hl)⟩
   ·cases h
  |sl ex rows =>
   simp only [fk] at h
   split at h
   ·rename_i l' hl
    obtain rfl:=Option.some.inj h
    exact⟨.sl (atR hl).1 (atR hl).2.1 (atR hl).2.2,.sl (LD hl)⟩
   ·cases h
  |fn f l c =>
   simp only [fk] at h
   split at h
   ·rename_i l' c' hl hc
    obtain rfl:=Option.some.inj h
    exact⟨.fn (qM hl).1 (qM hc).1 (qM hl).2 (qM hc).2,.fn (wM hl) (wM hc)⟩
   ·cases h
  |ob k sz off len cx =>
   simp only [fk] at h
   split at h
   ·rename_i sz' rows fz ex hk
    split at h
    ·rename_i hb
     simp only [Bool.and_eq_true] at hb
     have e:=Nat.eq_of_beq_eq_true hb.1
     have e2:=Nat.le_of_ble_eq_true hb.2
     subst e
     split at h
     ·rename_i l' hl
      obtain rfl:=Option.some.inj h
      obtain⟨q1,q2,q3⟩:=atR hl
      have hlen:l'.length=len:=by rw [<-q1];simp;omega
      have get:∀ (i:Nat) (row aM:List AV),rows[off+i]?=some row->l'[i]?=some aM->((rows.drop off).take len)[i]?=some row:=fun i row aM h1 h2=>by
       have:=(List.getElem?_eq_some_iff.1 h2).1
       rw [List.getElem?_take_of_lt (by omega),List.getElem?_drop]
       exact h1
      exact⟨.ob hk e2 hlen (fun i row aM h1 h2=>q2 i row aM (get i row aM h1 h2) h2) (fun i j row aM a a' h1 h2 h3 h4=>q3 i j row aM a a' (get i row aM h1 h2) h2 h3 h4),.sl (LD hl)⟩
     ·cases h
    ·cases h
   ·cases h
  |gr k sz len =>
   simp only [fk] at h
   split at h
   ·rename_i sz' rows fz ex hk
    split at h
    ·rename_i hb
     simp only [Bool.and_eq_true] at hb
     have e:=Nat.eq_of_beq_eq_true hb.1
     have e2:=Nat.le_of_ble_eq_true hb.2
     subst e
     split at h
     ·rename_i l' hl
      obtain rfl:=Option.some.inj h
      obtain⟨q1,q2,q3⟩:=atR hl
      have hlen:l'.length=len:=by rw [<-q1];simp;omega
      have get:∀ (i:Nat) (row aM:List AV),rows[i]?=some row->l'[i]?=some aM->(rows.take len)[i]?=some row:=fun i row aM h1 h2=>by
       have:=(List.getElem?_eq_some_iff.1 h2).1
       rw [List.getElem?_take_of_lt (by omega)]
       exact h1
      exact⟨.gr hk e2 hlen (fun i row aM h1 h2=>q2 i row aM (get i row aM h1 h2) h2) (fun i j row aM a a' h1 h2 h3 h4=>q3 i j row aM a a' (get i row aM h1 h2) h2 h3 h4),.sl (LD hl)⟩
     ·cases h
    ·cases h
   ·cases h
  |pt k sz i j =>
   simp only [fk] at h
   split at h
   ·rename_i sz' rows fz ex hk
    split at h
    ·rename_i hb
     have e:=Nat.eq_of_beq_eq_true hb
     subst e
     split at h
     ·rename_i row hi
      split at h
      ·rename_i hj
       have hj:=Nat.le_of_ble_eq_true hj
       split at h
       ·rename_i l' hl
        obtain rfl:=Option.some.inj h
        obtain⟨q1,q2⟩:=qM hl
        simp at q1
        exact⟨.pt hk hi (by omega) (fun q a a' h1 h2=>q2 q a a' (by rw [List.getElem?_drop];exact h1) h2),.ip (wM hl)⟩
       ·cases h
      ·cases h
     ·cases h
    ·cases h
   ·cases h
  |_=>cases h
theorem bX.mono {S T:aa}(h:∀ k sz rows fz ex,S.get k=some (.arr sz rows fz ex)->T.get k=some (.arr sz rows fz ex)) {a a':AV}(hf:bX S a a'):bX T a a':=by
 induction hf with
 |refl a=>exact .refl a
 |agg hl h ih=>exact .agg hl ih
 |aC hl h ih=>exact .aC hl ih
 |ob hk h1 h2 h3 h4 ih=>exact .ob (h _ _ _ _ _ hk) h1 h2 h3 ih
 |pt hk h1 h2 h3 ih=>exact .pt (h _ _ _ _ _ hk) h1 h2 ih
 |fn h1 h2 h3 h4 i1 i2=>exact .fn h1 h2 i1 i2
 |sl h1 h2 h3 ih=>exact .sl h1 h2 ih
 |ip h1 h2 ih=>exact .ip h1 ih
 |gr hk h1 h2 h3 h4 ih=>exact .gr (h _ _ _ _ _ hk) h1 h2 h3 ih
end
end Go.Proofs.YtgjfgekaclobaaaGreat
