import Derived.Test.YtbofilglphfceaaGreatD26
namespace Go.Proofs.YtbofilglphfceaaGreat
set_option linter.unusedVariables false
set_option linter.unusedSimpArgs false
open Go.RowKit
inductive Tr (α:Type) where
 |nil
 |nd (l:Tr α) (v:Option α) (r:Tr α)
def dm {α:Type}:Tr α->Nat->Option α
 |.nil,_=>none
 |.nd l v r,k=>match Nat.beq k 0 with
  |true=>v
  |false=>match Nat.beq (k % 2) 1 with
   |true=>dm l (k / 2)
   |false=>dm r (k / 2 - 1)
def lI {α:Type}:Nat->Tr α->Nat->α->Tr α
 |0,t,_,_=>t
 |m+1,.nil,k,a=>match Nat.beq k 0 with
  |true=>.nd .nil (some a) .nil
  |false=>match Nat.beq (k % 2) 1 with
   |true=>.nd (lI m .nil (k / 2) a) none .nil
   |false=>.nd .nil none (lI m .nil (k / 2 - 1) a)
 |m+1,.nd l v r,k,a=>match Nat.beq k 0 with
  |true=>.nd l (some a) r
  |false=>match Nat.beq (k % 2) 1 with
   |true=>.nd (lI m l (k / 2) a) v r
   |false=>.nd l v (lI m r (k / 2 - 1) a)
theorem pC {i j:Nat}(h:Nat.beq i j=false):i ≠ j:=fun e=>by rw [e,Nat.beq_refl] at h;cases h
theorem D_ {α:Type}{a:α}:∀ {m:Nat}{t:Tr α}{k j:Nat},k < m->dm (lI m t k a) j=if j=k then some a else dm t j:=by
 have step:∀ (l:Tr α) (v:Option α) (r:Tr α) (j:Nat),dm (.nd l v r) j=if j=0 then v else if j % 2=1 then dm l (j / 2) else dm r (j / 2 - 1):=by
  intro l v r j
  simp only [dm]
  cases h0:Nat.beq j 0 with
  |true=>rw [if_pos (Nat.eq_of_beq_eq_true h0)]
  |false =>
   rw [if_neg (pC h0)]
   cases h1:Nat.beq (j % 2) 1 with
   |true=>rw [if_pos (Nat.eq_of_beq_eq_true h1)]
   |false=>rw [if_neg (pC h1)]
 have nil:∀ j,dm (Tr.nil:Tr α) j=none:=fun j=>rfl
 have LG:∀ (m:Nat) (t:Tr α) (k:Nat),∃ l v r,(∀ j,dm t j=dm (.nd l v r) j)/\lI (m+1) t k a=if k=0 then .nd l (some a) r else if k % 2=1 then .nd (lI m l (k / 2) a) v r else .nd l v (lI m r (k / 2 - 1) a):=by
  intro m t k
  have key:∀ {X Y Z:Tr α},(match Nat.beq k 0 with|true=>X|false=>match Nat.beq (k % 2) 1 with|true=>Y|false=>Z)=if k=0 then X else if k % 2=1 then Y else Z:=by
   intro X Y Z
   cases h0:Nat.beq k 0 with
   |true=>rw [if_pos (Nat.eq_of_beq_eq_true h0)]
   |false =>
    rw [if_neg (pC h0)]
    cases h1:Nat.beq (k % 2) 1 with
    |true=>rw [if_pos (Nat.eq_of_beq_eq_true h1)]
    |false=>rw [if_neg (pC h1)]
  cases t with
  |nil =>
   refine⟨.nil,none,.nil,fun j=>?_,by rw [lI,key]⟩
   rw [step,nil]
   repeat' split
   all_goals rfl
  |nd l v r=>exact⟨l,v,r,fun j=>rfl,by rw [lI,key]⟩
 intro m
 induction m with
 |zero=>intro t k j h;omega
 |succ m ih =>
  intro t k j h
  obtain⟨l,v,r,h1,h2⟩:=LG m t k
  rw [h2,h1 j]
  by_cases k0:k=0
  ·subst k0
   rw [if_pos rfl,step,step]
   by_cases j0:j=0
   ·rw [if_pos j0,if_pos j0]
   ·rw [if_neg j0,if_neg j0,if_neg j0]
  ·rw [if_neg k0]
   by_cases k1:k % 2=1
   ·rw [if_pos k1,step,step]
    by_cases j0:j=0
    ·rw [if_pos j0,if_pos j0,if_neg (by omega)]
    ·rw [if_neg j0,if_neg j0]
     by_cases j1:j % 2=1
     ·rw [if_pos j1,if_pos j1,ih (by omega)]
      by_cases e:j=k
      ·rw [if_pos e,if_pos (by omega)]
      ·rw [if_neg e,if_neg (by omega)]
     ·rw [if_neg j1,if_neg j1,if_neg (by omega)]
   ·rw [if_neg k1,step,step]
    by_cases j0:j=0
    ·rw [if_pos j0,if_pos j0,if_neg (by omega)]
    ·rw [if_neg j0,if_neg j0]
     by_cases j1:j % 2=1
     ·rw [if_pos j1,if_pos j1,if_neg (by omega)]
     ·rw [if_neg j1,if_neg j1,ih (by omega)]
      by_cases e:j=k
      ·rw [if_pos e,if_pos (by omega)]
      ·rw [if_neg e,if_neg (by omega)]
def put {α:Type}(t:Tr α) (k:Nat) (a:α):Tr α:=lI (k+1) t k a
theorem gW {α:Type}{a:α}{t:Tr α}{k j:Nat}:dm (put t k a) j=if j=k then some a else dm t j:=D_ (Nat.lt_succ_self k)
def cM (t:Tr AV):Nat->AV:=fun k=>match dm t k with|some a=>a|none=>.u
theorem nB {t:Tr AV}{d:Nat}{a:AV}:cM (put t d a)=a6 (cM t) d a:=by
 funext k
 unfold cM
 rw [gW]
 by_cases e:k=d
 ·subst e;rw [if_pos rfl,ah]
 ·rw [if_neg e,aw _ _ e]
def nC (d:Option Nat) (t:Tr AV) (a:AV):Tr AV:=match d with|some d=>put t d a|none=>t
theorem lJ {d:Option Nat}{t:Tr AV}{a:AV}{l:List Nat}:cH d ⟨cM t,l⟩ a=⟨cM (nC d t a),l⟩:=by
 cases d with
 |none=>rfl
 |some d=>show (⟨a6 (cM t) d a,l⟩:AA)=⟨cM (put t d a),l⟩;rw [nB]
def kW:List AV->Nat->Tr AV->Tr AV
 |[],_,t=>t
 |a::l,i,t=>kW l (i+1) (put t i a)
theorem xF:∀ {l:List AV}{i:Nat}{t:Tr AV}{k:Nat},cM (kW l i t) k=if i<=k/\k < i+l.length then (l[k - i]?).getD .u else cM t k
 |[],i,t,k=>by rw [kW,if_neg (by simp)]
 |a::l,i,t,k=>by
  rw [kW,xF,nB]
  by_cases h1:i+1<=k/\k < i+1+l.length
  ·rw [if_pos h1,if_pos (by simp;omega),show k - i=(k - (i+1))+1 by omega]
   rfl
  ·rw [if_neg h1]
   by_cases e:k=i
   ·subst e
    rw [ah,if_pos (by simp),Nat.sub_self]
    rfl
   ·rw [aw _ _ e,if_neg (by simp at h1 ⊢;omega)]
theorem Ea {args:List AV}:cM (kW args 0 .nil)=iH args:=by
 funext k
 rw [xF]
 by_cases h:0<=k/\k < 0+args.length
 ·rw [if_pos h];rfl
 ·rw [if_neg h]
  unfold iH
  rw [List.getElem?_eq_none (by omega)]
  rfl
def pD (t:Tr AV):List (Nat × AV)->Tr AV
 |[]=>t
 |p::l=>pD (put t p.1 p.2) l
theorem tM:∀ {l:List (Nat × AV)}{t:Tr AV},cM (pD t l)=nq (cM t) l
 |[],t=>rfl
 |p::l,t=>by rw [pD,tM,nB];rfl
def toLk {α:Type}:Tr α->List (Nat × α)
 |.nil=>[]
 |.nd l v r=>(match v with|some a=>[(0,a)]|none=>[])++((toLk l).map (fun p=>(2*p.1+1,p.2))++(toLk r).map (fun p=>(2*p.1+2,p.2)))
theorem xG {α:Type}(l:Tr α) (v:Option α) (r:Tr α) (j:Nat):dm (.nd l v r) j=if j=0 then v else if j % 2=1 then dm l (j / 2) else dm r (j / 2 - 1):=by
 simp only [dm]
 cases h0:Nat.beq j 0 with
 |true=>rw [if_pos (Nat.eq_of_beq_eq_true h0)]
 |false =>
  rw [if_neg (pC h0)]
  cases h1:Nat.beq (j % 2) 1 with
  |true=>rw [if_pos (Nat.eq_of_beq_eq_true h1)]
  |false=>rw [if_neg (pC h1)]
theorem toLk_mem {α:Type}:∀ {t:Tr α}{k:Nat}{a:α},(k,a) ∈ toLk t ↔ dm t k=some a
 |.nil,k,a=>by simp [toLk,dm]
 |.nd l v r,k,a=>by
  rw [xG]
  simp only [toLk,List.mem_append,List.mem_map]
  constructor
  ·rintro (h|⟨⟨j,b⟩,h,e⟩|⟨⟨j,b⟩,h,e⟩)
   ·cases v with
    |none=>cases h
    |some b =>
     simp only [List.mem_singleton,Prod.mk.injEq] at h
     obtain⟨rfl,rfl⟩:=h
     rfl
   ·simp only [Prod.mk.injEq] at e
    obtain⟨rfl,rfl⟩:=e
    rw [if_neg (by omega),if_pos (by omega),show (2*j+1) / 2=j by omega]
    exact toLk_mem.1 h
   ·simp only [Prod.mk.injEq] at e
    obtain⟨rfl,rfl⟩:=e
    rw [if_neg (by omega),if_neg (by omega),show (2*j+2) / 2 - 1=j by omega]
    exact toLk_mem.1 h
  ·intro h
   by_cases k0:k=0
   ·rw [if_pos k0] at h
    subst k0
    rw [h]
    exact .inl (by simp)
   ·rw [if_neg k0] at h
    by_cases k1:k % 2=1
    ·rw [if_pos k1] at h
     exact .inr (.inl ⟨(k / 2,a),toLk_mem.2 h,by simp;omega⟩)
    ·rw [if_neg k1] at h
     exact .inr (.inr ⟨(k / 2 - 1,a),toLk_mem.2 h,by simp;omega⟩)
abbrev FJ:=Nat->(Nat->Nat->Prop)->(Nat->Prop)->World->Prop
structure XS where
 m:Tr (Option Ob)
 nx:Nat
 lw:Nat
 yk:Option Nat
 an:Nat
 lg:List (List AV × Bool)
def cI (o:Option Nat) (k:Nat):Bool:=match o with|some j=>Nat.beq j k|none=>false
def dM (s:XS) (k:Nat):Option Ob:=match dm s.m k with|some o=>o|none=>none
def den (J:FJ) (s:XS):U:=⟨fun k=>match cI s.yk k with|true=>some (.fo J)|false=>dM s k,s.nx⟩
def cS (s:XS):U:=⟨fun k=>match cI s.yk k with|true=>none|false=>dM s k,s.nx⟩
def h_ (s:XS) (k:Nat) (o:Option Ob):XS:=⟨put s.m k o,s.nx,Nat.min s.lw k,s.yk,s.an,s.lg⟩
def gj (s:XS) (o:Ob):XS:=⟨put s.m s.nx (some o),s.nx+1,Nat.min s.lw s.nx,s.yk,s.an,s.lg⟩
theorem Gt {o:Option Nat}{k:Nat}(h:cI o k=true):o=some k:=by
 cases o with
 |none=>cases h
 |some j=>rw [Nat.eq_of_beq_eq_true h]
theorem cg {J:FJ}{s:XS}{k:Nat}{o:Ob}(h:(cS s).get k=some o):(den J s).get k=some o/\cI s.yk k=false:=by
 have h:(match cI s.yk k with|true=>none|false=>dM s k)=some o:=h
 show (match cI s.yk k with|true=>some (.fo J)|false=>dM s k)=some o/\_
 cases e:cI s.yk k with
 |true=>rw [e] at h;cases h
 |false=>rw [e] at h;exact⟨h,rfl⟩
theorem gk {J:FJ}{s:XS}{k:Nat}{o:Option Ob}(hk:cI s.yk k=false):den J (h_ s k o)=(den J s).set k o:=by
 unfold den h_ U.set
 simp only [U.mk.injEq,and_true]
 funext j
 unfold dM
 simp only [gW]
 by_cases e:j=k
 ·subst e;rw [hk,ah,if_pos rfl]
 ·rw [aw _ _ e,if_neg e]
theorem eI {J:FJ}{s:XS}{o:Ob}(hk:cI s.yk s.nx=false):den J (gj s o)=(den J s).new o:=by
 unfold den gj U.new
 simp only [U.mk.injEq,and_true]
 funext j
 unfold dM
 simp only [gW]
 by_cases e:j=s.nx
 ·subst e;rw [hk,ah,if_pos rfl]
 ·rw [aw _ _ e,if_neg e]
inductive oP (P:Program) (w0:World):FJ->List (List AV × Bool)->FJ->Prop where
 |nil (J:FJ):oP P w0 J [] J
 |cons {J J1 J':FJ}{x:List AV}{b:Bool}{l:List (List AV × Bool)}(h:∀ (T:U) (k:Nat),T.get k=some (.fo J)->oF P w0 k x T (.v (.bool b)) (T.set k (some (.fo J1)))) (t:oP P w0 J1 l J'):oP P w0 J ((x,b)::l) J'
section
variable {P:Program}{w0:World}
theorem oP.app:∀ {l m:List (List AV × Bool)}{J J':FJ},oP P w0 J (l++m) J'->∃ J1,oP P w0 J l J1/\oP P w0 J1 m J'
 |[],m,J,J',h=>⟨J,.nil J,h⟩
 |(x,b)::l,m,J,J',h=>by
  cases h with
  |cons h t =>
   obtain⟨J1,h1,h2⟩:=t.app
   exact⟨J1,.cons h h1,h2⟩
structure cE (s s':XS):Prop where
 lw:s'.lw<=s.lw
 nx:s.nx<=s'.nx
 yk:s'.yk=s.yk
 lg:∃ L,s'.lg=L++s.lg
 aV:∀ k,k < s'.lw->dM s' k=dM s k
theorem cE.refl (s:XS):cE s s:=⟨Nat.le_refl _,Nat.le_refl _,rfl,⟨[],rfl⟩,fun _ _=>rfl⟩
theorem cE.trans {s1 s2 s3:XS}(h:cE s1 s2) (k:cE s2 s3):cE s1 s3:=by
 obtain⟨L,hL⟩:=h.lg
 obtain⟨M,hM⟩:=k.lg
 exact⟨Nat.le_trans k.lw h.lw,Nat.le_trans h.nx k.nx,k.yk.trans h.yk,⟨M++L,by rw [hM,hL,List.append_assoc]⟩,fun j hj=>(k.aV j hj).trans (h.aV j (Nat.lt_of_lt_of_le hj k.lw))⟩
theorem cE.wr {s:XS}{k:Nat}{o:Option Ob}:cE s (h_ s k o):=by
 refine⟨Nat.min_le_left _ _,Nat.le_refl _,rfl,⟨[],rfl⟩,fun j hj=>?_⟩
 have:j < k:=Nat.lt_of_lt_of_le hj (Nat.min_le_right _ _)
 unfold dM h_
 simp only [gW]
 rw [if_neg (by omega)]
theorem cE.nw {s:XS}{o:Ob}:cE s (gj s o):=by
 refine⟨Nat.min_le_left _ _,Nat.le_succ _,rfl,⟨[],rfl⟩,fun j hj=>?_⟩
 have:j < s.nx:=Nat.lt_of_lt_of_le hj (Nat.min_le_right _ _)
 unfold dM gj
 simp only [gW]
 rw [if_neg (by omega)]
def eP (P:Program) (w0:World) (s s':XS) (J J':FJ):Prop:=∃ L,s'.lg=L++s.lg/\oP P w0 J L.reverse J'
theorem eP.same {s s':XS}{J J':FJ}(h:eP P w0 s s' J J') (e:s'.lg=s.lg):J'=J:=by
 obtain⟨L,h1,h2⟩:=h
 rw [e] at h1
 have:L=[]:=by
  have:=congrArg List.length h1
  simp at this
  exact this
 subst this
 cases h2
 rfl
theorem eP.split {s1 s2 s3:XS}{J J':FJ}(h:cE s1 s2) (k:cE s2 s3) (hc:eP P w0 s1 s3 J J'):∃ J1,eP P w0 s1 s2 J J1/\eP P w0 s2 s3 J1 J':=by
 obtain⟨L,hL⟩:=h.lg
 obtain⟨M,hM⟩:=k.lg
 obtain⟨X,hX,hJ⟩:=hc
 rw [hM,hL,<-List.append_assoc] at hX
 obtain rfl:=List.append_cancel_right hX
 rw [List.reverse_append] at hJ
 obtain⟨J1,h1,h2⟩:=hJ.app
 exact⟨J1,⟨L,hL,h1⟩,⟨M,hM,h2⟩⟩
end
def fT (F:AV->Option AV):List AV->Option (List AV)
 |[]=>some []
 |a::l=>match F a with
  |some a'=>match fT F l with
   |some l'=>some (a'::l')
   |none=>none
  |none=>none
def lK (F:AV->Option AV):List (List AV)->Option (List (List AV))
 |[]=>some []
 |a::l=>match fT F a with
  |some a'=>match lK F l with
   |some l'=>some (a'::l')
   |none=>none
  |none=>none
def dN (S:U):Nat->AV->Option AV
 |0,_=>none
 |m+1,a=>match a with
  |.v x=>some (.v x)
  |.agg l=>match fT (dN S m) l with|some l'=>some (.agg l')|none=>none
  |.aL l=>match fT (dN S m) l with|some l'=>some (.aL l')|none=>none
  |.sl _ rows=>match lK (dN S m) rows with|some l'=>some (.sl false l')|none=>none
  |.ip cs=>match fT (dN S m) cs with|some l'=>some (.ip l')|none=>none
  |.fn f l c=>match fT (dN S m) l,fT (dN S m) c with|some l',some c'=>some (.fn f l' c')|_,_=>none
  |.ob k sz off len _=>match S.get k with
   |some (.arr sz' rows _ _)=>match Nat.beq sz' sz && Nat.ble (off+len) rows.length with
    |true=>match lK (dN S m) ((rows.drop off).take len) with|some l'=>some (.sl false l')|none=>none
    |false=>none
   |_=>none
  |.gr k sz len=>match S.get k with
   |some (.arr sz' rows _ _)=>match Nat.beq sz' sz && Nat.ble len rows.length with
    |true=>match lK (dN S m) (rows.take len) with|some l'=>some (.sl false l')|none=>none
    |false=>none
   |_=>none
  |.pt k sz i j=>match S.get k with
   |some (.arr sz' rows _ _)=>match Nat.beq sz' sz with
    |true=>match rows[i]? with
     |some row=>match Nat.ble j row.length with
      |true=>match fT (dN S m) (row.drop j) with|some l'=>some (.ip l')|none=>none
      |false=>none
     |none=>none
    |false=>none
   |_=>none
  |_=>none
def dA (F:AV->Bool):List AV->Bool
 |[]=>true
 |a::l=>match F a with|true=>dA F l|false=>false
def lL (F:AV->Bool):List (List AV)->Bool
 |[]=>true
 |a::l=>match dA F a with|true=>lL F l|false=>false
def eL:Nat->AV->Bool
 |0,_=>false
 |m+1,a=>match a with
  |.v _=>true
  |.agg l|.aL l|.ip l=>dA (eL m) l
  |.sl _ rows=>lL (eL m) rows
  |.fn _ l c=>match dA (eL m) l with|true=>dA (eL m) c|false=>false
  |_=>false
theorem cr {F:AV->Bool}:∀ {l:List AV},dA F l=true->∀ a ∈ l,F a=true
 |[],_,a,h=>by cases h
 |b::l,hp,a,h=>by
  simp only [dA] at hp
  split at hp
  ·rename_i hb
   rcases List.mem_cons.1 h with rfl|h
   ·exact hb
   ·exact cr hp a h
  ·cases hp
theorem fU {F:AV->Bool}:∀ {l:List (List AV)},lL F l=true->∀ r ∈ l,∀ a ∈ r,F a=true
 |[],_,a,h=>by cases h
 |b::l,hp,a,h=>by
  simp only [lL] at hp
  split at hp
  ·rename_i hb
   rcases List.mem_cons.1 h with rfl|h
   ·exact cr hb
   ·exact fU hp a h
  ·cases hp
theorem cU:∀ {m:Nat}{a:AV},eL m a=true->Pure a
 |0,a,h=>by cases h
 |m+1,a,h=>by
  cases a with
  |v x=>exact .v
  |agg l=>exact .agg fun a ha=>cU (cr h a ha)
  |aL l=>exact .aL fun a ha=>cU (cr h a ha)
  |ip l=>exact .ip fun a ha=>cU (cr h a ha)
  |sl ex rows=>exact .sl fun r hr a ha=>cU (fU h r hr a ha)
  |fn f l c =>
   simp only [eL] at h
   split at h
   ·rename_i h1
    exact .fn (fun a ha=>cU (cr h1 a ha)) (fun a ha=>cU (cr h a ha))
   ·cases h
  |_=>cases h
theorem nD {m:Nat}:∀ {l:List AV},dA (eL m) l=true->cF l
 |[],_=>trivial
 |a::l,h=>by
  simp only [dA] at h
  split at h
  ·rename_i h1
   exact⟨cU h1,nD h⟩
  ·cases h
theorem pE {F:AV->Option AV}:∀ {l l':List AV},fT F l=some l'->l.length=l'.length/\∀ (i:Nat) (a a':AV),l[i]?=some a->l'[i]?=some a'->F a=some a'
 |[],l',h=>by obtain rfl:=Option.some.inj h;exact⟨rfl,fun i a a' h=>by simp at h⟩
 |b::l,l',h=>by
  simp only [fT] at h
  split at h
  ·rename_i b' hb
   split at h
   ·rename_i m hm
    obtain rfl:=Option.some.inj h
    obtain⟨h1,h2⟩:=pE hm
    refine⟨by simp [h1],fun i a a' ha bU=>?_⟩
    cases i with
    |zero=>simp at ha bU;subst ha bU;exact hb
    |succ i=>simp at ha bU;exact h2 i a a' ha bU
   ·cases h
  ·cases h
theorem mO {F:AV->Option AV}:∀ {l l':List (List AV)},lK F l=some l'->l.length=l'.length/\∀ (i:Nat) (a a':List AV),l[i]?=some a->l'[i]?=some a'->fT F a=some a'
 |[],l',h=>by obtain rfl:=Option.some.inj h;exact⟨rfl,fun i a a' h=>by simp at h⟩
 |b::l,l',h=>by
  simp only [lK] at h
  split at h
  ·rename_i b' hb
   split at h
   ·rename_i m hm
    obtain rfl:=Option.some.inj h
    obtain⟨h1,h2⟩:=mO hm
    refine⟨by simp [h1],fun i a a' ha bU=>?_⟩
    cases i with
    |zero=>simp at ha bU;subst ha bU;exact hb
    |succ i=>simp at ha bU;exact h2 i a a' ha bU
   ·cases h
  ·cases h
section
variable {S:U}
theorem kX:∀ {m:Nat}{a a':AV},dN S m a=some a'->bG S a a'/\Pure a'
 |0,a,a',h=>by cases h
 |m+1,a,a',h=>by
  have qL:∀ {l l':List AV},fT (dN S m) l=some l'->∀ b ∈ l',Pure b:=fun {l l'} hl b hb=>by
   obtain⟨h1,h2⟩:=pE hl
   obtain⟨i,hi⟩:=List.getElem?_of_mem hb
   have au:i < l.length:=by rw [h1];exact (List.getElem?_eq_some_iff.1 hi).1
   exact (kX (h2 i _ b (List.getElem?_eq_getElem au) hi)).2
  have mP:∀ {l l':List AV},fT (dN S m) l=some l'->l.length=l'.length/\∀ (i:Nat) (a a':AV),l[i]?=some a->l'[i]?=some a'->bG S a a':=fun hl=>⟨(pE hl).1,fun i a a' h1 h2=>(kX ((pE hl).2 i a a' h1 h2)).1⟩
  have Eb:∀ {l l':List (List AV)},lK (dN S m) l=some l'->∀ r ∈ l',∀ b ∈ r,Pure b:=fun {l l'} hl r hr=>by
   obtain⟨h1,h2⟩:=mO hl
   obtain⟨i,hi⟩:=List.getElem?_of_mem hr
   have au:i < l.length:=by rw [h1];exact (List.getElem?_eq_some_iff.1 hi).1
   exact qL (h2 i _ r (List.getElem?_eq_getElem au) hi)
  have atR:∀ {l l':List (List AV)},lK (dN S m) l=some l'->l.length=l'.length/\(∀ (i:Nat) (r r':List AV),l[i]?=some r->l'[i]?=some r'->r.length=r'.length) /\
    ∀ (i j:Nat) (r r':List AV) (a a':AV),l[i]?=some r->l'[i]?=some r'->r[j]?=some a->r'[j]?=some a'->bG S a a':=fun hl =>
   ⟨(mO hl).1,fun i r r' h1 h2=>(mP ((mO hl).2 i r r' h1 h2)).1,fun i j r r' a a' h1 h2 h3 h4=>(mP ((mO hl).2 i r r' h1 h2)).2 j a a' h3 h4⟩
  cases a with
  |v x=>obtain rfl:=Option.some.inj h;exact⟨.refl _,.v⟩
  |agg l =>
   simp only [dN] at h
   split at h
   ·rename_i l' hl
    obtain rfl:=Option.some.inj h
    exact⟨.agg (mP hl).1 (mP hl).2,.agg (qL hl)⟩
   ·cases h
  |aL l =>
   simp only [dN] at h
   split at h
   ·rename_i l' hl
    obtain rfl:=Option.some.inj h
    exact⟨.aL (mP hl).1 (mP hl).2,.aL (qL hl)⟩
   ·cases h
  |ip l =>
   simp only [dN] at h
   split at h
   ·rename_i l' hl
    obtain rfl:=Option.some.inj h
    exact⟨.ip (Nat.le_of_eq (mP hl).1.symm) (mP hl).2,.ip (qL hl)⟩
   ·cases h
  |sl ex rows =>
   simp only [dN] at h
   split at h
   ·rename_i l' hl
    obtain rfl:=Option.some.inj h
    exact⟨.sl (atR hl).1 (atR hl).2.1 (atR hl).2.2,.sl (Eb hl)⟩
   ·cases h
  |fn f l c =>
   simp only [dN] at h
   split at h
   ·rename_i l' c' hl hc
    obtain rfl:=Option.some.inj h
    exact⟨.fn (mP hl).1 (mP hc).1 (mP hl).2 (mP hc).2,.fn (qL hl) (qL hc)⟩
   ·cases h
  |ob k sz off len cx =>
   simp only [dN] at h
   split at h
   ·rename_i sz' rows fz ex hk
    split at h
    ·rename_i hb
     simp only [Bool.and_eq_true] at hb
     have e:=Nat.eq_of_beq_eq_true hb.1
     have e2:=Nat.le_of_ble_eq_true hb.2
     subst e
     split at h
     ·rename_i l' hl
      obtain rfl:=Option.some.inj h
      obtain⟨q1,q2,q3⟩:=atR hl
      have hlen:l'.length=len:=by rw [<-q1];simp;omega
      have get:∀ (i:Nat) (row aG:List AV),rows[off+i]?=some row->l'[i]?=some aG->((rows.drop off).take len)[i]?=some row:=fun i row aG h1 h2=>by
       have:=(List.getElem?_eq_some_iff.1 h2).1
       rw [List.getElem?_take_of_lt (by omega),List.getElem?_drop]
       exact h1
      exact⟨.ob hk e2 hlen (fun i row aG h1 h2=>q2 i row aG (get i row aG h1 h2) h2) (fun i j row aG a a' h1 h2 h3 h4=>q3 i j row aG a a' (get i row aG h1 h2) h2 h3 h4),.sl (Eb hl)⟩
     ·cases h
    ·cases h
   ·cases h
  |gr k sz len =>
   simp only [dN] at h
   split at h
   ·rename_i sz' rows fz ex hk
    split at h
    ·rename_i hb
     simp only [Bool.and_eq_true] at hb
     have e:=Nat.eq_of_beq_eq_true hb.1
     have e2:=Nat.le_of_ble_eq_true hb.2
     subst e
     split at h
     ·rename_i l' hl
      obtain rfl:=Option.some.inj h
      obtain⟨q1,q2,q3⟩:=atR hl
      have hlen:l'.length=len:=by rw [<-q1];simp;omega
      have get:∀ (i:Nat) (row aG:List AV),rows[i]?=some row->l'[i]?=some aG->(rows.take len)[i]?=some row:=fun i row aG h1 h2=>by
       have:=(List.getElem?_eq_some_iff.1 h2).1
       rw [List.getElem?_take_of_lt (by omega)]
       exact h1
      exact⟨.gr hk e2 hlen (fun i row aG h1 h2=>q2 i row aG (get i row aG h1 h2) h2) (fun i j row aG a a' h1 h2 h3 h4=>q3 i j row aG a a' (get i row aG h1 h2) h2 h3 h4),.sl (Eb hl)⟩
     ·cases h
    ·cases h
   ·cases h
  |pt k sz i j =>
   simp only [dN] at h
   split at h
   ·rename_i sz' rows fz ex hk
    split at h
    ·rename_i hb
     have e:=Nat.eq_of_beq_eq_true hb
     subst e
     split at h
     ·rename_i row hi
      split at h
      ·rename_i hj
       have hj:=Nat.le_of_ble_eq_true hj
       split at h
       ·rename_i l' hl
        obtain rfl:=Option.some.inj h
        obtain⟨q1,q2⟩:=mP hl
        simp at q1
        exact⟨.pt hk hi (by omega) (fun q a a' h1 h2=>q2 q a a' (by rw [List.getElem?_drop];exact h1) h2),.ip (qL hl)⟩
       ·cases h
      ·cases h
     ·cases h
    ·cases h
   ·cases h
  |_=>cases h
theorem bG.mono {S T:U}(h:∀ k sz rows fz ex,S.get k=some (.arr sz rows fz ex)->T.get k=some (.arr sz rows fz ex)) {a a':AV}(hf:bG S a a'):bG T a a':=by
 induction hf with
 |refl a=>exact .refl a
 |agg hl h ih=>exact .agg hl ih
 |aL hl h ih=>exact .aL hl ih
 |ob hk h1 h2 h3 h4 ih=>exact .ob (h _ _ _ _ _ hk) h1 h2 h3 ih
 |pt hk h1 h2 h3 ih=>exact .pt (h _ _ _ _ _ hk) h1 h2 ih
 |fn h1 h2 h3 h4 i1 i2=>exact .fn h1 h2 i1 i2
 |sl h1 h2 h3 ih=>exact .sl h1 h2 ih
 |ip h1 h2 ih=>exact .ip h1 ih
 |gr hk h1 h2 h3 h4 ih=>exact .gr (h _ _ _ _ _ hk) h1 h2 h3 ih
end
end Go.Proofs.YtbofilglphfceaaGreat
