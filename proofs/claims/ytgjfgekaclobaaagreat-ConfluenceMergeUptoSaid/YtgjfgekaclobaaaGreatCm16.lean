import Derived.Test.YtgjfgekaclobaaaGreatCm15
namespace Go.Proofs.YtgjfgekaclobaaaGreat
set_option linter.unusedVariables false
set_option linter.unusedSimpArgs false
open Go.RowKit
inductive cC (B:Nat):AV->Prop where
 |u:cC B .u
 |v {x:Value}:cC B (.v x)
 |agg {l:List AV}(h:∀ a ∈ l,cC B a):cC B (.agg l)
 |aC {l:List AV}(h:∀ a ∈ l,cC B a):cC B (.aC l)
 |sl {ex:Bool}{rows:List (List AV)}(h:∀ row ∈ rows,∀ a ∈ row,cC B a):cC B (.sl ex rows)
 |ip {cs:List AV}(h:∀ a ∈ cs,cC B a):cC B (.ip cs)
 |ob {k sz off len:Nat}{cx:Option Nat}(h:k < B):cC B (.ob k sz off len cx)
 |pt {k sz i j:Nat}(h:k < B):cC B (.pt k sz i j)
 |mp {k:Nat}(h:k < B):cC B (.mp k)
 |yl {k:Nat}(h:k < B):cC B (.yl k)
 |gr {k sz len:Nat}(h:k < B):cC B (.gr k sz len)
 |fn {f:Fn}{l m:List AV}(h3:∀ a ∈ l,cC B a) (h4:∀ a ∈ m,cC B a):cC B (.fn f l m)
theorem Pure.bT {B:Nat}{a:AV}(h:Pure a):cC B a:=by
 induction h with
 |v=>exact .v
 |agg _ ih=>exact .agg ih
 |aC _ ih=>exact .aC ih
 |sl _ ih=>exact .sl ih
 |ip _ ih=>exact .ip ih
 |fn _ _ I5 I6=>exact .fn I5 I6
theorem aA.bT {g g':Gh}{w:World}{B:Nat}(aH:∀ k,k < B->g.al k->g'.al k) (gK:∀ k,k < B->g'.ob k=g.ob k) (mI:∀ k,k < B->g'.cp k=g.cp k) (hf:∀ b o,g.fz b o->g'.fz b o) {a:AV}{x:Value}(h:aA g w a x) (hp:cC B a) :
  aA g' w a x:=by
 induction h with
 |u=>exact .u
 |v=>exact .v
 |agg hs h ih=>cases hp with|agg hp=>exact .agg hs fun i a x h1 h2=>ih i a x h1 h2 (hp _ (List.mem_of_getElem? h1))
 |aC hs h ih=>cases hp with|aC hp=>exact .aC hs fun i a x h1 h2=>ih i a x h1 h2 (hp _ (List.mem_of_getElem? h1))
 |nil hc=>exact .nil hc
 |sl hn lX hle hl h hr ih =>
  cases hp with
  |sl hp =>
   exact .sl hn lX hle hl (fun i j row a h1 h2=>⟨hf _ _ (h i j row a h1 h2).1,(h i j row a h1 h2).2⟩)
    (fun i j row a h1 h2=>ih i j row a h1 h2 (hp _ (List.mem_of_getElem? h1) _ (List.mem_of_getElem? h2)))
 |ip h hr ih =>
  cases hp with
  |ip hp=>exact .ip (fun j a h1=>⟨hf _ _ (h j a h1).1,(h j a h1).2⟩) (fun j a h1=>ih j a h1 (hp _ (List.mem_of_getElem? h1)))
 |ob hk hc h1 hx hle=>cases hp with|ob hp=>rw [<-gK _ hp];exact .ob (aH _ hp hk) hc (by rw [mI _ hp];exact h1) (by rw [mI _ hp];exact hx) hle
 |pt hk=>cases hp with|pt hp=>rw [<-gK _ hp];exact .pt (aH _ hp hk)
 |mp hk=>cases hp with|mp hp=>rw [<-gK _ hp];exact .mp (aH _ hp hk)
 |yl hk=>cases hp with|yl hp=>rw [<-gK _ hp];exact .yl (aH _ hp hk)
 |ia=>exact .ia
 |gr hk hx hle=>cases hp with|gr hp=>rw [<-gK _ hp];exact .gr (aH _ hp hk) (by rw [mI _ hp];exact hx) hle
 |fn h1 h2 h3 h4 IQ IS =>
  cases hp with
  |fn hp hq=>exact .fn h1 h2 (fun i a x h1 h2=>IQ i a x h1 h2 (hp _ (List.mem_of_getElem? h1))) (fun i a x h1 h2=>IS i a x h1 h2 (hq _ (List.mem_of_getElem? h1)))
def kH (B:Nat):Ob->Prop
 |.arr _ rows _ _=>∀ row ∈ rows,∀ a ∈ row,cC B a
 |.mp es=>∀ e ∈ es,cC B e.2
 |.mb es=>∀ e ∈ es,cC B e.2
 |.lp _ _ tm _ _ _=>∀ t,cC B (tm t)
 |.df=>True
 |.si _ _=>True
 |.fo _=>True
 |.un=>True
def cF (B:Nat) (f:Nat->Nat) (j:Nat):Nat:=match Nat.blt j B with|true=>j|false=>f j
theorem iP {B j:Nat}{f:Nat->Nat}(h:j < B):cF B f j=j:=by
 have:Nat.blt j B=true:=Nat.ble_eq_true_of_le h
 simp only [cF,this]
def Gh.eE (g:Gh) (B N:Nat) (f:Nat->Nat):Gh:=⟨fun j=>g.ob (cF B f j),fun j=>g.cp (cF B f j),fun j=>j < N/\g.al (cF B f j),g.fz,g.fo⟩
section
variable {w0:World}{A:Nat->Prop}{g gs:Gh}{S S':aa}{w ws:World}{B:Nat}{f:Nat->Nat}
theorem aA.eE {a:AV}{x:Value}{N:Nat}(hN:B<=N) (h:aA g w a x) (hp:cC B a):aA (g.eE B N f) w a x:=by
 refine aA.bT (g:=g) (g':=g.eE B N f) (B:=B) (fun k hk ha=>(⟨by omega,by rw [iP hk];exact ha⟩:k < N/\g.al (cF B f k))) (fun k hk=>?_) (fun k hk=>?_) (fun b o h=>h) h hp
 ·show g.ob (cF B f k)=g.ob k
  rw [iP hk]
 ·show g.cp (cF B f k)=g.cp k
  rw [iP hk]
theorem cH.eE {b cp N:Nat}{o:Ob}(hN:B<=N) (h:cH g w b cp o) (hk:kH B o):cH (g.eE B N f) w b cp o:=by
 cases o with
 |arr sz rows fz ex =>
  obtain⟨cs,ty,h1,h2,h3,h4,h5,h6,h7⟩:=h
  refine⟨cs,ty,h1,h2,h3,h4,fun i row hr=>⟨(h5 i row hr).1,fun j a ha=>?_⟩,h6,h7⟩
  obtain⟨x,hx,cK⟩:=(h5 i row hr).2 j a ha
  exact⟨x,hx,cK.eE hN (hk _ (List.mem_of_getElem? hr) _ (List.mem_of_getElem? ha))⟩
 |mp es =>
  obtain⟨entries,clock,h1,h2,h3⟩:=h
  refine⟨entries,clock,h1,h2,fun i k a ha=>?_⟩
  obtain⟨e,he,eY,hr⟩:=h3 i k a ha
  exact⟨e,he,eY,hr.eE hN (hk _ (List.mem_of_getElem? ha))⟩
 |mb es =>
  obtain⟨entries,h1,h2,h3,h4⟩:=h
  refine⟨entries,h1,h2,fun i k a ha=>?_,h4⟩
  obtain⟨e,he,eY,hr⟩:=h3 i k a ha
  exact⟨e,he,eY,hr.eE hN (hk _ (List.mem_of_getElem? ha))⟩
 |lp st jO tm ps assign body =>
  obtain⟨L,h1,h2,h3,h4,h5,h6,h7,h8⟩:=h
  exact⟨L,h1,h2,h3,h4,h5,h6,fun t ht=>(h7 t ht).eE hN (hk t),h8⟩
 |df=>exact h
 |si s pos=>exact h
 |fo J=>exact h
 |un=>exact h.elim
theorem St.eE (hS:St w0 A g S w) (hN:B<=S'.nx) (eg:∀ j o,S'.get j=some o->(∃ bm,S.get (cF B f j)=some bm/\(∀ b cp,cH g w b cp bm->cH (g.eE B S'.nx f) w b cp o)/\∀ J,o=.fo J->bm=.fo J)\/S.nx<=cF B f j)
  (pf:∀ i j o p,S'.get i=some o->S'.get j=some p->cF B f i=cF B f j->i=j):St w0 A (g.eE B S'.nx f) S' w:=by
 have hs:∀ j o,S'.get j=some o->(g.eE B S'.nx f).al j->∃ bm,S.get (cF B f j)=some bm/\(∀ b cp,cH g w b cp bm->cH (g.eE B S'.nx f) w b cp o)/\∀ J,o=.fo J->bm=.fo J:=fun j o hj ha=>(eg j o hj).resolve_right fun h=>absurd (hS.al _ ha.2) (by omega)
 refine⟨hS.base,hS.up,hS.lo,fun k hk=>hk.1,fun k o hk ha=>?_,fun i j o p hi hj ai aj e=>?_,hS.bM,hS.lM,fun k J hk ha=>?_,fun k J j o hk ha hj aj aP=>?_,fun j k J J' hj hk aj ak=>?_⟩
 ·obtain⟨bm,h0,ht,_⟩:=hs k o hk ha
  obtain⟨h1,h2,h3⟩:=hS.bj _ bm h0 ha.2
  exact⟨h1,h2,ht _ _ h3⟩
 ·obtain⟨bm,h0,_⟩:=hs i o hi ai
  obtain⟨rA,h1,_⟩:=hs j p hj aj
  exact pf i j o p hi hj (hS.inj _ _ bm rA h0 h1 ai.2 aj.2 e)
 ·obtain⟨bm,h0,_,h1⟩:=hs k _ hk ha
  exact hS.fp _ J (by rw [<-h1 J rfl];exact h0) ha.2
 ·obtain⟨bm,h0,_,h1⟩:=hs k _ hk ha
  obtain⟨rA,h2,_⟩:=hs j _ hj aj
  exact hS.iF _ J _ rA (by rw [<-h1 J rfl];exact h0) ha.2 h2 aj.2 (fun e=>aP (pf j k o _ hj hk e))
 ·obtain⟨bm,h0,_,h1⟩:=hs j _ hj aj
  obtain⟨rA,h2,_,h3⟩:=hs k _ hk ak
  exact pf j k _ _ hj hk (hS.kD _ _ J J' (by rw [<-h1 J rfl];exact h0) (by rw [<-h3 J' rfl];exact h2) aj.2 ak.2)
theorem Ext.eE {N:Nat}(hE:Ext A gs ws g w) (hN:B<=N) (hB:∀ k,gs.al k->k < B):Ext A gs ws (g.eE B N f) w :=
 { al:=fun k hk=>⟨by have:=hB k hk;omega,by rw [iP (hB k hk)];exact hE.al k hk⟩
   ob:=fun k hk=>by show g.ob (cF B f k)=gs.ob k;rw [iP (hB k hk)];exact hE.ob k hk
   cp:=fun k hk=>by show g.cp (cF B f k)=gs.cp k;rw [iP (hB k hk)];exact hE.cp k hk
   fz:=hE.fz
   cell:=hE.cell
   size:=hE.size
   cD:=hE.cD
   eW:=hE.eW }
end
def aN:List (Nat × Nat)->Nat->Nat
 |[],j=>j
 |p::m,j=>match Nat.beq p.1 j with|true=>p.2|false=>aN m j
def cM:List (Nat × Ob)->Nat->Option Ob
 |[],_=>none
 |p::l,j=>match Nat.beq p.1 j with|true=>some p.2|false=>cM l j
theorem dY:∀ {l:List (Nat × Ob)}{j:Nat}{o:Ob},cM l j=some o->(j,o) ∈ l
 |[],j,o,h=>by cases h
 |(a,b)::l,j,o,h=>by
  simp only [cM] at h
  split at h
  ·rename_i e
   obtain rfl:=Nat.eq_of_beq_eq_true e
   obtain rfl:=Option.some.inj h
   simp
  ·exact List.mem_cons_of_mem _ (dY h)
inductive ph (B:Nat) (m:List (Nat × Nat)) (N:Nat) (f:Nat->AV):Nat->AV->Prop where
 |aJ {t:Nat}{a:AV}(h:f t=a) (hk:cC B a):ph B m N f t a
 |new {t j sz off len:Nat}{cx:Option Nat}(h:f t=.ob (cF B (aN m) j) sz off len cx) (hj:Nat.blt j N=true):ph B m N f t (.ob j sz off len cx)
 |lD {t j sz len:Nat}(h:f t=.gr (cF B (aN m) j) sz len) (hj:Nat.blt j N=true):ph B m N f t (.gr j sz len)
 |ia {t j sz:Nat}(h:f t=.sl true []):ph B m N f t (.gr j sz 0)
 |kR {t j sz i q:Nat}(h:f t=.pt (cF B (aN m) j) sz i q) (hj:Nat.blt j N=true):ph B m N f t (.pt j sz i q)
 |nJ {t j:Nat}(h:f t=.mp (cF B (aN m) j)) (hj:Nat.blt j N=true):ph B m N f t (.mp j)
def xk (B:Nat) (m:List (Nat × Nat)) (N:Nat) (f:Nat->AV):List (Nat × AV)->Prop
 |[]=>True
 |p::l=>ph B m N f p.1 p.2/\xk B m N f l
inductive fy (B:Nat) (m:List (Nat × Nat)) (N:Nat):AV->AV->Prop where
 |aJ {a:AV}(hk:cC B a):fy B m N a a
 |new {j k sz off len:Nat}{cx:Option Nat}(h:k=cF B (aN m) j) (hj:Nat.blt j N=true):fy B m N (.ob k sz off len cx) (.ob j sz off len cx)
 |lD {j k sz len:Nat}(h:k=cF B (aN m) j) (hj:Nat.blt j N=true):fy B m N (.gr k sz len) (.gr j sz len)
 |ia {j sz:Nat}:fy B m N (.sl true []) (.gr j sz 0)
 |kR {j k sz i q:Nat}(h:k=cF B (aN m) j) (hj:Nat.blt j N=true):fy B m N (.pt k sz i q) (.pt j sz i q)
 |nJ {j k:Nat}(h:k=cF B (aN m) j) (hj:Nat.blt j N=true):fy B m N (.mp k) (.mp j)
def qw (B:Nat) (m:List (Nat × Nat)) (N:Nat):List AV->List AV->Prop
 |[],[]=>True
 |a::l,b::l'=>fy B m N a b/\qw B m N l l'
 |_,_=>False
def xl (B:Nat) (m:List (Nat × Nat)) (N:Nat):List (List AV)->List (List AV)->Prop
 |[],[]=>True
 |a::l,b::l'=>qw B m N a b/\xl B m N l l'
 |_,_=>False
theorem qw.at {B N:Nat}{m:List (Nat × Nat)}:∀ {l l':List AV},qw B m N l l'->l.length=l'.length/\∀ (i:Nat) (b:AV),l'[i]?=some b->∃ a,l[i]?=some a/\fy B m N a b
 |[],[],_=>⟨rfl,fun i b h=>by simp at h⟩
 |a::l,b::l',hc=>⟨by simp [hc.2.at.1],fun i c h=>by
  cases i with
  |zero=>simp at h;subst h;exact⟨a,rfl,hc.1⟩
  |succ i=>simp at h;obtain⟨d,h1,h2⟩:=hc.2.at.2 i c h;exact⟨d,by simpa using h1,h2⟩⟩
 |[],_::_,h=>h.elim
 |_::_,[],h=>h.elim
theorem xl.at {B N:Nat}{m:List (Nat × Nat)}:∀ {l l':List (List AV)},xl B m N l l'->l.length=l'.length/\∀ (i:Nat) (b:List AV),l'[i]?=some b->∃ a,l[i]?=some a/\qw B m N a b
 |[],[],_=>⟨rfl,fun i b h=>by simp at h⟩
 |a::l,b::l',hc=>⟨by simp [hc.2.at.1],fun i c h=>by
  cases i with
  |zero=>simp at h;subst h;exact⟨a,rfl,hc.1⟩
  |succ i=>simp at h;obtain⟨d,h1,h2⟩:=hc.2.at.2 i c h;exact⟨d,by simpa using h1,h2⟩⟩
 |[],_::_,h=>h.elim
 |_::_,[],h=>h.elim
inductive s5 (B:Nat) (m:List (Nat × Nat)) (N:Nat):Ob->Ob->Prop where
 |same {o:Ob}(hk:kH B o):s5 B m N o o
 |arr {sz fz:Nat}{rows bV:List (List AV)}{ex:Bool}(h:xl B m N rows bV):s5 B m N (.arr sz rows fz ex) (.arr sz bV fz ex)
def eI (B:Nat) (m:List (Nat × Nat)) (N:Nat) (S:aa):List (Nat × Ob)->Prop
 |[]=>True
 |p::l=>((∃ bm,S.get (cF B (aN m) p.1)=some bm/\s5 B m N bm p.2)\/Nat.ble S.nx (cF B (aN m) p.1)=true)/\eI B m N S l
theorem eI.mem {B N:Nat}{m:List (Nat × Nat)}{S:aa}:∀ {l:List (Nat × Ob)},eI B m N S l->∀ p ∈ l,(∃ bm,S.get (cF B (aN m) p.1)=some bm/\s5 B m N bm p.2)\/Nat.ble S.nx (cF B (aN m) p.1)=true
 |[],_,p,h=>by cases h
 |q::l,hc,p,h=>by
  rcases List.mem_cons.1 h with rfl|h
  ·exact hc.1
  ·exact hc.2.mem p h
def ly (B:Nat) (m:List (Nat × Nat)):List Nat->Bool
 |[]=>true
 |j::l=>l.all (fun i=>!Nat.beq (cF B (aN m) i) (cF B (aN m) j)) && ly B m l
theorem ly.inj {B:Nat}{m:List (Nat × Nat)}:∀ {l:List Nat},ly B m l=true->∀ i j,i ∈ l->j ∈ l->cF B (aN m) i=cF B (aN m) j->i=j
 |[],_,i,j,h,_,_=>by cases h
 |a::l,hd,i,j,hi,hj,e=>by
  simp only [ly,Bool.and_eq_true,List.all_eq_true,Bool.not_eq_true'] at hd
  have ne:∀ x ∈ l,cF B (aN m) x ≠ cF B (aN m) a:=fun x hx h=>by
   have:=hd.1 x hx
   rw [h,Nat.beq_refl] at this
   cases this
  by_cases h1:i=a
  ·by_cases h2:j=a
   ·rw [h1,h2]
   ·subst h1;exact absurd e.symm (ne _ ((List.mem_cons.1 hj).resolve_left h2))
  ·by_cases h2:j=a
   ·subst h2;exact absurd e (ne _ ((List.mem_cons.1 hi).resolve_left h1))
   ·exact ly.inj hd.2 i j ((List.mem_cons.1 hi).resolve_left h1) ((List.mem_cons.1 hj).resolve_left h2) e
def f_ (l:List (Nat × AV)) (ds:List DE):AA:=⟨jj (fun _=>.u) l,ds⟩
def au (l:List (Nat × Ob)) (N:Nat):aa:=⟨cM l,N⟩
structure Canon (B N:Nat) (m:List (Nat × Nat)) (α:AA) (S:aa) (l:List (Nat × AV)) (ds:List DE) (so:List (Nat × Ob)):Prop where
 UA:xk B m N α.tm l
 df:α.df=ds
 aah:eI B m N S so
 aai:ly B m (so.map (·.1))=true
 bn:Nat.ble B N=true
 dl:ds.all (fun d=>Nat.blt d.k B)=true
section
variable {P:Program}{w0:World}{rd:Bool}{n:Nat}{A:Nat->Prop}{g gs:Gh}{S S':aa}{w ws:World}{B N:Nat}{m:List (Nat × Nat)}{α:AA}{l:List (Nat × AV)}{ds:List DE}{so:List (Nat × Ob)}{a:Act}
theorem c_ {i j:Nat}(h:Nat.blt i j=true):i < j:=Nat.le_of_ble_eq_true h
theorem fy.rep {a b:AV}{x:Value}(hN:B<=N) (h:fy B m N a b) (hr:aA g w a x):aA (g.eE B N (aN m)) w b x:=by
 cases h with
 |aJ hk=>exact hr.eE hN hk
 |@new j k sz off len cx e hj =>
  subst e
  cases hr with
  |ob hk hc hp hx hle=>exact .ob (g:=g.eE B N (aN m)) (k:=j) ⟨Nat.le_of_ble_eq_true hj,hk⟩ hc hp hx hle
 |@lD j k sz len e hj =>
  subst e
  cases hr with
  |ia=>exact .ia
  |gr hk hx hle=>exact .gr (g:=g.eE B N (aN m)) (k:=j) ⟨Nat.le_of_ble_eq_true hj,hk⟩ hx hle
 |ia =>
  cases hr with
  |nil hc=>rw [hc rfl];exact .ia
  |sl hn=>exact absurd rfl hn
 |@kR j k sz i q e hj =>
  subst e
  cases hr with
  |pt hk=>exact .pt (g:=g.eE B N (aN m)) (k:=j) ⟨Nat.le_of_ble_eq_true hj,hk⟩
 |@nJ j k e hj =>
  subst e
  cases hr with
  |mp hk=>exact .mp (g:=g.eE B N (aN m)) (k:=j) ⟨Nat.le_of_ble_eq_true hj,hk⟩
theorem s5.rep {o o':Ob}{b cp:Nat}(hN:B<=N) (h:s5 B m N o o') (hr:cH g w b cp o):cH (g.eE B N (aN m)) w b cp o':=by
 cases h with
 |same hk=>exact hr.eE hN hk
 |@arr sz fz rows bV ex hc =>
  obtain⟨hl,ha⟩:=hc.at
  obtain⟨cs,ty,h1,h2,h3,h4,h5,h6,h7⟩:=hr
  refine⟨cs,ty,h1,h2,by rw [<-hl];exact h3,fun he=>by rw [<-hl];exact h4 he,fun i row hr=>?_,by rw [<-hl];exact h6,h7⟩
  obtain⟨RQ,e1,e2⟩:=ha i row hr
  obtain⟨kI,k_⟩:=e2.at
  refine⟨by rw [<-kI];exact (h5 i RQ e1).1,fun j a hj=>?_⟩
  obtain⟨a0,e3,e4⟩:=k_ j a hj
  obtain⟨x,hx,cK⟩:=(h5 i RQ e1).2 j a0 e3
  exact⟨x,hx,e4.rep hN cK⟩
theorem Canon.st (hC:Canon B N m α S l ds so) (hS:St w0 A g S w):St w0 A (g.eE B N (aN m)) (au so N) w :=
 St.eE (S':=au so N) hS (Nat.le_of_ble_eq_true hC.bn) (fun j o h=>by
   rcases hC.aah.mem _ (dY h) with ⟨bm,h0,hc⟩|hv
   case inr=>exact .inr (Nat.le_of_ble_eq_true hv)
   exact .inl ⟨bm,h0,fun b cp hr=>hc.rep (Nat.le_of_ble_eq_true hC.bn) hr,fun J hJ=>by subst hJ;cases hc;rfl⟩)
  (fun i j o p hi hj e=>ly.inj hC.aai i j (List.mem_map.2 ⟨_,dY hi,rfl⟩) (List.mem_map.2 ⟨_,dY hj,rfl⟩) e)
theorem zx (hN:B<=N) (hA:bf g w n α a):∀ {l:List (Nat × AV)},xk B m N α.tm l->(∀ t,t < n->aA (g.eE B N (aN m)) w (jj (fun _=>.u) l t) (a.tmps.getD t undef))/\∀ t,n<=t->jj (fun _=>.u) l t=.u
 |[],_=>⟨fun _ _=>.u,fun _ _=>rfl⟩
 |(s,b)::l,h=>by
  obtain⟨h1,h2⟩:=zx hN hA h.2
  have hs:ph B m N α.tm s b:=h.1
  refine⟨fun t ht=>?_,fun t ht=>?_⟩
  ·show aA _ w (aX (jj (fun _=>.u) l) s b t) _
   by_cases e:t=s
   ·subst e
    rw [ah]
    have hr:=hA.tm t ht
    cases hs with
    |aJ e hk=>rw [e] at hr;exact hr.eE hN hk
    |@new j sz off len cx e hj =>
     rw [e] at hr
     exact fy.rep hN (.new rfl hj) hr
    |@lD j sz len e hj=>rw [e] at hr;exact fy.rep hN (.lD rfl hj) hr
    |@ia j sz e=>rw [e] at hr;exact fy.rep hN .ia hr
    |@kR j sz i q e hj=>rw [e] at hr;exact fy.rep hN (.kR rfl hj) hr
    |@nJ j e hj=>rw [e] at hr;exact fy.rep hN (.nJ rfl hj) hr
   ·rw [aq _ _ e];exact h1 t ht
  ·show aX (jj (fun _=>.u) l) s b t=.u
   by_cases e:t=s
   ·subst e
    rw [ah]
    have hr:=hA.out t ht
    cases hs with
    |aJ e hk=>exact e.symm.trans hr
    |new e hj=>rw [hr] at e;cases e
    |lD e hj=>rw [hr] at e;cases e
    |ia e=>rw [hr] at e;cases e
    |kR e hj=>rw [hr] at e;cases e
    |nJ e hj=>rw [hr] at e;cases e
   ·rw [aq _ _ e];exact h2 t ht
theorem Canon.KM (hC:Canon B N m α S l ds so) (hA:bf g w n α a):bf (g.eE B N (aN m)) w n (f_ l ds) a:=by
 have hN:=Nat.le_of_ble_eq_true hC.bn
 obtain⟨h1,h2⟩:=zx hN hA hC.UA
 have hd:=hC.dl
 rw [List.all_eq_true] at hd
 refine⟨hA.size,h1,h2,?_,fun k hk=>?_⟩
 ·rw [hA.df,hC.df]
  refine List.map_congr_left fun k hk=>?_
  refine (s6 ?_).symm
  show g.ob (cF B (aN m) k.k)=_
  rw [iP (c_ (hd k hk))]
 ·have:=c_ (hd k hk)
  refine⟨by omega,?_⟩
  rw [iP this]
  exact hA.oN k (by rw [hC.df];exact hk)
def oO (P:Program) (w0:World) (rd:Bool) (n B:Nat) (c:Code) (α:AA) (S:aa) (ex:Exit) (ag:AA) (S':aa):Prop :=
 ∀ (F:Fence) (m:Nat) (A:Nat->Prop) (g gs:Gh) (a:Act) (w ws:World),fZ F->F.round.isSome=rd->St w0 A g S w->bf g w n α a->Ext A gs ws g w->(∀ k,gs.al k->k < B)->∀ (b:Frame) (k:List Item) (cs:List Frame),b.roundOf=F.round->F.fn b.fn->F.room (cs.length+1+m) ->
  ∃ e a' w',lz w0 n A gs ws ex ag S' e a' w'/\ArrivesIn (Machine.fenced P F) P (lone (b.atR a (.code c::.inLoop c::k)) cs w) b k cs e a' w'
section
variable {c:Code}{bG ag:AA}{bR:aa}{ex:Exit}
theorem oO.step (h:bI P w0 rd n c α S .normal bG bR) (hC:Canon B N m bG bR l ds so) (k:oO P w0 rd n B c (f_ l ds) (au so N) ex ag S'):oO P w0 rd n B c α S ex ag S':=by
 intro F mm A g gs a w ws hF hR hS hA hE hB b q cs jv hb hr
 obtain⟨e,iQ,gw,hq,iR⟩:=h F mm A g a w hF hR hS hA b (.inLoop c::q) cs jv hb hr
 obtain⟨rfl,vZ,xm,xn,UB⟩:=hq
 obtain⟨KO,KP,KQ,E6,yB⟩:=k F mm A _ gs iQ gw ws hF hR (hC.st xm) (hC.KM xn) ((hE.trans UB).eE (Nat.le_of_ble_eq_true hC.bn) hB) hB b q cs jv hb hr
 exact⟨KO,KP,KQ,E6,.of_steps (StepsIn.trans iR (.one (fenced_calm hb hr rfl) stepR_inLoop)) yB⟩
theorem oO.done (h:bI P w0 rd n c α S ex ag S') (he:ex ≠ .normal):oO P w0 rd n B c α S ex ag S':=by
 intro F mm A g gs a w ws hF hR hS hA hE hB b q cs jv hb hr
 obtain⟨e,iQ,gw,hq,iR⟩:=h F mm A g a w hF hR hS hA b (.inLoop c::q) cs jv hb hr
 obtain⟨rfl,hq⟩:=hq
 exact⟨e,iQ,gw,lz.ext hE ⟨rfl,hq⟩,.pass (x:=.inLoop c) rfl (fun _ _=>.inl he) iR⟩
theorem oO.start (hn:Nat.ble S.nx B=true) (hC:Canon B N m α S l ds so) (k:oO P w0 rd n B c (f_ l ds) (au so N) ex ag S'):pZ P w0 rd n c α S ex ag S':=by
 intro F mm A g a w hF hR hS hA b q cs jv hb hr
 have hB:∀ k,g.al k->k < B:=fun k hk=>Nat.lt_of_lt_of_le (hS.al k hk) (Nat.le_of_ble_eq_true hn)
 exact k F mm A _ g a w w hF hR (hC.st hS) (hC.KM hA) ((Ext.refl A g w).eE (Nat.le_of_ble_eq_true hC.bn) hB) hB b q cs jv hb hr
end
def I7 {σ:Type}(P:Program) (w0:World) (rd:Bool) (n B N:Nat) (st:σ->List (Nat × AV)) (ds:List DE) (so:σ->List (Nat × Ob)) (I:σ->Prop) (μ:σ->Nat) (Q:Exit->AA->aa->Prop) (K:List ig) (k:Nat):Exit->AA->aa->Prop :=
 fun ex α S=>match ex with|.normal=>∃ s m,I s/\μ s < k/\Canon B N m α S (st s) ds (so s)|e=>ab P w0 rd n Q (.out e K) α S
variable {Q:Exit->AA->aa->Prop}{K:List ig}
theorem ab.iK {σ:Type}(B N:Nat) (m:List (Nat × Nat)) (st:σ->List (Nat × AV)) (ds:List DE) (so:σ->List (Nat × Ob)) (I:σ->Prop) (μ:σ->Nat) (s0:σ) {c:QC}(h0:I s0) (hn:Nat.ble S.nx B=true) (hC:Canon B N m α S (st s0) ds (so s0))
  (h:∀ s,I s->ab P w0 rd n (I7 P w0 rd n B N st ds so I μ Q K (μ s)) (.run c []) (f_ (st s) ds) (au (so s) N)):ab P w0 rd n Q (.run (.loop c) K) α S:=by
 intro c0 hc hd
 obtain⟨c1,rfl,h1⟩:=I1 hc
 have key:∀ (k:Nat) (s:σ),I s->μ s=k->∃ ex ag S',oO P w0 rd n B c1 (f_ (st s) ds) (au (so s) N) ex ag S'/\iJ P w0 rd n Q K ex ag S':=by
  intro k
  induction k using Nat.strongRecOn with
  |_ k ih =>
   intro s hI hk
   obtain⟨ex,bG,bR,h3,h4⟩:Wp P w0 rd n c1 (I7 P w0 rd n B N st ds so I μ Q K (μ s)) (f_ (st s) ds) (au (so s) N):=h s hI c1 h1 hd
   cases ex with
   |normal =>
    obtain⟨s',m',hI',aB,hC'⟩:=h4
    obtain⟨ex,ag,S',h5,h6⟩:=ih (μ s') (by omega) s' hI' rfl
    exact⟨ex,ag,S',oO.step h3 hC' h5,h6⟩
   |_=>exact⟨_,bG,bR,oO.done h3 (by simp),h4⟩
 obtain⟨ex,ag,S',h2,h3⟩:=key _ s0 h0 rfl
 exact⟨ex,ag,S',bI.loop (oO.start hn hC h2),h3⟩
theorem ab.d_ {σ:Type}{st:σ->List (Nat × AV)}{so:σ->List (Nat × Ob)}{I:σ->Prop}{μ:σ->Nat}{k:Nat}(s:σ) (m:List (Nat × Nat)) (hI:I s) (hk:μ s < k) (hC:Canon B N m α S (st s) ds (so s)) :
  ab P w0 rd n (I7 P w0 rd n B N st ds so I μ Q K k) (.out .normal []) α S:=⟨s,m,hI,hk,hC⟩
theorem ab.bh {σ:Type}{st:σ->List (Nat × AV)}{so:σ->List (Nat × Ob)}{I:σ->Prop}{μ:σ->Nat}{k id:Nat}(h:ab P w0 rd n Q (.out (.exit id) K) α S):ab P w0 rd n (I7 P w0 rd n B N st ds so I μ Q K k) (.out (.exit id) []) α S:=h
theorem ab.bO {σ:Type}{st:σ->List (Nat × AV)}{so:σ->List (Nat × Ob)}{I:σ->Prop}{μ:σ->Nat}{k:Nat}(h:ab P w0 rd n Q (.out .ret K) α S):ab P w0 rd n (I7 P w0 rd n B N st ds so I μ Q K k) (.out .ret []) α S:=h
end
end Go.Proofs.YtgjfgekaclobaaaGreat
