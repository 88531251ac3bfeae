import Derived.Test.YtbofilglphfceaaGreatD15
namespace Go.Proofs.YtbofilglphfceaaGreat
set_option linter.unusedVariables false
set_option linter.unusedSimpArgs false
open Go.RowKit
inductive da (B:Nat):AV->Prop where
 |u:da B .u
 |v {x:Value}:da B (.v x)
 |agg {l:List AV}(h:∀ a ∈ l,da B a):da B (.agg l)
 |aL {l:List AV}(h:∀ a ∈ l,da B a):da B (.aL l)
 |sl {ex:Bool}{rows:List (List AV)}(h:∀ row ∈ rows,∀ a ∈ row,da B a):da B (.sl ex rows)
 |ip {cs:List AV}(h:∀ a ∈ cs,da B a):da B (.ip cs)
 |ob {k sz off len:Nat}{cx:Option Nat}(h:k < B):da B (.ob k sz off len cx)
 |pt {k sz i j:Nat}(h:k < B):da B (.pt k sz i j)
 |mp {k:Nat}(h:k < B):da B (.mp k)
 |yl {k:Nat}(h:k < B):da B (.yl k)
 |gr {k sz len:Nat}(h:k < B):da B (.gr k sz len)
 |fn {f:Fn}{l m:List AV}(h3:∀ a ∈ l,da B a) (h4:∀ a ∈ m,da B a):da B (.fn f l m)
theorem Pure.d_ {B:Nat}{a:AV}(h:Pure a):da B a:=by
 induction h with
 |v=>exact .v
 |agg _ ih=>exact .agg ih
 |aL _ ih=>exact .aL ih
 |sl _ ih=>exact .sl ih
 |ip _ ih=>exact .ip ih
 |fn _ _ Iy Iz=>exact .fn Iy Iz
theorem ao.d_ {g g':Gh}{w:World}{B:Nat}(aY:∀ k,k < B->g.al k->g'.al k) (gE:∀ k,k < B->g'.ob k=g.ob k) (lB:∀ k,k < B->g'.cp k=g.cp k) (hf:∀ b o,g.fz b o->g'.fz b o) {a:AV}{x:Value}(h:ao g w a x) (hp:da B a) :
  ao g' w a x:=by
 induction h with
 |u=>exact .u
 |v=>exact .v
 |agg hs h ih=>cases hp with|agg hp=>exact .agg hs fun i a x h1 h2=>ih i a x h1 h2 (hp _ (List.mem_of_getElem? h1))
 |aL hs h ih=>cases hp with|aL hp=>exact .aL hs fun i a x h1 h2=>ih i a x h1 h2 (hp _ (List.mem_of_getElem? h1))
 |nil hc=>exact .nil hc
 |sl hn j6 hle hl h hr ih =>
  cases hp with
  |sl hp =>
   exact .sl hn j6 hle hl (fun i j row a h1 h2=>⟨hf _ _ (h i j row a h1 h2).1,(h i j row a h1 h2).2⟩)
    (fun i j row a h1 h2=>ih i j row a h1 h2 (hp _ (List.mem_of_getElem? h1) _ (List.mem_of_getElem? h2)))
 |ip h hr ih =>
  cases hp with
  |ip hp=>exact .ip (fun j a h1=>⟨hf _ _ (h j a h1).1,(h j a h1).2⟩) (fun j a h1=>ih j a h1 (hp _ (List.mem_of_getElem? h1)))
 |ob hk hc h1 hx hle=>cases hp with|ob hp=>rw [<-gE _ hp];exact .ob (aY _ hp hk) hc (by rw [lB _ hp];exact h1) (by rw [lB _ hp];exact hx) hle
 |pt hk=>cases hp with|pt hp=>rw [<-gE _ hp];exact .pt (aY _ hp hk)
 |mp hk=>cases hp with|mp hp=>rw [<-gE _ hp];exact .mp (aY _ hp hk)
 |yl hk=>cases hp with|yl hp=>rw [<-gE _ hp];exact .yl (aY _ hp hk)
 |im=>exact .im
 |gr hk hx hle=>cases hp with|gr hp=>rw [<-gE _ hp];exact .gr (aY _ hp hk) (by rw [lB _ hp];exact hx) hle
 |fn h1 h2 h3 h4 B8 B9 =>
  cases hp with
  |fn hp hq=>exact .fn h1 h2 (fun i a x h1 h2=>B8 i a x h1 h2 (hp _ (List.mem_of_getElem? h1))) (fun i a x h1 h2=>B9 i a x h1 h2 (hq _ (List.mem_of_getElem? h1)))
def rA (B:Nat):Ob->Prop
 |.arr _ rows _ _=>∀ row ∈ rows,∀ a ∈ row,da B a
 |.mp es=>∀ e ∈ es,da B e.2
 |.lp _ _ tm _ _ _=>∀ t,da B (tm t)
 |.df=>True
 |.si _ _=>True
 |.fo _=>True
 |.un=>True
def b9 (B:Nat) (f:Nat->Nat) (j:Nat):Nat:=match Nat.blt j B with|true=>j|false=>f j
theorem ft {B j:Nat}{f:Nat->Nat}(h:j < B):b9 B f j=j:=by
 have:Nat.blt j B=true:=Nat.ble_eq_true_of_le h
 simp only [b9,this]
def Gh.dw (g:Gh) (B N:Nat) (f:Nat->Nat):Gh:=⟨fun j=>g.ob (b9 B f j),fun j=>g.cp (b9 B f j),fun j=>j < N/\g.al (b9 B f j),g.fz,g.fo⟩
section
variable {w0:World}{A:Nat->Prop}{g gs:Gh}{S S':U}{w ws:World}{B:Nat}{f:Nat->Nat}
theorem ao.dw {a:AV}{x:Value}{N:Nat}(hN:B<=N) (h:ao g w a x) (hp:da B a):ao (g.dw B N f) w a x:=by
 refine ao.d_ (g:=g) (g':=g.dw B N f) (B:=B) (fun k hk ha=>(⟨by omega,by rw [ft hk];exact ha⟩:k < N/\g.al (b9 B f k))) (fun k hk=>?_) (fun k hk=>?_) (fun b o h=>h) h hp
 ·show g.ob (b9 B f k)=g.ob k
  rw [ft hk]
 ·show g.cp (b9 B f k)=g.cp k
  rw [ft hk]
theorem cN.dw {b cp N:Nat}{o:Ob}(hN:B<=N) (h:cN g w b cp o) (hk:rA B o):cN (g.dw B N f) w b cp o:=by
 cases o with
 |arr sz rows fz ex =>
  obtain⟨cs,ty,h1,h2,h3,h4,h5,h6,h7⟩:=h
  refine⟨cs,ty,h1,h2,h3,h4,fun i row hr=>⟨(h5 i row hr).1,fun j a ha=>?_⟩,h6,h7⟩
  obtain⟨x,hx,dC⟩:=(h5 i row hr).2 j a ha
  exact⟨x,hx,dC.dw hN (hk _ (List.mem_of_getElem? hr) _ (List.mem_of_getElem? ha))⟩
 |mp es =>
  obtain⟨entries,clock,h1,h2,h3⟩:=h
  refine⟨entries,clock,h1,h2,fun i k a ha=>?_⟩
  obtain⟨e,he,kK,hr⟩:=h3 i k a ha
  exact⟨e,he,kK,hr.dw hN (hk _ (List.mem_of_getElem? ha))⟩
 |lp st n0 tm ps assign body =>
  obtain⟨L,h1,h2,h3,h4,h5,h6,h7,h8⟩:=h
  exact⟨L,h1,h2,h3,h4,h5,h6,fun t ht=>(h7 t ht).dw hN (hk t),h8⟩
 |df=>exact h
 |si s pos=>exact h
 |fo J=>exact h
 |un=>exact h.elim
theorem St.dw (hS:St w0 A g S w) (hN:B<=S'.nx) (pT:∀ j o,S'.get j=some o->(∃ bf,S.get (b9 B f j)=some bf/\(∀ b cp,cN g w b cp bf->cN (g.dw B S'.nx f) w b cp o)/\∀ J,o=.fo J->bf=.fo J)\/S.nx<=b9 B f j)
  (pU:∀ i j o p,S'.get i=some o->S'.get j=some p->b9 B f i=b9 B f j->i=j):St w0 A (g.dw B S'.nx f) S' w:=by
 have hs:∀ j o,S'.get j=some o->(g.dw B S'.nx f).al j->∃ bf,S.get (b9 B f j)=some bf/\(∀ b cp,cN g w b cp bf->cN (g.dw B S'.nx f) w b cp o)/\∀ J,o=.fo J->bf=.fo J:=fun j o hj ha=>(pT j o hj).resolve_right fun h=>absurd (hS.al _ ha.2) (by omega)
 refine⟨hS.base,hS.up,hS.lo,fun k hk=>hk.1,fun k o hk ha=>?_,fun i j o p hi hj ai aj e=>?_,hS.bM,hS.j7,fun k J hk ha=>?_,fun k J j o hk ha hj aj aM=>?_,fun j k J J' hj hk aj ak=>?_⟩
 ·obtain⟨bf,h0,ht,_⟩:=hs k o hk ha
  obtain⟨h1,h2,h3⟩:=hS.bE _ bf h0 ha.2
  exact⟨h1,h2,ht _ _ h3⟩
 ·obtain⟨bf,h0,_⟩:=hs i o hi ai
  obtain⟨nj,h1,_⟩:=hs j p hj aj
  exact pU i j o p hi hj (hS.inj _ _ bf nj h0 h1 ai.2 aj.2 e)
 ·obtain⟨bf,h0,_,h1⟩:=hs k _ hk ha
  exact hS.eM _ J (by rw [<-h1 J rfl];exact h0) ha.2
 ·obtain⟨bf,h0,_,h1⟩:=hs k _ hk ha
  obtain⟨nj,h2,_⟩:=hs j _ hj aj
  exact hS.fW _ J _ nj (by rw [<-h1 J rfl];exact h0) ha.2 h2 aj.2 (fun e=>aM (pU j k o _ hj hk e))
 ·obtain⟨bf,h0,_,h1⟩:=hs j _ hj aj
  obtain⟨nj,h2,_,h3⟩:=hs k _ hk ak
  exact pU j k _ _ hj hk (hS.iQ _ _ J J' (by rw [<-h1 J rfl];exact h0) (by rw [<-h3 J' rfl];exact h2) aj.2 ak.2)
theorem Ext.dw {N:Nat}(hE:Ext A gs ws g w) (hN:B<=N) (hB:∀ k,gs.al k->k < B):Ext A gs ws (g.dw B N f) w :=
 { al:=fun k hk=>⟨by have:=hB k hk;omega,by rw [ft (hB k hk)];exact hE.al k hk⟩
   ob:=fun k hk=>by show g.ob (b9 B f k)=gs.ob k;rw [ft (hB k hk)];exact hE.ob k hk
   cp:=fun k hk=>by show g.cp (b9 B f k)=gs.cp k;rw [ft (hB k hk)];exact hE.cp k hk
   fz:=hE.fz
   cell:=hE.cell
   size:=hE.size
   bR:=hE.bR
   eu:=hE.eu }
end
def bh:List (Nat × Nat)->Nat->Nat
 |[],j=>j
 |p::m,j=>match Nat.beq p.1 j with|true=>p.2|false=>bh m j
def fj:List (Nat × Ob)->Nat->Option Ob
 |[],_=>none
 |p::l,j=>match Nat.beq p.1 j with|true=>some p.2|false=>fj l j
theorem gP:∀ {l:List (Nat × Ob)}{j:Nat}{o:Ob},fj l j=some o->(j,o) ∈ l
 |[],j,o,h=>by cases h
 |(a,b)::l,j,o,h=>by
  simp only [fj] at h
  split at h
  ·rename_i e
   obtain rfl:=Nat.eq_of_beq_eq_true e
   obtain rfl:=Option.some.inj h
   simp
  ·exact List.mem_cons_of_mem _ (gP h)
inductive l0 (B:Nat) (m:List (Nat × Nat)) (N:Nat) (f:Nat->AV):Nat->AV->Prop where
 |aV {t:Nat}{a:AV}(h:f t=a) (hk:da B a):l0 B m N f t a
 |new {t j sz off len:Nat}{cx:Option Nat}(h:f t=.ob (b9 B (bh m) j) sz off len cx) (hj:Nat.blt j N=true):l0 B m N f t (.ob j sz off len cx)
 |nk {t j sz len:Nat}(h:f t=.gr (b9 B (bh m) j) sz len) (hj:Nat.blt j N=true):l0 B m N f t (.gr j sz len)
 |im {t j sz:Nat}(h:f t=.sl true []):l0 B m N f t (.gr j sz 0)
 |nm {t j sz i q:Nat}(h:f t=.pt (b9 B (bh m) j) sz i q) (hj:Nat.blt j N=true):l0 B m N f t (.pt j sz i q)
 |nn {t j:Nat}(h:f t=.mp (b9 B (bh m) j)) (hj:Nat.blt j N=true):l0 B m N f t (.mp j)
def rB (B:Nat) (m:List (Nat × Nat)) (N:Nat) (f:Nat->AV):List (Nat × AV)->Prop
 |[]=>True
 |p::l=>l0 B m N f p.1 p.2/\rB B m N f l
inductive eg (B:Nat) (m:List (Nat × Nat)) (N:Nat):AV->AV->Prop where
 |aV {a:AV}(hk:da B a):eg B m N a a
 |new {j k sz off len:Nat}{cx:Option Nat}(h:k=b9 B (bh m) j) (hj:Nat.blt j N=true):eg B m N (.ob k sz off len cx) (.ob j sz off len cx)
 |nk {j k sz len:Nat}(h:k=b9 B (bh m) j) (hj:Nat.blt j N=true):eg B m N (.gr k sz len) (.gr j sz len)
 |im {j sz:Nat}:eg B m N (.sl true []) (.gr j sz 0)
 |nm {j k sz i q:Nat}(h:k=b9 B (bh m) j) (hj:Nat.blt j N=true):eg B m N (.pt k sz i q) (.pt j sz i q)
 |nn {j k:Nat}(h:k=b9 B (bh m) j) (hj:Nat.blt j N=true):eg B m N (.mp k) (.mp j)
def mH (B:Nat) (m:List (Nat × Nat)) (N:Nat):List AV->List AV->Prop
 |[],[]=>True
 |a::l,b::l'=>eg B m N a b/\mH B m N l l'
 |_,_=>False
def rC (B:Nat) (m:List (Nat × Nat)) (N:Nat):List (List AV)->List (List AV)->Prop
 |[],[]=>True
 |a::l,b::l'=>mH B m N a b/\rC B m N l l'
 |_,_=>False
theorem mH.at {B N:Nat}{m:List (Nat × Nat)}:∀ {l l':List AV},mH B m N l l'->l.length=l'.length/\∀ (i:Nat) (b:AV),l'[i]?=some b->∃ a,l[i]?=some a/\eg B m N a b
 |[],[],_=>⟨rfl,fun i b h=>by simp at h⟩
 |a::l,b::l',hc=>⟨by simp [hc.2.at.1],fun i c h=>by
  cases i with
  |zero=>simp at h;subst h;exact⟨a,rfl,hc.1⟩
  |succ i=>simp at h;obtain⟨d,h1,h2⟩:=hc.2.at.2 i c h;exact⟨d,by simpa using h1,h2⟩⟩
 |[],_::_,h=>h.elim
 |_::_,[],h=>h.elim
theorem rC.at {B N:Nat}{m:List (Nat × Nat)}:∀ {l l':List (List AV)},rC B m N l l'->l.length=l'.length/\∀ (i:Nat) (b:List AV),l'[i]?=some b->∃ a,l[i]?=some a/\mH B m N a b
 |[],[],_=>⟨rfl,fun i b h=>by simp at h⟩
 |a::l,b::l',hc=>⟨by simp [hc.2.at.1],fun i c h=>by
  cases i with
  |zero=>simp at h;subst h;exact⟨a,rfl,hc.1⟩
  |succ i=>simp at h;obtain⟨d,h1,h2⟩:=hc.2.at.2 i c h;exact⟨d,by simpa using h1,h2⟩⟩
 |[],_::_,h=>h.elim
 |_::_,[],h=>h.elim
inductive oB (B:Nat) (m:List (Nat × Nat)) (N:Nat):Ob->Ob->Prop where
 |same {o:Ob}(hk:rA B o):oB B m N o o
 |arr {sz fz:Nat}{rows bF:List (List AV)}{ex:Bool}(h:rC B m N rows bF):oB B m N (.arr sz rows fz ex) (.arr sz bF fz ex)
def l3 (B:Nat) (m:List (Nat × Nat)) (N:Nat) (S:U):List (Nat × Ob)->Prop
 |[]=>True
 |p::l=>((∃ bf,S.get (b9 B (bh m) p.1)=some bf/\oB B m N bf p.2)\/Nat.ble S.nx (b9 B (bh m) p.1)=true)/\l3 B m N S l
theorem l3.mem {B N:Nat}{m:List (Nat × Nat)}{S:U}:∀ {l:List (Nat × Ob)},l3 B m N S l->∀ p ∈ l,(∃ bf,S.get (b9 B (bh m) p.1)=some bf/\oB B m N bf p.2)\/Nat.ble S.nx (b9 B (bh m) p.1)=true
 |[],_,p,h=>by cases h
 |q::l,hc,p,h=>by
  rcases List.mem_cons.1 h with rfl|h
  ·exact hc.1
  ·exact hc.2.mem p h
def jk (B:Nat) (m:List (Nat × Nat)):List Nat->Bool
 |[]=>true
 |j::l=>l.all (fun i=>!Nat.beq (b9 B (bh m) i) (b9 B (bh m) j)) && jk B m l
theorem jk.inj {B:Nat}{m:List (Nat × Nat)}:∀ {l:List Nat},jk B m l=true->∀ i j,i ∈ l->j ∈ l->b9 B (bh m) i=b9 B (bh m) j->i=j
 |[],_,i,j,h,_,_=>by cases h
 |a::l,hd,i,j,hi,hj,e=>by
  simp only [jk,Bool.and_eq_true,List.all_eq_true,Bool.not_eq_true'] at hd
  have ne:∀ x ∈ l,b9 B (bh m) x ≠ b9 B (bh m) a:=fun x hx h=>by
   have:=hd.1 x hx
   rw [h,Nat.beq_refl] at this
   cases this
  by_cases h1:i=a
  ·by_cases h2:j=a
   ·rw [h1,h2]
   ·subst h1;exact absurd e.symm (ne _ ((List.mem_cons.1 hj).resolve_left h2))
  ·by_cases h2:j=a
   ·subst h2;exact absurd e (ne _ ((List.mem_cons.1 hi).resolve_left h1))
   ·exact jk.inj hd.2 i j ((List.mem_cons.1 hi).resolve_left h1) ((List.mem_cons.1 hj).resolve_left h2) e
def eh (l:List (Nat × AV)) (ds:List Nat):AA:=⟨fN (fun _=>.u) l,ds⟩
def bu (l:List (Nat × Ob)) (N:Nat):U:=⟨fj l,N⟩
structure Canon (B N:Nat) (m:List (Nat × Nat)) (α:AA) (S:U) (l:List (Nat × AV)) (ds:List Nat) (so:List (Nat × Ob)):Prop where
 Lb:rB B m N α.tm l
 df:α.df=ds
 P5:l3 B m N S so
 P6:jk B m (so.map (·.1))=true
 bn:Nat.ble B N=true
 dl:ds.all (Nat.blt · B)=true
section
variable {P:Program}{w0:World}{rd:Bool}{n:Nat}{A:Nat->Prop}{g gs:Gh}{S S':U}{w ws:World}{B N:Nat}{m:List (Nat × Nat)}{α:AA}{l:List (Nat × AV)}{ds:List Nat}{so:List (Nat × Ob)}{a:Act}
theorem dI {i j:Nat}(h:Nat.blt i j=true):i < j:=Nat.le_of_ble_eq_true h
theorem eg.rep {a b:AV}{x:Value}(hN:B<=N) (h:eg B m N a b) (hr:ao g w a x):ao (g.dw B N (bh m)) w b x:=by
 cases h with
 |aV hk=>exact hr.dw hN hk
 |@new j k sz off len cx e hj =>
  subst e
  cases hr with
  |ob hk hc hp hx hle=>exact .ob (g:=g.dw B N (bh m)) (k:=j) ⟨Nat.le_of_ble_eq_true hj,hk⟩ hc hp hx hle
 |@nk j k sz len e hj =>
  subst e
  cases hr with
  |im=>exact .im
  |gr hk hx hle=>exact .gr (g:=g.dw B N (bh m)) (k:=j) ⟨Nat.le_of_ble_eq_true hj,hk⟩ hx hle
 |im =>
  cases hr with
  |nil hc=>rw [hc rfl];exact .im
  |sl hn=>exact absurd rfl hn
 |@nm j k sz i q e hj =>
  subst e
  cases hr with
  |pt hk=>exact .pt (g:=g.dw B N (bh m)) (k:=j) ⟨Nat.le_of_ble_eq_true hj,hk⟩
 |@nn j k e hj =>
  subst e
  cases hr with
  |mp hk=>exact .mp (g:=g.dw B N (bh m)) (k:=j) ⟨Nat.le_of_ble_eq_true hj,hk⟩
theorem oB.rep {o o':Ob}{b cp:Nat}(hN:B<=N) (h:oB B m N o o') (hr:cN g w b cp o):cN (g.dw B N (bh m)) w b cp o':=by
 cases h with
 |same hk=>exact hr.dw hN hk
 |@arr sz fz rows bF ex hc =>
  obtain⟨hl,ha⟩:=hc.at
  obtain⟨cs,ty,h1,h2,h3,h4,h5,h6,h7⟩:=hr
  refine⟨cs,ty,h1,h2,by rw [<-hl];exact h3,fun he=>by rw [<-hl];exact h4 he,fun i row hr=>?_,by rw [<-hl];exact h6,h7⟩
  obtain⟨IA,e1,e2⟩:=ha i row hr
  obtain⟨eD,jA⟩:=e2.at
  refine⟨by rw [<-eD];exact (h5 i IA e1).1,fun j a hj=>?_⟩
  obtain⟨a0,e3,e4⟩:=jA j a hj
  obtain⟨x,hx,dC⟩:=(h5 i IA e1).2 j a0 e3
  exact⟨x,hx,e4.rep hN dC⟩
theorem Canon.st (hC:Canon B N m α S l ds so) (hS:St w0 A g S w):St w0 A (g.dw B N (bh m)) (bu so N) w :=
 St.dw (S':=bu so N) hS (Nat.le_of_ble_eq_true hC.bn) (fun j o h=>by
   rcases hC.P5.mem _ (gP h) with ⟨bf,h0,hc⟩|hv
   case inr=>exact .inr (Nat.le_of_ble_eq_true hv)
   exact .inl ⟨bf,h0,fun b cp hr=>hc.rep (Nat.le_of_ble_eq_true hC.bn) hr,fun J hJ=>by subst hJ;cases hc;rfl⟩)
  (fun i j o p hi hj e=>jk.inj hC.P6 i j (List.mem_map.2 ⟨_,gP hi,rfl⟩) (List.mem_map.2 ⟨_,gP hj,rfl⟩) e)
theorem tx (hN:B<=N) (hA:aX g w n α a):∀ {l:List (Nat × AV)},rB B m N α.tm l->(∀ t,t < n->ao (g.dw B N (bh m)) w (fN (fun _=>.u) l t) (a.tmps.getD t undef))/\∀ t,n<=t->fN (fun _=>.u) l t=.u
 |[],_=>⟨fun _ _=>.u,fun _ _=>rfl⟩
 |(s,b)::l,h=>by
  obtain⟨h1,h2⟩:=tx hN hA h.2
  have hs:l0 B m N α.tm s b:=h.1
  refine⟨fun t ht=>?_,fun t ht=>?_⟩
  ·show ao _ w (a6 (fN (fun _=>.u) l) s b t) _
   by_cases e:t=s
   ·subst e
    rw [ah]
    have hr:=hA.tm t ht
    cases hs with
    |aV e hk=>rw [e] at hr;exact hr.dw hN hk
    |@new j sz off len cx e hj =>
     rw [e] at hr
     exact eg.rep hN (.new rfl hj) hr
    |@nk j sz len e hj=>rw [e] at hr;exact eg.rep hN (.nk rfl hj) hr
    |@im j sz e=>rw [e] at hr;exact eg.rep hN .im hr
    |@nm j sz i q e hj=>rw [e] at hr;exact eg.rep hN (.nm rfl hj) hr
    |@nn j e hj=>rw [e] at hr;exact eg.rep hN (.nn rfl hj) hr
   ·rw [aw _ _ e];exact h1 t ht
  ·show a6 (fN (fun _=>.u) l) s b t=.u
   by_cases e:t=s
   ·subst e
    rw [ah]
    have hr:=hA.out t ht
    cases hs with
    |aV e hk=>exact e.symm.trans hr
    |new e hj=>rw [hr] at e;cases e
    |nk e hj=>rw [hr] at e;cases e
    |im e=>rw [hr] at e;cases e
    |nm e hj=>rw [hr] at e;cases e
    |nn e hj=>rw [hr] at e;cases e
   ·rw [aw _ _ e];exact h2 t ht
theorem Canon.DH (hC:Canon B N m α S l ds so) (hA:aX g w n α a):aX (g.dw B N (bh m)) w n (eh l ds) a:=by
 have hN:=Nat.le_of_ble_eq_true hC.bn
 obtain⟨h1,h2⟩:=tx hN hA hC.Lb
 have hd:=hC.dl
 rw [List.all_eq_true] at hd
 refine⟨hA.size,h1,h2,?_,fun k hk=>?_⟩
 ·rw [hA.df,hC.df]
  refine List.map_congr_left fun k hk=>?_
  show _=({ target:=.collected (g.ob (b9 B (bh m) k)),args:=#[] }:Deferred)
  rw [ft (dI (hd k hk))]
 ·have:=dI (hd k hk)
  refine⟨by omega,?_⟩
  rw [ft this]
  exact hA.nU k (by rw [hC.df];exact hk)
def lC (P:Program) (w0:World) (rd:Bool) (n B:Nat) (c:Code) (α:AA) (S:U) (ex:Exit) (af:AA) (S':U):Prop :=
 ∀ (F:Fence) (m:Nat) (A:Nat->Prop) (g gs:Gh) (a:Act) (w ws:World),fM F->F.round.isSome=rd->St w0 A g S w->aX g w n α a->Ext A gs ws g w->(∀ k,gs.al k->k < B)->∀ (b:Frame) (k:List Item) (cs:List Frame),b.roundOf=F.round->F.fn b.fn->F.room (cs.length+1+m) ->
  ∃ e a' w',iD w0 n A gs ws ex af S' e a' w'/\ArrivesIn (Machine.fenced P F) P (lone (b.atR a (.code c::.inLoop c::k)) cs w) b k cs e a' w'
section
variable {c:Code}{bD af:AA}{bQ:U}{ex:Exit}
theorem lC.step (h:bA P w0 rd n c α S .normal bD bQ) (hC:Canon B N m bD bQ l ds so) (k:lC P w0 rd n B c (eh l ds) (bu so N) ex af S'):lC P w0 rd n B c α S ex af S':=by
 intro F mm A g gs a w ws hF hR hS hA hE hB b q cs jB hb hr
 obtain⟨e,fu,eE,hq,ij⟩:=h F mm A g a w hF hR hS hA b (.inLoop c::q) cs jB hb hr
 obtain⟨rfl,qB,rD,rE,Lc⟩:=hq
 obtain⟨DI,DJ,DK,yz,sv⟩:=k F mm A _ gs fu eE ws hF hR (hC.st rD) (hC.DH rE) ((hE.trans Lc).dw (Nat.le_of_ble_eq_true hC.bn) hB) hB b q cs jB hb hr
 exact⟨DI,DJ,DK,yz,.of_steps (StepsIn.trans ij (.one (fenced_calm hb hr rfl) stepR_inLoop)) sv⟩
theorem lC.done (h:bA P w0 rd n c α S ex af S') (he:ex ≠ .normal):lC P w0 rd n B c α S ex af S':=by
 intro F mm A g gs a w ws hF hR hS hA hE hB b q cs jB hb hr
 obtain⟨e,fu,eE,hq,ij⟩:=h F mm A g a w hF hR hS hA b (.inLoop c::q) cs jB hb hr
 obtain⟨rfl,hq⟩:=hq
 exact⟨e,fu,eE,iD.ext hE ⟨rfl,hq⟩,.pass (x:=.inLoop c) rfl (fun _ _=>.inl he) ij⟩
theorem lC.start (hn:Nat.ble S.nx B=true) (hC:Canon B N m α S l ds so) (k:lC P w0 rd n B c (eh l ds) (bu so N) ex af S'):my P w0 rd n c α S ex af S':=by
 intro F mm A g a w hF hR hS hA b q cs jB hb hr
 have hB:∀ k,g.al k->k < B:=fun k hk=>Nat.lt_of_lt_of_le (hS.al k hk) (Nat.le_of_ble_eq_true hn)
 exact k F mm A _ g a w w hF hR (hC.st hS) (hC.DH hA) ((Ext.refl A g w).dw (Nat.le_of_ble_eq_true hC.bn) hB) hB b q cs jB hb hr
end
def Cn {σ:Type}(P:Program) (w0:World) (rd:Bool) (n B N:Nat) (st:σ->List (Nat × AV)) (ds:List Nat) (so:σ->List (Nat × Ob)) (I:σ->Prop) (μ:σ->Nat) (Q:Exit->AA->U->Prop) (K:List ji) (k:Nat):Exit->AA->U->Prop :=
 fun ex α S=>match ex with|.normal=>∃ s m,I s/\μ s < k/\Canon B N m α S (st s) ds (so s)|e=>ab P w0 rd n Q (.out e K) α S
variable {Q:Exit->AA->U->Prop}{K:List ji}
theorem ab.cO {σ:Type}(B N:Nat) (m:List (Nat × Nat)) (st:σ->List (Nat × AV)) (ds:List Nat) (so:σ->List (Nat × Ob)) (I:σ->Prop) (μ:σ->Nat) (s0:σ) {c:QC}(h0:I s0) (hn:Nat.ble S.nx B=true) (hC:Canon B N m α S (st s0) ds (so s0))
  (h:∀ s,I s->ab P w0 rd n (Cn P w0 rd n B N st ds so I μ Q K (μ s)) (.run c []) (eh (st s) ds) (bu (so s) N)):ab P w0 rd n Q (.run (.loop c) K) α S:=by
 intro c0 hc hd
 obtain⟨c1,rfl,h1⟩:=Ck hc
 have key:∀ (k:Nat) (s:σ),I s->μ s=k->∃ ex af S',lC P w0 rd n B c1 (eh (st s) ds) (bu (so s) N) ex af S'/\gC P w0 rd n Q K ex af S':=by
  intro k
  induction k using Nat.strongRecOn with
  |_ k ih =>
   intro s hI hk
   obtain⟨ex,bD,bQ,h3,h4⟩:Wp P w0 rd n c1 (Cn P w0 rd n B N st ds so I μ Q K (μ s)) (eh (st s) ds) (bu (so s) N):=h s hI c1 h1 hd
   cases ex with
   |normal =>
    obtain⟨s',m',Sj,au,Sk⟩:=h4
    obtain⟨ex,af,S',h5,h6⟩:=ih (μ s') (by omega) s' Sj rfl
    exact⟨ex,af,S',lC.step h3 Sk h5,h6⟩
   |_=>exact⟨_,bD,bQ,lC.done h3 (by simp),h4⟩
 obtain⟨ex,af,S',h2,h3⟩:=key _ s0 h0 rfl
 exact⟨ex,af,S',bA.loop (lC.start hn hC h2),h3⟩
theorem ab.cK {σ:Type}{st:σ->List (Nat × AV)}{so:σ->List (Nat × Ob)}{I:σ->Prop}{μ:σ->Nat}{k:Nat}(s:σ) (m:List (Nat × Nat)) (hI:I s) (hk:μ s < k) (hC:Canon B N m α S (st s) ds (so s)) :
  ab P w0 rd n (Cn P w0 rd n B N st ds so I μ Q K k) (.out .normal []) α S:=⟨s,m,hI,hk,hC⟩
theorem ab.aK {σ:Type}{st:σ->List (Nat × AV)}{so:σ->List (Nat × Ob)}{I:σ->Prop}{μ:σ->Nat}{k id:Nat}(h:ab P w0 rd n Q (.out (.exit id) K) α S):ab P w0 rd n (Cn P w0 rd n B N st ds so I μ Q K k) (.out (.exit id) []) α S:=h
theorem ab.de {σ:Type}{st:σ->List (Nat × AV)}{so:σ->List (Nat × Ob)}{I:σ->Prop}{μ:σ->Nat}{k:Nat}(h:ab P w0 rd n Q (.out .ret K) α S):ab P w0 rd n (Cn P w0 rd n B N st ds so I μ Q K k) (.out .ret []) α S:=h
end
end Go.Proofs.YtbofilglphfceaaGreat
