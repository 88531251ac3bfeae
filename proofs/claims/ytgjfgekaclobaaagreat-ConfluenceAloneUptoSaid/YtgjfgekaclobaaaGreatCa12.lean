import Derived.Test.YtgjfgekaclobaaaGreatCa11
namespace Go.Proofs.YtgjfgekaclobaaaGreat
set_option linter.unusedVariables false
set_option linter.unusedSimpArgs false
open Go.RowKit
inductive dg (B:Nat):AV->Prop where
 |u:dg B .u
 |v {x:Value}:dg B (.v x)
 |agg {l:List AV}(h:∀ a ∈ l,dg B a):dg B (.agg l)
 |aE {l:List AV}(h:∀ a ∈ l,dg B a):dg B (.aE l)
 |sl {ex:Bool}{rows:List (List AV)}(h:∀ row ∈ rows,∀ a ∈ row,dg B a):dg B (.sl ex rows)
 |ip {cs:List AV}(h:∀ a ∈ cs,dg B a):dg B (.ip cs)
 |ob {k sz off len:Nat}{cx:Option Nat}(h:k < B):dg B (.ob k sz off len cx)
 |pt {k sz i j:Nat}(h:k < B):dg B (.pt k sz i j)
 |mp {k:Nat}(h:k < B):dg B (.mp k)
 |yl {k:Nat}(h:k < B):dg B (.yl k)
 |gr {k sz len:Nat}(h:k < B):dg B (.gr k sz len)
 |fn {f:Fn}{l m:List AV}(h3:∀ a ∈ l,dg B a) (h4:∀ a ∈ m,dg B a):dg B (.fn f l m)
theorem Pure.b9 {B:Nat}{a:AV}(h:Pure a):dg B a:=by
 induction h with
 |v=>exact .v
 |agg _ ih=>exact .agg ih
 |aE _ ih=>exact .aE ih
 |sl _ ih=>exact .sl ih
 |ip _ ih=>exact .ip ih
 |fn _ _ N6 Fj=>exact .fn N6 Fj
theorem aH.b9 {g g':Gh}{w:World}{B:Nat}(aO:∀ k,k < B->g.al k->g'.al k) (iI:∀ k,k < B->g'.ob k=g.ob k) (eS:∀ k,k < B->g'.cp k=g.cp k) (hf:∀ b o,g.fz b o->g'.fz b o) {a:AV}{x:Value}(h:aH g w a x) (hp:dg B a) :
  aH g' w a x:=by
 induction h with
 |u=>exact .u
 |v=>exact .v
 |agg hs h ih=>cases hp with|agg hp=>exact .agg hs fun i a x h1 h2=>ih i a x h1 h2 (hp _ (List.mem_of_getElem? h1))
 |aE hs h ih=>cases hp with|aE hp=>exact .aE hs fun i a x h1 h2=>ih i a x h1 h2 (hp _ (List.mem_of_getElem? h1))
 |nil hc=>exact .nil hc
 |sl hn oc hle hl h hr ih =>
  cases hp with
  |sl hp =>
   exact .sl hn oc hle hl (fun i j row a h1 h2=>⟨hf _ _ (h i j row a h1 h2).1,(h i j row a h1 h2).2⟩)
    (fun i j row a h1 h2=>ih i j row a h1 h2 (hp _ (List.mem_of_getElem? h1) _ (List.mem_of_getElem? h2)))
 |ip h hr ih =>
  cases hp with
  |ip hp=>exact .ip (fun j a h1=>⟨hf _ _ (h j a h1).1,(h j a h1).2⟩) (fun j a h1=>ih j a h1 (hp _ (List.mem_of_getElem? h1)))
 |ob hk hc h1 hx hle=>cases hp with|ob hp=>rw [<-iI _ hp];exact .ob (aO _ hp hk) hc (by rw [eS _ hp];exact h1) (by rw [eS _ hp];exact hx) hle
 |pt hk=>cases hp with|pt hp=>rw [<-iI _ hp];exact .pt (aO _ hp hk)
 |mp hk=>cases hp with|mp hp=>rw [<-iI _ hp];exact .mp (aO _ hp hk)
 |yl hk=>cases hp with|yl hp=>rw [<-iI _ hp];exact .yl (aO _ hp hk)
 |ja=>exact .ja
 |gr hk hx hle=>cases hp with|gr hp=>rw [<-iI _ hp];exact .gr (aO _ hp hk) (by rw [eS _ hp];exact hx) hle
 |fn h1 h2 h3 h4 NT NU =>
  cases hp with
  |fn hp hq=>exact .fn h1 h2 (fun i a x h1 h2=>NT i a x h1 h2 (hp _ (List.mem_of_getElem? h1))) (fun i a x h1 h2=>NU i a x h1 h2 (hq _ (List.mem_of_getElem? h1)))
def fV (B:Nat):Ob->Prop
 |.arr _ rows _ _=>∀ row ∈ rows,∀ a ∈ row,dg B a
 |.mp es=>∀ e ∈ es,dg B e.2
 |.mb es=>∀ e ∈ es,dg B e.2
 |.lp _ _ tm _ _ _=>∀ t,dg B (tm t)
 |.df=>True
 |.si _ _=>True
 |.fo _=>True
 |.un=>True
def du (B:Nat) (f:Nat->Nat) (j:Nat):Nat:=match Nat.blt j B with|true=>j|false=>f j
theorem kc {B j:Nat}{f:Nat->Nat}(h:j < B):du B f j=j:=by
 have:Nat.blt j B=true:=Nat.ble_eq_true_of_le h
 simp only [du,this]
def Gh.fI (g:Gh) (B N:Nat) (f:Nat->Nat):Gh:=⟨fun j=>g.ob (du B f j),fun j=>g.cp (du B f j),fun j=>j < N/\g.al (du B f j),g.fz,g.fo⟩
section
variable {w0:World}{A:Nat->Prop}{g gs:Gh}{S S':ad}{w ws:World}{B:Nat}{f:Nat->Nat}
theorem aH.fI {a:AV}{x:Value}{N:Nat}(hN:B<=N) (h:aH g w a x) (hp:dg B a):aH (g.fI B N f) w a x:=by
 refine aH.b9 (g:=g) (g':=g.fI B N f) (B:=B) (fun k hk ha=>(⟨by omega,by rw [kc hk];exact ha⟩:k < N/\g.al (du B f k))) (fun k hk=>?_) (fun k hk=>?_) (fun b o h=>h) h hp
 ·show g.ob (du B f k)=g.ob k
  rw [kc hk]
 ·show g.cp (du B f k)=g.cp k
  rw [kc hk]
theorem dA.fI {b cp N:Nat}{o:Ob}(hN:B<=N) (h:dA g w b cp o) (hk:fV B o):dA (g.fI B N f) w b cp o:=by
 cases o with
 |arr sz rows fz ex =>
  obtain⟨cs,ty,h1,h2,h3,h4,h5,h6,h7⟩:=h
  refine⟨cs,ty,h1,h2,h3,h4,fun i row hr=>⟨(h5 i row hr).1,fun j a ha=>?_⟩,h6,h7⟩
  obtain⟨x,hx,dH⟩:=(h5 i row hr).2 j a ha
  exact⟨x,hx,dH.fI hN (hk _ (List.mem_of_getElem? hr) _ (List.mem_of_getElem? ha))⟩
 |mp es =>
  obtain⟨entries,clock,h1,h2,h3⟩:=h
  refine⟨entries,clock,h1,h2,fun i k a ha=>?_⟩
  obtain⟨e,he,fy,hr⟩:=h3 i k a ha
  exact⟨e,he,fy,hr.fI hN (hk _ (List.mem_of_getElem? ha))⟩
 |mb es =>
  obtain⟨entries,h1,h2,h3,h4⟩:=h
  refine⟨entries,h1,h2,fun i k a ha=>?_,h4⟩
  obtain⟨e,he,fy,hr⟩:=h3 i k a ha
  exact⟨e,he,fy,hr.fI hN (hk _ (List.mem_of_getElem? ha))⟩
 |lp st lU tm ps assign body =>
  obtain⟨L,h1,h2,h3,h4,h5,h6,h7,h8⟩:=h
  exact⟨L,h1,h2,h3,h4,h5,h6,fun t ht=>(h7 t ht).fI hN (hk t),h8⟩
 |df=>exact h
 |si s pos=>exact h
 |fo J=>exact h
 |un=>exact h.elim
theorem St.fI (hS:St w0 A g S w) (hN:B<=S'.nx) (eD:∀ j o,S'.get j=some o->(∃ bW,S.get (du B f j)=some bW/\(∀ b cp,dA g w b cp bW->dA (g.fI B S'.nx f) w b cp o)/\∀ J,o=.fo J->bW=.fo J)\/S.nx<=du B f j)
  (l4:∀ i j o p,S'.get i=some o->S'.get j=some p->du B f i=du B f j->i=j):St w0 A (g.fI B S'.nx f) S' w:=by
 have hs:∀ j o,S'.get j=some o->(g.fI B S'.nx f).al j->∃ bW,S.get (du B f j)=some bW/\(∀ b cp,dA g w b cp bW->dA (g.fI B S'.nx f) w b cp o)/\∀ J,o=.fo J->bW=.fo J:=fun j o hj ha=>(eD j o hj).resolve_right fun h=>absurd (hS.al _ ha.2) (by omega)
 refine⟨hS.base,hS.up,hS.lo,fun k hk=>hk.1,fun k o hk ha=>?_,fun i j o p hi hj ai aj e=>?_,hS.cC,hS.nS,fun k J hk ha=>?_,fun k J j o hk ha hj aj a_=>?_,fun j k J J' hj hk aj ak=>?_⟩
 ·obtain⟨bW,h0,ht,_⟩:=hs k o hk ha
  obtain⟨h1,h2,h3⟩:=hS.bR _ bW h0 ha.2
  exact⟨h1,h2,ht _ _ h3⟩
 ·obtain⟨bW,h0,_⟩:=hs i o hi ai
  obtain⟨uX,h1,_⟩:=hs j p hj aj
  exact l4 i j o p hi hj (hS.inj _ _ bW uX h0 h1 ai.2 aj.2 e)
 ·obtain⟨bW,h0,_,h1⟩:=hs k _ hk ha
  exact hS.ic _ J (by rw [<-h1 J rfl];exact h0) ha.2
 ·obtain⟨bW,h0,_,h1⟩:=hs k _ hk ha
  obtain⟨uX,h2,_⟩:=hs j _ hj aj
  exact hS.jW _ J _ uX (by rw [<-h1 J rfl];exact h0) ha.2 h2 aj.2 (fun e=>a_ (l4 j k o _ hj hk e))
 ·obtain⟨bW,h0,_,h1⟩:=hs j _ hj aj
  obtain⟨uX,h2,_,h3⟩:=hs k _ hk ak
  exact l4 j k _ _ hj hk (hS.lV _ _ J J' (by rw [<-h1 J rfl];exact h0) (by rw [<-h3 J' rfl];exact h2) aj.2 ak.2)
theorem Ext.fI {N:Nat}(hE:Ext A gs ws g w) (hN:B<=N) (hB:∀ k,gs.al k->k < B):Ext A gs ws (g.fI B N f) w :=
 { al:=fun k hk=>⟨by have:=hB k hk;omega,by rw [kc (hB k hk)];exact hE.al k hk⟩
   ob:=fun k hk=>by show g.ob (du B f k)=gs.ob k;rw [kc (hB k hk)];exact hE.ob k hk
   cp:=fun k hk=>by show g.cp (du B f k)=gs.cp k;rw [kc (hB k hk)];exact hE.cp k hk
   fz:=hE.fz
   cell:=hE.cell
   size:=hE.size
   a7:=hE.a7
   gF:=hE.gF }
end
def aN:List (Nat × Nat)->Nat->Nat
 |[],j=>j
 |p::m,j=>match Nat.beq p.1 j with|true=>p.2|false=>aN m j
def dF:List (Nat × Ob)->Nat->Option Ob
 |[],_=>none
 |p::l,j=>match Nat.beq p.1 j with|true=>some p.2|false=>dF l j
theorem eO:∀ {l:List (Nat × Ob)}{j:Nat}{o:Ob},dF l j=some o->(j,o) ∈ l
 |[],j,o,h=>by cases h
 |(a,b)::l,j,o,h=>by
  simp only [dF] at h
  split at h
  ·rename_i e
   obtain rfl:=Nat.eq_of_beq_eq_true e
   obtain rfl:=oJ_ h
   simp
  ·exact List.mem_cons_of_mem _ (eO h)
inductive sD (B:Nat) (m:List (Nat × Nat)) (N:Nat) (f:Nat->AV):Nat->AV->Prop where
 |aB {t:Nat}{a:AV}(h:f t=a) (hk:dg B a):sD B m N f t a
 |new {t j sz off len:Nat}{cx:Option Nat}(h:f t=.ob (du B (aN m) j) sz off len cx) (hj:Nat.blt j N=true):sD B m N f t (.ob j sz off len cx)
 |jc {t j sz len:Nat}(h:f t=.gr (du B (aN m) j) sz len) (hj:Nat.blt j N=true):sD B m N f t (.gr j sz len)
 |ja {t j sz:Nat}(h:f t=.sl true []):sD B m N f t (.gr j sz 0)
 |l5 {t j sz i q:Nat}(h:f t=.pt (du B (aN m) j) sz i q) (hj:Nat.blt j N=true):sD B m N f t (.pt j sz i q)
 |o7 {t j:Nat}(h:f t=.mp (du B (aN m) j)) (hj:Nat.blt j N=true):sD B m N f t (.mp j)
def A4 (B:Nat) (m:List (Nat × Nat)) (N:Nat) (f:Nat->AV):List (Nat × AV)->Prop
 |[]=>True
 |p::l=>sD B m N f p.1 p.2/\A4 B m N f l
inductive il (B:Nat) (m:List (Nat × Nat)) (N:Nat):AV->AV->Prop where
 |aB {a:AV}(hk:dg B a):il B m N a a
 |new {j k sz off len:Nat}{cx:Option Nat}(h:k=du B (aN m) j) (hj:Nat.blt j N=true):il B m N (.ob k sz off len cx) (.ob j sz off len cx)
 |jc {j k sz len:Nat}(h:k=du B (aN m) j) (hj:Nat.blt j N=true):il B m N (.gr k sz len) (.gr j sz len)
 |ja {j sz:Nat}:il B m N (.sl true []) (.gr j sz 0)
 |l5 {j k sz i q:Nat}(h:k=du B (aN m) j) (hj:Nat.blt j N=true):il B m N (.pt k sz i q) (.pt j sz i q)
 |o7 {j k:Nat}(h:k=du B (aN m) j) (hj:Nat.blt j N=true):il B m N (.mp k) (.mp j)
def tQ (B:Nat) (m:List (Nat × Nat)) (N:Nat):List AV->List AV->Prop
 |[],[]=>True
 |a::l,b::l'=>il B m N a b/\tQ B m N l l'
 |_,_=>False
def A5 (B:Nat) (m:List (Nat × Nat)) (N:Nat):List (List AV)->List (List AV)->Prop
 |[],[]=>True
 |a::l,b::l'=>tQ B m N a b/\A5 B m N l l'
 |_,_=>False
theorem tQ.at {B N:Nat}{m:List (Nat × Nat)}:∀ {l l':List AV},tQ B m N l l'->l.length=l'.length/\∀ (i:Nat) (b:AV),l'[i]?=some b->∃ a,l[i]?=some a/\il B m N a b
 |[],[],_=>⟨rfl,fun i b h=>by simp at h⟩
 |a::l,b::l',hc=>⟨by simp [hc.2.at.1],fun i c h=>by
  cases i with
  |zero=>simp at h;subst h;exact⟨a,rfl,hc.1⟩
  |succ i=>simp at h;obtain⟨d,h1,h2⟩:=hc.2.at.2 i c h;exact⟨d,by simpa using h1,h2⟩⟩
 |[],_::_,h=>h.elim
 |_::_,[],h=>h.elim
theorem A5.at {B N:Nat}{m:List (Nat × Nat)}:∀ {l l':List (List AV)},A5 B m N l l'->l.length=l'.length/\∀ (i:Nat) (b:List AV),l'[i]?=some b->∃ a,l[i]?=some a/\tQ B m N a b
 |[],[],_=>⟨rfl,fun i b h=>by simp at h⟩
 |a::l,b::l',hc=>⟨by simp [hc.2.at.1],fun i c h=>by
  cases i with
  |zero=>simp at h;subst h;exact⟨a,rfl,hc.1⟩
  |succ i=>simp at h;obtain⟨d,h1,h2⟩:=hc.2.at.2 i c h;exact⟨d,by simpa using h1,h2⟩⟩
 |[],_::_,h=>h.elim
 |_::_,[],h=>h.elim
inductive wH (B:Nat) (m:List (Nat × Nat)) (N:Nat):Ob->Ob->Prop where
 |same {o:Ob}(hk:fV B o):wH B m N o o
 |arr {sz fz:Nat}{rows cJ:List (List AV)}{ex:Bool}(h:A5 B m N rows cJ):wH B m N (.arr sz rows fz ex) (.arr sz cJ fz ex)
def gj (B:Nat) (m:List (Nat × Nat)) (N:Nat) (S:ad):List (Nat × Ob)->Prop
 |[]=>True
 |p::l=>((∃ bW,S.get (du B (aN m) p.1)=some bW/\wH B m N bW p.2)\/Nat.ble S.nx (du B (aN m) p.1)=true)/\gj B m N S l
theorem gj.mem {B N:Nat}{m:List (Nat × Nat)}{S:ad}:∀ {l:List (Nat × Ob)},gj B m N S l->∀ p ∈ l,(∃ bW,S.get (du B (aN m) p.1)=some bW/\wH B m N bW p.2)\/Nat.ble S.nx (du B (aN m) p.1)=true
 |[],_,p,h=>by cases h
 |q::l,hc,p,h=>by
  rcases List.mem_cons.1 h with rfl|h
  ·exact hc.1
  ·exact hc.2.mem p h
def nz (B:Nat) (m:List (Nat × Nat)):List Nat->Bool
 |[]=>true
 |j::l=>l.all (fun i=>!Nat.beq (du B (aN m) i) (du B (aN m) j)) && nz B m l
theorem nz.inj {B:Nat}{m:List (Nat × Nat)}:∀ {l:List Nat},nz B m l=true->∀ i j,i ∈ l->j ∈ l->du B (aN m) i=du B (aN m) j->i=j
 |[],_,i,j,h,_,_=>by cases h
 |a::l,hd,i,j,hi,hj,e=>by
  simp only [nz,Bool.and_eq_true,List.all_eq_true,Bool.not_eq_true'] at hd
  have ne:∀ x ∈ l,du B (aN m) x ≠ du B (aN m) a:=fun x hx h=>by
   have:=hd.1 x hx
   rw [h,Nat.beq_refl] at this
   cases this
  by_cases h1:i=a
  ·by_cases h2:j=a
   ·rw [h1,h2]
   ·subst h1;exact absurd e.symm (ne _ ((List.mem_cons.1 hj).resolve_left h2))
  ·by_cases h2:j=a
   ·subst h2;exact absurd e (ne _ ((List.mem_cons.1 hi).resolve_left h1))
   ·exact nz.inj hd.2 i j ((List.mem_cons.1 hi).resolve_left h1) ((List.mem_cons.1 hj).resolve_left h2) e
def ez (l:List (Nat × AV)) (ds:List DE):AA:=⟨j6 (fun _=>.u) l,ds⟩
def au (l:List (Nat × Ob)) (N:Nat):ad:=⟨dF l,N⟩
structure Canon (B N:Nat) (m:List (Nat × Nat)) (α:AA) (S:ad) (l:List (Nat × AV)) (ds:List DE) (so:List (Nat × Ob)):Prop where
 acZ:A4 B m N α.tm l
 df:α.df=ds
 ajB:gj B m N S so
 ajC:nz B m (so.map (·.1))=true
 bn:Nat.ble B N=true
 dl:ds.all (fun d=>Nat.blt d.k B)=true
section
variable {P:Program}{w0:World}{rd:Bool}{n:Nat}{A:Nat->Prop}{g gs:Gh}{S S':ad}{w ws:World}{B N:Nat}{m:List (Nat × Nat)}{α:AA}{l:List (Nat × AV)}{ds:List DE}{so:List (Nat × Ob)}{a:Act}
theorem dC {i j:Nat}(h:Nat.blt i j=true):i < j:=Nat.le_of_ble_eq_true h
theorem il.rep {a b:AV}{x:Value}(hN:B<=N) (h:il B m N a b) (hr:aH g w a x):aH (g.fI B N (aN m)) w b x:=by
 cases h with
 |aB hk=>exact hr.fI hN hk
 |@new j k sz off len cx e hj =>
  subst e
  cases hr with
  |ob hk hc hp hx hle=>exact .ob (g:=g.fI B N (aN m)) (k:=j) ⟨Nat.le_of_ble_eq_true hj,hk⟩ hc hp hx hle
 |@jc j k sz len e hj =>
  subst e
  cases hr with
  |ja=>exact .ja
  |gr hk hx hle=>exact .gr (g:=g.fI B N (aN m)) (k:=j) ⟨Nat.le_of_ble_eq_true hj,hk⟩ hx hle
 |ja =>
  cases hr with
  |nil hc=>rw [hc rfl];exact .ja
  |sl hn=>exact absurd rfl hn
 |@l5 j k sz i q e hj =>
  subst e
  cases hr with
  |pt hk=>exact .pt (g:=g.fI B N (aN m)) (k:=j) ⟨Nat.le_of_ble_eq_true hj,hk⟩
 |@o7 j k e hj =>
  subst e
  cases hr with
  |mp hk=>exact .mp (g:=g.fI B N (aN m)) (k:=j) ⟨Nat.le_of_ble_eq_true hj,hk⟩
theorem wH.rep {o o':Ob}{b cp:Nat}(hN:B<=N) (h:wH B m N o o') (hr:dA g w b cp o):dA (g.fI B N (aN m)) w b cp o':=by
 cases h with
 |same hk=>exact hr.fI hN hk
 |@arr sz fz rows cJ ex hc =>
  obtain⟨hl,ha⟩:=hc.at
  obtain⟨cs,ty,h1,h2,h3,h4,h5,h6,h7⟩:=hr
  refine⟨cs,ty,h1,h2,by rw [<-hl];exact h3,fun he=>by rw [<-hl];exact h4 he,fun i row hr=>?_,by rw [<-hl];exact h6,h7⟩
  obtain⟨Y0,e1,e2⟩:=ha i row hr
  obtain⟨mO,kD⟩:=e2.at
  refine⟨by rw [<-mO];exact (h5 i Y0 e1).1,fun j a hj=>?_⟩
  obtain⟨a0,e3,e4⟩:=kD j a hj
  obtain⟨x,hx,dH⟩:=(h5 i Y0 e1).2 j a0 e3
  exact⟨x,hx,e4.rep hN dH⟩
theorem Canon.st (hC:Canon B N m α S l ds so) (hS:St w0 A g S w):St w0 A (g.fI B N (aN m)) (au so N) w :=
 St.fI (S':=au so N) hS (Nat.le_of_ble_eq_true hC.bn) (fun j o h=>by
   rcases hC.ajB.mem _ (eO h) with ⟨bW,h0,hc⟩|hv
   case inr=>exact .inr (Nat.le_of_ble_eq_true hv)
   exact .inl ⟨bW,h0,fun b cp hr=>hc.rep (Nat.le_of_ble_eq_true hC.bn) hr,fun J hJ=>by subst hJ;cases hc;rfl⟩)
  (fun i j o p hi hj e=>nz.inj hC.ajC i j (List.mem_map.2 ⟨_,eO hi,rfl⟩) (List.mem_map.2 ⟨_,eO hj,rfl⟩) e)
theorem DC (hN:B<=N) (hA:bN g w n α a):∀ {l:List (Nat × AV)},A4 B m N α.tm l->(∀ t,t < n->aH (g.fI B N (aN m)) w (j6 (fun _=>.u) l t) (a.tmps.getD t undef))/\∀ t,n<=t->j6 (fun _=>.u) l t=.u
 |[],_=>⟨fun _ _=>.u,fun _ _=>rfl⟩
 |(s,b)::l,h=>by
  obtain⟨h1,h2⟩:=DC hN hA h.2
  have hs:sD B m N α.tm s b:=h.1
  refine⟨fun t ht=>?_,fun t ht=>?_⟩
  ·show aH _ w (a8 (j6 (fun _=>.u) l) s b t) _
   by_cases e:t=s
   ·subst e
    rw [aq]
    have hr:=hA.tm t ht
    cases hs with
    |aB e hk=>rw [e] at hr;exact hr.fI hN hk
    |@new j sz off len cx e hj =>
     rw [e] at hr
     exact il.rep hN (.new rfl hj) hr
    |@jc j sz len e hj=>rw [e] at hr;exact il.rep hN (.jc rfl hj) hr
    |@ja j sz e=>rw [e] at hr;exact il.rep hN .ja hr
    |@l5 j sz i q e hj=>rw [e] at hr;exact il.rep hN (.l5 rfl hj) hr
    |@o7 j e hj=>rw [e] at hr;exact il.rep hN (.o7 rfl hj) hr
   ·rw [aC _ _ e];exact h1 t ht
  ·show a8 (j6 (fun _=>.u) l) s b t=.u
   by_cases e:t=s
   ·subst e
    rw [aq]
    have hr:=hA.out t ht
    cases hs with
    |aB e hk=>exact e.symm.trans hr
    |new e hj=>rw [hr] at e;cases e
    |jc e hj=>rw [hr] at e;cases e
    |ja e=>rw [hr] at e;cases e
    |l5 e hj=>rw [hr] at e;cases e
    |o7 e hj=>rw [hr] at e;cases e
   ·rw [aC _ _ e];exact h2 t ht
theorem Canon.JL (hC:Canon B N m α S l ds so) (hA:bN g w n α a):bN (g.fI B N (aN m)) w n (ez l ds) a:=by
 have hN:=Nat.le_of_ble_eq_true hC.bn
 obtain⟨h1,h2⟩:=DC hN hA hC.acZ
 have hd:=hC.dl
 rw [List.all_eq_true] at hd
 refine⟨hA.size,h1,h2,?_,fun k hk=>?_⟩
 ·rw [hA.df,hC.df]
  refine List.map_congr_left fun k hk=>?_
  refine (wI ?_).symm
  show g.ob (du B (aN m) k.k)=_
  rw [kc (dC (hd k hk))]
 ·have:=dC (hd k hk)
  refine⟨by omega,?_⟩
  rw [kc this]
  exact hA.rI k (by rw [hC.df];exact hk)
def rJ (P:Program) (w0:World) (rd:Bool) (n B:Nat) (c:Code) (α:AA) (S:ad) (ex:Exit) (aw:AA) (S':ad):Prop :=
 ∀ (F:Fence) (m:Nat) (A:Nat->Prop) (g gs:Gh) (a:Act) (w ws:World),gU F->F.round.isSome=rd->St w0 A g S w->bN g w n α a->Ext A gs ws g w->(∀ k,gs.al k->k < B)->∀ (b:Frame) (k:List Item) (cs:List Frame),b.roundOf=F.round->F.fn b.fn->F.room (cs.length+1+m) ->
  ∃ e a' w',mF w0 n A gs ws ex aw S' e a' w'/\ArrivesIn (Machine.fenced P F) P (lone (b.atR a (.code c::.inLoop c::k)) cs w) b k cs e a' w'
section
variable {c:Code}{bE aw:AA}{bT:ad}{ex:Exit}
theorem rJ.step (h:cu P w0 rd n c α S .normal bE bT) (hC:Canon B N m bE bT l ds so) (k:rJ P w0 rd n B c (ez l ds) (au so N) ex aw S'):rJ P w0 rd n B c α S ex aw S':=by
 intro F mm A g gs a w ws hF hR hS hA hE hB b q cs kY hb hr
 obtain⟨e,kf,jd,hq,kg⟩:=h F mm A g a w hF hR hS hA b (.inLoop c::q) cs kY hb hr
 obtain⟨rfl,zY,A6,A7,ac0⟩:=hq
 obtain⟨Qs,Qt,Qu,JM,Cp⟩:=k F mm A _ gs kf jd ws hF hR (hC.st A6) (hC.JL A7) ((hE.trans ac0).fI (Nat.le_of_ble_eq_true hC.bn) hB) hB b q cs kY hb hr
 exact⟨Qs,Qt,Qu,JM,.of_steps (StepsIn.trans kg (.one (fenced_calm hb hr rfl) stepR_inLoop)) Cp⟩
theorem rJ.done (h:cu P w0 rd n c α S ex aw S') (he:ex ≠ .normal):rJ P w0 rd n B c α S ex aw S':=by
 intro F mm A g gs a w ws hF hR hS hA hE hB b q cs kY hb hr
 obtain⟨e,kf,jd,hq,kg⟩:=h F mm A g a w hF hR hS hA b (.inLoop c::q) cs kY hb hr
 obtain⟨rfl,hq⟩:=hq
 exact⟨e,kf,jd,mF.ext hE ⟨rfl,hq⟩,.pass (x:=.inLoop c) rfl (fun _ _=>.inl he) kg⟩
theorem rJ.start (hn:Nat.ble S.nx B=true) (hC:Canon B N m α S l ds so) (k:rJ P w0 rd n B c (ez l ds) (au so N) ex aw S'):tu P w0 rd n c α S ex aw S':=by
 intro F mm A g a w hF hR hS hA b q cs kY hb hr
 have hB:∀ k,g.al k->k < B:=fun k hk=>Nat.lt_of_lt_of_le (hS.al k hk) (Nat.le_of_ble_eq_true hn)
 exact k F mm A _ g a w w hF hR (hC.st hS) (hC.JL hA) ((Ext.refl A g w).fI (Nat.le_of_ble_eq_true hC.bn) hB) hB b q cs kY hb hr
end
def Il {σ:Type}(P:Program) (w0:World) (rd:Bool) (n B N:Nat) (st:σ->List (Nat × AV)) (ds:List DE) (so:σ->List (Nat × Ob)) (I:σ->Prop) (μ:σ->Nat) (Q:Exit->AA->ad->Prop) (K:List fc) (k:Nat):Exit->AA->ad->Prop :=
 fun ex α S=>match ex with|.normal=>∃ s m,I s/\μ s < k/\Canon B N m α S (st s) ds (so s)|e=>aa P w0 rd n Q (.out e K) α S
variable {Q:Exit->AA->ad->Prop}{K:List fc}
theorem aa.bP {σ:Type}(B N:Nat) (m:List (Nat × Nat)) (st:σ->List (Nat × AV)) (ds:List DE) (so:σ->List (Nat × Ob)) (I:σ->Prop) (μ:σ->Nat) (s0:σ) {c:QC}(h0:I s0) (hn:Nat.ble S.nx B=true) (hC:Canon B N m α S (st s0) ds (so s0))
  (h:∀ s,I s->aa P w0 rd n (Il P w0 rd n B N st ds so I μ Q K (μ s)) (.run c []) (ez (st s) ds) (au (so s) N)):aa P w0 rd n Q (.run (.loop c) K) α S:=by
 intro c0 hc hd
 obtain⟨c1,rfl,h1⟩:=NY hc
 have key:∀ (k:Nat) (s:σ),I s->μ s=k->∃ ex aw S',rJ P w0 rd n B c1 (ez (st s) ds) (au (so s) N) ex aw S'/\db P w0 rd n Q K ex aw S':=by
  intro k
  induction k using Nat.strongRecOn with
  |_ k ih =>
   intro s hI hk
   obtain⟨ex,bE,bT,h3,h4⟩:Wp P w0 rd n c1 (Il P w0 rd n B N st ds so I μ Q K (μ s)) (ez (st s) ds) (au (so s) N):=h s hI c1 h1 hd
   cases ex with
   |normal =>
    obtain⟨s',m',hI',aA,hC'⟩:=h4
    obtain⟨ex,aw,S',h5,h6⟩:=ih (μ s') (by omega) s' hI' rfl
    exact⟨ex,aw,S',rJ.step h3 hC' h5,h6⟩
   |_=>exact⟨_,bE,bT,rJ.done h3 (by simp),h4⟩
 obtain⟨ex,aw,S',h2,h3⟩:=key _ s0 h0 rfl
 exact⟨ex,aw,S',cu.loop (rJ.start hn hC h2),h3⟩
theorem aa.bm {σ:Type}{st:σ->List (Nat × AV)}{so:σ->List (Nat × Ob)}{I:σ->Prop}{μ:σ->Nat}{k:Nat}(s:σ) (m:List (Nat × Nat)) (hI:I s) (hk:μ s < k) (hC:Canon B N m α S (st s) ds (so s)) :
  aa P w0 rd n (Il P w0 rd n B N st ds so I μ Q K k) (.out .normal []) α S:=⟨s,m,hI,hk,hC⟩
theorem aa.aR {σ:Type}{st:σ->List (Nat × AV)}{so:σ->List (Nat × Ob)}{I:σ->Prop}{μ:σ->Nat}{k id:Nat}(h:aa P w0 rd n Q (.out (.exit id) K) α S):aa P w0 rd n (Il P w0 rd n B N st ds so I μ Q K k) (.out (.exit id) []) α S:=h
theorem aa.iB {σ:Type}{st:σ->List (Nat × AV)}{so:σ->List (Nat × Ob)}{I:σ->Prop}{μ:σ->Nat}{k:Nat}(h:aa P w0 rd n Q (.out .ret K) α S):aa P w0 rd n (Il P w0 rd n B N st ds so I μ Q K k) (.out .ret []) α S:=h
end
section
variable {P:Program}{w0:World}{rd:Bool}{n:Nat}{o:Op}{α:AA}{S S':ad}{r:AV}{q:dp}{dr:Bool}
def l6 (f:Nat->AV):Option QO->Int->Option Int
 |none,d=>some d
 |some x,_=>match x.ev f with
  |.v (.int _ i)=>some i
  |_=>none
theorem yE {lo:Option Operand}{d i:Int}(h:l6 α.tm (lo.map qo) d=some i):kh (lo.map α.ev) d=some i:=by
 cases lo with
 |none=>exact h
 |some x =>
  simp only [Option.map_some,l6,aJ] at h
  simp only [Option.map_some,kh]
  split at h
  ·rename_i e;rw [e];exact h
  ·cases h
theorem XK {k:SK}{x:QO}{lo hi:Option QO}(h:res P.toTables o=some (.slice k x lo hi none)):∃ t u l1 h1,o=.slice t u l1 h1 none/\x=qo u/\lo=l1.map qo/\hi=h1.map qo /\
  ((k=.str/\P.underlying t=some .string)\/∃ e m,k=.sl m/\P.underlying t=some (.slice e)/\cP P e=some m):=by
 cases o with
 |slice t u l1 h1 m1 =>
  simp only [res,bF,dJ] at h
  split at h
  ·rename_i hu
   simp only [oI_,dp.slice.injEq,Option.map_eq_none_iff] at h
   obtain⟨rfl,rfl,rfl,rfl,rfl⟩:=h
   exact⟨_,_,_,_,rfl,rfl,rfl,rfl,.inl ⟨rfl,hu⟩⟩
  ·rename_i e hu
   split at h
   ·rename_i m hs
    simp only [oI_,dp.slice.injEq,Option.map_eq_none_iff] at h
    obtain⟨rfl,rfl,rfl,rfl,rfl⟩:=h
    exact⟨_,_,_,_,rfl,rfl,rfl,rfl,.inr ⟨_,_,rfl,hu,hs⟩⟩
   ·cases h
  ·cases h
 |_ =>
  simp only [res] at h
  repeat' split at h
  all_goals cases h
theorem ae.ajD {x:QO}{lo hi:Option QO}{s:ByteArray}{l h:Int}(h1:x.ev α.tm=.v (.string s)) (h2:l6 α.tm lo 0=some l) (h3:l6 α.tm hi s.size=some h) (h4:0<=l) (h5:l<=h) (h6:h<=s.size) :
  ae P w0 dr (.slice .str x lo hi none) α S (.v (.string (s.extract l.toNat h.toNat))) S:=by
 refine ae.of rfl fun o hr=>?_
 obtain⟨t,u,l1,i1,rfl,rfl,rfl,rfl,hu|⟨e,m,hk,_⟩⟩:=XK hr
 ·rw [aJ] at h1
  simp only [aX,kZ,Option.map_none,h1,hu.2,yE h2,yE h3]
  exact⟨h4,h5,h6,rfl,rfl⟩
 ·cases hk
theorem lC {sz by_:Nat}{a b:QO}(h:res P.toTables o=some (.append sz by_ a b)):∃ c t t2 u v e e2 z,o=.call c/\c.callee=.builtin .append/\c.argTypes.toList=[t,t2]/\c.args.toList=[u,v]/\a=qo u/\b=qo v/\fJ P t=some e/\fJ P t2=some e2/\cU P e=some z /\
  cP P e=some sz/\gV P e=some by_/\Nat.beq z.cells.size sz=true/\Nat.blt 0 by_=true:=by
 cases o<;>simp only [res,bF,dJ,k_,gn,jE] at h<;>(repeat' split at h)<;>(try cases h)
 rename_i hb
 simp only [Bool.and_eq_true] at hb
 exact⟨_,_,_,_,_,_,_,_,rfl,by assumption,by assumption,by assumption,rfl,rfl,by assumption,by assumption,by assumption,by assumption,by assumption,hb.1,hb.2⟩
def dD (S:ad) (b:AV):Option (List (List AV)):=match rowsOf S b,m7 b with
 |some l,some k=>match Nat.beq k l.length with|true=>some l|false=>none
 |_,_=>none
theorem dx {S:ad}{b:AV}{l:List (List AV)}(h:dD S b=some l):rowsOf S b=some l/\m7 b=some l.length:=by
 unfold dD at h
 split at h
 ·rename_i h1 h2
  split at h
  ·rename_i e
   obtain rfl:=oJ_ h
   rw [Nat.eq_of_beq_eq_true e] at h2
   exact⟨h1,h2⟩
  ·cases h
 ·cases h
theorem ae.append {sz by_:Nat}{a b:QO}{more:List (List AV)}(hm:rowsOf S (b.ev α.tm)=some more) (hl:m7 (b.ev α.tm)=some more.length)
  (h:∀ e z,cU P e=some z->cP P e=some sz->gV P e=some by_->Nat.blt 0 by_=true->jA P e (rB r S') S more (a.ev α.tm)):ae P w0 dr (.append sz by_ a b) α S r S':=by
 refine ae.of rfl fun o hr=>?_
 obtain⟨c,t,t2,u,v,e,e2,z,rfl,h1,h2,h3,rfl,rfl,h4,h5,h6,h7,h8,h9,Io⟩:=lC hr
 rw [aJ] at hm hl h
 simp only [aX,h1,lZ,h2,h3,List.map_cons,List.map_nil,h4,h5,h6,h7,h9]
 exact aZ.mk hm ⟨hl,h e z h6 h7 h8 Io⟩
theorem ae.Fk {sz by_:Nat}{a b:QO}{rows:List (List AV)}(h1:a.ev α.tm=.sl true rows) (hm:dD S (b.ev α.tm)=some []):ae P w0 dr (.append sz by_ a b) α S (.sl true rows) S:=by
 refine ae.append (dx hm).1 (dx hm).2 fun e z hz hs hb hp=>?_
 rw [h1]
 exact⟨rfl,rfl⟩
theorem ae.Cq {sz by_:Nat}{a b:QO}{rows more:List (List AV)}{x:List AV}(h1:a.ev α.tm=.sl true rows) (hm:dD S (b.ev α.tm)=some (x::more)) (h2:∀ row ∈ rows,row.length=sz) (h3:∀ row ∈ x::more,row.length=sz)
  (h4:(rows.length+(x::more).length)*by_<=35184372088832):ae P w0 dr (.append sz by_ a b) α S (.ob S.nx sz 0 (rows.length+(x::more).length) none) (S.new (.arr sz (rows++x::more) 0 false)):=by
 refine ae.append (dx hm).1 (dx hm).2 fun e z hz hs hb hp=>?_
 rw [h1]
 simp only [jA,hs,hb,hp]
 exact⟨h2,h3,h4,rfl,rfl⟩
theorem ae.JN {sz by_ k fz len:Nat}{ex:Bool}{a b:QO}{rows more:List (List AV)}{x:List AV}(h1:a.ev α.tm=.ob k sz 0 len none) (hk:S.get k=some (.arr sz rows fz ex)) (hm:dD S (b.ev α.tm)=some (x::more)) (h0:fz<=len) (h2:len<=rows.length)
  (h3:∀ row ∈ x::more,row.length=sz/\row.all bQ=true) (h4:(len+(x::more).length)*by_<=35184372088832) :
  ae P w0 dr (.append sz by_ a b) α S (.ob S.nx sz 0 (len+(x::more).length) none) ((S.set k none).new (.arr sz (rows.take len++x::more) fz false)):=by
 refine ae.append (dx hm).1 (dx hm).2 fun e z hz hs hb hp=>?_
 rw [h1]
 simp only [jA]
 refine aZ.mk (rK hk) ?_
 simp only [hs,hb,hp,Nat.beq_refl,Bool.and_self,Bool.true_and]
 exact⟨h0,h2,h3,h4,rfl,rfl⟩
theorem ae.A8 {sz by_ k fz len sz':Nat}{ex:Bool}{a b:QO}{rows:List (List AV)}(h1:a.ev α.tm=.ob k sz' 0 len none) (hk:S.get k=some (.arr sz' rows fz ex)) (hm:dD S (b.ev α.tm)=some []) :
  ae P w0 dr (.append sz by_ a b) α S (.ob k sz' 0 len none) S:=by
 refine ae.append (dx hm).1 (dx hm).2 fun e z hz hs hb hp=>?_
 rw [h1]
 simp only [jA]
 exact aZ.mk (rK hk) ⟨rfl,rfl⟩
theorem Ip {z:List AV}{by_:Nat}{l c:QO}(h:res P.toTables o=some (.im z by_ l c)):∃ t u v e zv sz,o=.makeSlice t u v/\l=qo u/\c=qo v/\fJ P t=some e/\cU P e=some zv/\cP P e=some sz/\gV P e=some by_ /\
  z=zv.cells.toList.map bJ/\Nat.beq zv.cells.size sz=true/\Nat.blt 0 sz=true:=by
 cases o with
 |makeSlice t u v =>
  simp only [res,dJ,k_,gn,jE] at h
  split at h
  ·rename_i e he
   split at h
   ·rename_i zv sz b1 hz hs hb
    split at h
    ·rename_i hc
     simp only [Bool.and_eq_true] at hc
     simp only [oI_,dp.im.injEq] at h
     obtain⟨rfl,rfl,rfl,rfl⟩:=h
     exact⟨_,_,_,_,_,_,rfl,rfl,rfl,he,hz,hs,hb,rfl,hc.1,hc.2⟩
    ·cases h
   ·cases h
  ·cases h
 |_ =>
  simp only [res] at h
  repeat' split at h
  all_goals cases h
theorem ae.TJ {z:List AV}{by_:Nat}{l c:QO}{k k':IntKind}{a b:Int}(h1:l.ev α.tm=.v (.int k a)) (h2:c.ev α.tm=.v (.int k' b)) (h3:0<=a) (h4:a=b) (h5:a*by_<=35184372088832) (h6:a<=9223372036854775807) :
  ae P w0 dr (.im z by_ l c) α S (.ob S.nx z.length 0 a.toNat none) (S.new (.arr z.length (List.replicate a.toNat z) 0 true)):=by
 refine ae.of rfl fun o hr=>?_
 obtain⟨t,u,v,e,zv,sz,rfl,rfl,rfl,e1,e2,e3,e4,rfl,e5,e6⟩:=Ip hr
 have hz:(zv.cells.toList.map bJ).length=sz:=by rw [<-Nat.eq_of_beq_eq_true e5];simp
 rw [aJ] at h1 h2
 rw [hz]
 simp only [aX,h1,h2,e1,e2,e3,e4,e5,e6,Bool.and_self]
 exact⟨h3,h4,h5,h6,rfl,rfl⟩
theorem ae.Y1 {x:QO}{s:ByteArray}(h1:x.ev α.tm=.v (.string s)):ae P w0 dr (.wJ x) α S (.pt S.nx 0 0 0) (S.new (.si s 0)):=by
 refine ae.of rfl fun o hr=>?_
 cases o<;>simp only [res,bF] at hr<;>(repeat' split at hr)<;>(try cases hr)
 rw [aJ] at h1
 simp only [aX, *]
 exact⟨rfl,rfl⟩
theorem ae.JO {x:QO}{k sz pos:Nat}{s:ByteArray}(h1:x.ev α.tm=.pt k sz 0 0) (hk:S.get k=some (.si s pos)) (hp:pos < s.size) :
  ae P w0 dr (.qM x) α S (.aE [.v (.bool true),.v (.int .i64 pos),.v (.int .i32 (Utf8.decode s pos).1)]) (S.set k (some (.si s (pos+(Utf8.decode s pos).2)))):=by
 refine ae.of rfl fun o hr=>?_
 cases o<;>simp only [res,bF] at hr<;>(repeat' split at hr)<;>(try cases hr)
 rw [aJ] at h1
 simp only [aX,h1]
 refine aZ.mk (a:=(s,pos)) (by simp only [Fl,hk]) ⟨true,by simpa using hp,rfl,rfl⟩
theorem ae.Y2 {x:QO}{k sz pos:Nat}{s:ByteArray}(h1:x.ev α.tm=.pt k sz 0 0) (hk:S.get k=some (.si s pos)) (hp:s.size<=pos):ae P w0 dr (.qM x) α S (.aE [.v (.bool false)]) S:=by
 refine ae.of rfl fun o hr=>?_
 cases o<;>simp only [res,bF] at hr<;>(repeat' split at hr)<;>(try cases hr)
 rw [aJ] at h1
 simp only [aX,h1]
 refine aZ.mk (a:=(s,pos)) (by simp only [Fl,hk]) ⟨false,by simpa using hp,rfl,rfl⟩
end
section
variable {P:Program}{w0:World}{rd:Bool}{n:Nat}{α:AA}{S:ad}{ex:Exit}{rs:Array ResultVar}{r r':AV}{Q:Exit->AA->ad->Prop}{l:List QI}{K:List fc}{dr:Bool}
theorem aa.JO {d:Option Nat}{g:Option (Nat × Bool)}{x:QO}{k sz pos:Nat}{s:ByteArray}(hw:bD α.tm g=some true) (h1:x.ev α.tm=.pt k sz 0 0) (hk:S.get k=some (.si s pos))
  (k1:pos < s.size->∀ (j c:Int) (p:Nat),j=pos->c=(Utf8.decode s pos).1->p=pos+(Utf8.decode s pos).2->aa P w0 rd n Q (.aU dr l K) (bS d α (.aE [.v (.bool true),.v (.int .i64 j),.v (.int .i32 c)])) (S.set k (some (.si s p))))
  (k2:s.size<=pos->aa P w0 rd n Q (.aU dr l K) (bS d α (.aE [.v (.bool false)])) S):aa P w0 rd n Q (.aU dr (⟨d,g,.qM x⟩::l) K) α S:=by
 rcases Nat.lt_or_ge pos s.size with h|h
 ·exact aa.op (i:=⟨d,g,.qM x⟩) hw (ae.JO h1 hk h) (k1 h _ _ _ rfl rfl rfl)
 ·exact aa.op (i:=⟨d,g,.qM x⟩) hw (ae.Y2 h1 hk h) (k2 h)
def Wk (a b:AV):Prop:=∀ (g:Gh) (w:World) (x:Value),aH g w a x->aH g w b x
def Fm:List AV->List AV->Prop
 |[],[]=>True
 |a::l,b::m=>Wk a b/\Fm l m
 |_,_=>False
theorem Wk.refl (a:AV):Wk a a:=fun _ _ _ h=>h
theorem Fm.len:∀ {l m:List AV},Fm l m->l.length=m.length
 |[],[],_=>rfl
 |_::_,_::_,h=>by simp [h.2.len]
 |[],_::_,h=>h.elim
 |_::_,[],h=>h.elim
theorem Fm.at:∀ {l m:List AV},Fm l m->∀ (i:Nat) (b:AV),m[i]?=some b->∃ a,l[i]?=some a/\Wk a b
 |[],[],_,i,b,h=>by simp at h
 |a::l,b::m,hw,i,c,h=>by
  cases i with
  |zero=>simp at h;subst h;exact⟨a,rfl,hw.1⟩
  |succ i=>simp at h;obtain⟨d,h1,h2⟩:=hw.2.at i c h;exact⟨d,by simpa using h1,h2⟩
 |[],_::_,h,_,_,_=>h.elim
 |_::_,[],h,_,_,_=>h.elim
theorem Wk.sl {ex:Bool}{rows:List (List AV)}:Wk (.sl ex rows) (.sl false rows):=fun g w x hr=>by
 cases hr with
 |nil hc=>exact .nil (fun h=>by cases h)
 |sl hn hc hle hl h hr=>exact .sl hn (fun h=>by cases h) hle hl h hr
theorem Wk.nil {ρ:Hd}{T:Type}{f:T->List AV}{ex:Bool}:Wk (.sl ex []) (cE ρ f false []):=by rw [cO];exact Wk.sl
theorem aK.wk {f:FuncId}{args ec:List AV}{S':ad}(h:aK P w0 f args S r S') (hw:Fm ec args):aK P w0 f ec S r S':=by
 refine⟨h.1,fun F m A g aQ w hF hS hA=>h.2 F m A g aQ w hF hS ⟨hA.1.trans hw.len,fun i a x ha hx=>?_⟩⟩
 obtain⟨b,h1,h2⟩:=hw.at i a ha
 exact h2 _ _ _ (hA.2 i b x h1 hx)
theorem ae.Fo {f:QO}{aZ9:List QO}{g:FuncId}{args ec:List AV}(h:dM (f.ev α.tm) (aZ9.map (·.ev α.tm))=some (g,ec)) (hc:ah P w0 g args r) (hp:dm args) (hw:Fm ec args):ae P w0 dr (.call f aZ9) α S r S:=ae.call h ((hc.zW hp S).wk hw) fun _=>rfl
variable {ρ:Hd}{T:Type}{f:T->List AV}{acc:List T}{x:T}
theorem jB {B:Nat}{ex:Bool}:dg B (.sl ex []):=.sl fun r hr=>by cases hr
theorem yF {B sz fz:Nat}{ex:Bool}(h:∀ x ∈ acc,∀ a ∈ f x,Pure a):fV B (.arr sz (ρ.h (List.map f) acc) fz ex):=by
 rw [ρ.eq]
 intro row hr a ha
 obtain⟨x,hx,rfl⟩:=List.mem_map.1 hr
 exact (h x hx a ha).b9
end
def Gh.pre (g:Gh) (ι:Nat->Nat) (M:Nat):Gh:=⟨fun j=>g.ob (ι j),fun j=>g.cp (ι j),fun j=>j < M/\g.al (ι j),g.fz,g.fo⟩
def Rn (ι:Nat->Nat) (M:Nat) (a b:AV):Prop:=∀ (g:Gh) (w:World) (x:Value),aH g w a x->aH (g.pre ι M) w b x
def jY (ι:Nat->Nat) (M:Nat) (bW o:Ob):Prop:=(∀ (g:Gh) (w:World) (b cp:Nat),dA g w b cp bW->dA (g.pre ι M) w b cp o)/\∀ J,o=.fo J->bW=.fo J
structure Bk (ι:Nat->Nat) (gc g:Gh):Prop where
 al:∀ j,gc.al j->g.al (ι j)
 ob:∀ j,gc.al j->g.ob (ι j)=gc.ob j
 cp:∀ j,gc.al j->g.cp (ι j)=gc.cp j
 fz:g.fz=gc.fz
def Rb (ι:Nat->Nat) (b a:AV):Prop:=∀ (gc g:Gh) (w:World) (x:Value),Bk ι gc g->aH gc w b x->aH g w a x
def kE (ι:Nat->Nat) (o eA:Ob):Prop:=(∀ (gc g:Gh) (w:World) (b cp:Nat),Bk ι gc g->(∀ J,o=.fo J->g.fo=gc.fo)->dA gc w b cp o->dA g w b cp eA)/\∀ J,eA=.fo J->o=.fo J
def cV (ι:Nat->Nat) (M T:Nat) (j:Nat):Nat:=match Nat.blt j M with|true=>ι j|false=>T+j
theorem mG {ι:Nat->Nat}{M T j:Nat}(h:j < M):cV ι M T j=ι j:=by
 have:Nat.blt j M=true:=Nat.ble_eq_true_of_le h
 simp only [cV,this]
theorem o8 {ι:Nat->Nat}{M T j:Nat}(h:M<=j):cV ι M T j=T+j:=by
 have:Nat.blt j M=false:=by
  cases e:Nat.blt j M with
  |false=>rfl
  |true=>exact absurd (Nat.le_of_ble_eq_true e) (by omega)
 simp only [cV,this]
structure oh (ι:Nat->Nat) (S S' T T':ad):Prop where
 inj:∀ i j,i < S.nx->j < S.nx->ι i=ι j->i=j
 lt:∀ j,j < S.nx->ι j < T.nx
 hS:∀ j o,S.get j=some o->∃ bW,T.get (ι j)=some bW/\jY ι S.nx bW o
 hT:∀ k eA,T'.get k=some eA->(∃ j o,cV ι S.nx T.nx j=k/\S'.get j=some o/\kE (cV ι S.nx T.nx) o eA)\/(k < T.nx/\(∀ j,j < S.nx->ι j ≠ k)/\T.get k=some eA)
 nx:T'.nx=T.nx+S'.nx\/(S'.nx<=S.nx/\T'.nx=T.nx)
structure Fits (ι:Nat->Nat) (S S' T T':ad):Prop where
 inj:∀ i j,i < S.nx->j < S.nx->ι i=ι j->i=j
 lt:∀ j,j < S.nx->ι j < T.nx
 hS:∀ j o,S.get j=some o->∃ bW,T.get (ι j)=some bW/\jY ι S.nx bW o
 hT:∀ k eA,T'.get k=some eA->(∃ j o,cV ι S.nx T.nx j=k/\S'.get j=some o/\kE (cV ι S.nx T.nx) o eA)\/(k < T.nx/\(∀ j,j < S.nx->ι j ≠ k)/\T.get k=some eA)
 nx:T'.nx=T.nx+S'.nx\/(S'.nx<=S.nx/\T'.nx=T.nx)
 fo:(∀ k J,T.get k=some (.fo J)->∃ j,j < S.nx/\ι j=k)\/(∀ j J,S'.get j ≠ some (.fo J))
section
variable {w0:World}{A:Nat->Prop}{g:Gh}{S S' T T':ad}{w:World}{ι:Nat->Nat}
def Cr (gc:Gh) (S:ad) (w:World) (b:Nat):Prop:=w.heap.size<=b\/∃ j o,S.get j=some o/\gc.al j/\(b=gc.ob j\/∃ J,o=.fo J/\gc.fo (gc.ob j) b)
theorem Fits.y (h:Fits ι S S' T T'):oh ι S S' T T':=⟨h.inj,h.lt,h.hS,h.hT,h.nx⟩
theorem oh.sub (hF:oh ι S S' T T') (hT:St w0 A g T w) {b:Nat}(h:Cr (g.pre ι S.nx) S w b):A b:=by
 rcases h with h|⟨j,o,h1,h2,h3⟩
 ·exact hT.up b h
 ·obtain⟨bW,h4,h5,h6⟩:=hF.hS j o h1
  rcases h3 with rfl|⟨J,rfl,h7⟩
  ·exact (hT.bR _ bW h4 h2.2).1
  ·exact (hT.ic _ J (by rw [<-h6 J rfl];exact h4) h2.2 b h7).1
theorem oh.inner (hF:oh ι S S' T T') (hT:St w0 A g T w):St w0 (Cr (g.pre ι S.nx) S w) (g.pre ι S.nx) S w :=
 ⟨hT.base,fun b hb=>.inl hb,fun b hb=>hT.lo b (hF.sub hT hb),fun k hk=>hk.1,fun k o hk ha=>by
   obtain⟨bW,h4,h5,h6⟩:=hF.hS k o hk
   obtain⟨h7,h8,h9⟩:=hT.bR _ bW h4 ha.2
   exact⟨.inr ⟨k,o,hk,ha,.inl rfl⟩,h8,h5 _ _ _ _ h9⟩,
  fun j k o p hj hk aj ak e=>by
   obtain⟨bW,h4,_⟩:=hF.hS j o hj
   obtain⟨uX,h5,_⟩:=hF.hS k p hk
   exact hF.inj j k aj.1 ak.1 (hT.inj _ _ bW uX h4 h5 aj.2 ak.2 e),
  hT.cC,hT.nS,fun k J hk ha c hc=>by
   obtain⟨bW,h4,_,h6⟩:=hF.hS k _ hk
   exact⟨.inr ⟨k,_,hk,ha,.inr ⟨J,rfl,hc⟩⟩,(hT.ic _ J (by rw [<-h6 J rfl];exact h4) ha.2 c hc).2⟩,
  fun k J j o hk ha hj aj a_ hc=>by
   obtain⟨bW,h4,_,h6⟩:=hF.hS k _ hk
   obtain⟨uX,h5,_⟩:=hF.hS j o hj
   exact hT.jW _ J _ uX (by rw [<-h6 J rfl];exact h4) ha.2 h5 aj.2 (fun e=>a_ (hF.inj j k aj.1 ha.1 e)) hc,
  fun j k J J' hj hk aj ak=>by
   obtain⟨bW,h4,_,h6⟩:=hF.hS j _ hj
   obtain⟨uX,h5,_,h7⟩:=hF.hS k _ hk
   exact hF.inj j k aj.1 ak.1 (hT.lV _ _ J J' (by rw [<-h6 J rfl];exact h4) (by rw [<-h7 J' rfl];exact h5) aj.2 ak.2)⟩
theorem oh.Y3 (hF:oh ι S S' T T') {i j:Nat}(h:cV ι S.nx T.nx i=cV ι S.nx T.nx j):i=j:=by
 rcases Nat.lt_or_ge i S.nx with h1|h1<;>rcases Nat.lt_or_ge j S.nx with h2|h2
 ·rw [mG h1,mG h2] at h;exact hF.inj i j h1 h2 h
 ·rw [mG h1,o8 h2] at h;have:=hF.lt i h1;omega
 ·rw [o8 h1,mG h2] at h;have:=hF.lt j h2;omega
 ·rw [o8 h1,o8 h2] at h;omega
theorem oh.outer (hF:oh ι S S' T T') (hT:St w0 A g T w) {gc:Gh}{w':World}(eR:St w0 (Cr (g.pre ι S.nx) S w) gc S' w') (hE:Ext (Cr (g.pre ι S.nx) S w) (g.pre ι S.nx) w gc w')
  (zg:(∀ k J,T.get k=some (.fo J)->g.al k->∃ j,j < S.nx/\ι j=k)\/(∀ j J,S'.get j ≠ some (.fo J))):∃ g',St w0 A g' T' w'/\Ext A g w g' w'/\Bk (cV ι S.nx T.nx) gc g':=by
 classical
 obtain⟨X,TK,Y4⟩:∃ X:Nat->Nat->Prop,(∀ j J,S'.get j=some (.fo J)->X=gc.fo)/\(∀ k J,T.get k=some (.fo J)->g.al k->(∀ j,j < S.nx->ι j ≠ k)->X=g.fo):=by
  rcases zg with h|h
  ·exact⟨gc.fo,fun _ _ _=>rfl,fun k J hk ha hn=>by obtain⟨j,h1,h2⟩:=h k J hk ha;exact absurd h2 (hn j h1)⟩
  ·exact⟨g.fo,fun j J hj=>absurd hj (h j J),fun _ _ _ _ _=>rfl⟩
 let o:=cV ι S.nx T.nx
 let g':Gh:=⟨fun k=>if h:∃ j,o j=k then gc.ob h.choose else g.ob k,fun k=>if h:∃ j,o j=k then gc.cp h.choose else g.cp k,fun k=>if h:∃ j,o j=k then gc.al h.choose else g.al k,gc.fz,X⟩
 have ch:∀ j (h:∃ i,o i=o j),h.choose=j:=fun j h=>hF.Y3 h.choose_spec
 have e1:∀ j,g'.ob (o j)=gc.ob j:=fun j=>by
  have h:∃ i,o i=o j:=⟨j,rfl⟩
  show (if h:∃ i,o i=o j then gc.ob h.choose else _)=_
  rw [dif_pos h,ch j h]
 have e2:∀ j,g'.cp (o j)=gc.cp j:=fun j=>by
  have h:∃ i,o i=o j:=⟨j,rfl⟩
  show (if h:∃ i,o i=o j then gc.cp h.choose else _)=_
  rw [dif_pos h,ch j h]
 have e3:∀ j,g'.al (o j)=gc.al j:=fun j=>by
  have h:∃ i,o i=o j:=⟨j,rfl⟩
  show (if h:∃ i,o i=o j then gc.al h.choose else _)=_
  rw [dif_pos h,ch j h]
 have f1:∀ k,(∀ j,o j ≠ k)->g'.ob k=g.ob k:=fun k hk=>dif_neg fun ⟨j,hj⟩=>hk j hj
 have f2:∀ k,(∀ j,o j ≠ k)->g'.cp k=g.cp k:=fun k hk=>dif_neg fun ⟨j,hj⟩=>hk j hj
 have f3:∀ k,(∀ j,o j ≠ k)->g'.al k=g.al k:=fun k hk=>dif_neg fun ⟨j,hj⟩=>hk j hj
 have aB:∀ k,g.al k->(∃ j,j < S.nx/\o j=k/\ι j=k/\(g.pre ι S.nx).al j)\/∀ j,o j ≠ k:=by
  intro k hk
  by_cases h:∃ j,o j=k
  ·obtain⟨j,hj⟩:=h
   rcases Nat.lt_or_ge j S.nx with h1|h1
   ·have h2:ι j=k:=by rw [<-hj];exact (mG h1).symm
    exact .inl ⟨j,h1,hj,h2,h1,by rw [h2];exact hk⟩
   ·have h2:o j=T.nx+j:=o8 h1
    have:=hT.al k hk
    omega
  ·exact .inr fun j hj=>h ⟨j,hj⟩
 have free:∀ k,k < T.nx->(∀ j,j < S.nx->ι j ≠ k)->∀ j,o j ≠ k:=by
  intro k hk h j hj
  rcases Nat.lt_or_ge j S.nx with h1|h1
  ·exact h j h1 (by rw [<-hj];exact (mG h1).symm)
  ·have h2:o j=T.nx+j:=o8 h1
   omega
 have out:∀ k p,T.get k=some p->g.al k->(∀ j,j < S.nx->ι j ≠ k)->¬ Cr (g.pre ι S.nx) S w (g.ob k):=by
  rintro k p hk ha hn (h|⟨j,q,h1,h2,h3⟩)
  ·exact absurd (hT.bR k p hk ha).2.1 (by omega)
  ·obtain⟨bW,h4,_,h6⟩:=hF.hS j q h1
   rcases h3 with h3|⟨J,rfl,h7⟩
   ·exact hn j h2.1 (hT.inj k (ι j) p bW hk h4 ha h2.2 h3).symm
   ·exact hT.jW (ι j) J k p (by rw [<-h6 J rfl];exact h4) h2.2 hk ha (fun e=>hn j h2.1 e.symm) h7
 have hL:Later g w g' w':=by
  refine⟨fun k hk=>?_,fun k hk=>?_,fun k hk=>?_,hE.fz,hE.cell⟩
  ·rcases aB k hk with ⟨j,h1,h2,h3,h4⟩|h
   ·rw [<-h2,e3];exact hE.al j h4
   ·rw [f3 k h];exact hk
  ·rcases aB k hk with ⟨j,h1,h2,h3,h4⟩|h
   ·rw [<-h2,e1,hE.ob j h4,h2,<-h3];rfl
   ·exact f1 k h
  ·rcases aB k hk with ⟨j,h1,h2,h3,h4⟩|h
   ·rw [<-h2,e2,hE.cp j h4,h2,<-h3];rfl
   ·exact f2 k h
 have hEx:Ext A g w g' w':={ hL with size:=hE.size,a7:=fun b hb hA=>hE.a7 b hb fun h=>hA (hF.sub hT h),gF:=fun b q h=>(hE.gF b q h).imp id (hF.sub hT) }
 have hB:Bk o gc g':=⟨fun j hj=>by rw [e3];exact hj,fun j _=>e1 j,fun j _=>e2 j,rfl⟩
 refine⟨g',⟨eR.base,fun b hb=>hT.up b (Nat.le_trans hE.size hb),hT.lo,fun k hk=>?_,fun k eA hk ha=>?_,fun k l eA wK hk hl ak om e=>?_,eR.cC,eR.nS,fun k J hk ha c hc=>?_,fun k J l wK hk ha hl om a_ hc=>?_,fun k l J J' hk hl ak om=>?_⟩,hEx,hB⟩
 ·by_cases h:∃ j,o j=k
  ·obtain⟨j,rfl⟩:=h
   rw [e3] at hk
   have h1:=eR.al j hk
   rcases Nat.lt_or_ge j S.nx with h2|h2
   ·rw [show o j=ι j from mG h2];have:=hF.lt j h2;rcases hF.nx with e|⟨_,e⟩<;>omega
   ·rw [show o j=T.nx+j from o8 h2];rcases hF.nx with e|⟨_,e⟩<;>omega
  ·rw [f3 k fun j hj=>h ⟨j,hj⟩] at hk
   have:=hT.al k hk
   rcases hF.nx with e|⟨_,e⟩<;>omega
 ·rcases hF.hT k eA hk with ⟨j,p,rfl,h1,h2,h3⟩|⟨h1,h2,h3⟩
  ·have cz:gc.al j:=by rw [<-e3];exact ha
   obtain⟨h4,h5,h6⟩:=eR.bR j p h1 cz
   rw [show g'.ob (cV ι S.nx T.nx j)=gc.ob j from e1 j,show g'.cp (cV ι S.nx T.nx j)=gc.cp j from e2 j]
   exact⟨hF.sub hT h4,h5,h2 gc g' w' _ _ hB (fun J hJ=>TK j J (by rw [<-hJ];exact h1)) h6⟩
  ·have hn:=free k h1 h2
   rw [f3 k hn] at ha
   rw [f1 k hn,f2 k hn]
   obtain⟨h4,h5,h6⟩:=hT.bR k eA h3 ha
   have fy:=out k eA h3 ha h2
   refine⟨h4,Nat.lt_of_lt_of_le h5 hE.size,h6.later hL (hE.a7 _ h5 fy) (fun q hq=>(hE.gF _ q hq).resolve_right fy) fun J hJ=>?_⟩
   subst hJ
   have hno:∀ c,g.fo (g.ob k) c->¬ Cr (g.pre ι S.nx) S w c:=by
    rintro c hc (h|⟨j,q,q1,q2,q3⟩)
    ·exact absurd (hT.ic k J h3 ha c hc).2 (by omega)
    ·obtain⟨bW,q4,_,q6⟩:=hF.hS j q q1
     rcases q3 with rfl|⟨J',rfl,q7⟩
     ·exact hT.jW k J _ bW h3 ha q4 q2.2 (h2 j q2.1) hc
     ·exact h2 j q2.1 (hT.lV _ _ J' J (by rw [<-q6 J' rfl];exact q4) h3 q2.2 ha)
   refine⟨by show X (g.ob k)=g.fo (g.ob k);rw [Y4 k J h3 ha h2],hE.size,fun c hc=>hE.a7 c (hT.ic k J h3 ha c hc).2 (hno c hc),fun c q hc hq=>(hE.gF c q hq).resolve_right (hno c hc)⟩
 ·rcases hF.hT k eA hk with ⟨i,p,rfl,h1,h2⟩|⟨h1,h2,h3⟩<;>rcases hF.hT l wK hl with ⟨j,q,rfl,k1,k2⟩|⟨k1,k2,k3⟩
  ·have e':gc.ob i=gc.ob j:=by rw [<-e1,<-e1];exact e
   rw [eR.inj i j p q h1 k1 (by rw [<-e3];exact ak) (by rw [<-e3];exact om) e']
  ·have hn:=free l k1 k2
   rw [f3 l hn] at om
   rw [f1 l hn,show g'.ob (cV ι S.nx T.nx i)=gc.ob i from e1 i] at e
   exact absurd (e ▸ (eR.bR i p h1 (by rw [<-e3];exact ak)).1) (out l wK k3 om k2)
  ·have hn:=free k h1 h2
   rw [f3 k hn] at ak
   rw [f1 k hn,show g'.ob (cV ι S.nx T.nx j)=gc.ob j from e1 j] at e
   exact absurd (e ▸ (eR.bR j q k1 (by rw [<-e3];exact om)).1) (out k eA h3 ak h2)
  ·have hn:=free k h1 h2
   have hm:=free l k1 k2
   rw [f3 k hn] at ak
   rw [f3 l hm] at om
   rw [f1 k hn,f1 l hm] at e
   exact hT.inj k l eA wK h3 k3 ak om e
 ·rcases hF.hT k _ hk with ⟨j,p,rfl,h1,h2,h3⟩|⟨h1,h2,h3⟩
  ·have hp:S'.get j=some (.fo J):=by rw [<-h3 J rfl];exact h1
   have oc:gc.fo (gc.ob j) c:=by rw [<-TK j J hp,<-e1 j];exact hc
   obtain⟨h4,h5⟩:=eR.ic j J hp (by rw [<-e3];exact ha) c oc
   exact⟨hF.sub hT h4,h5⟩
  ·have hn:=free k h1 h2
   rw [f3 k hn] at ha
   have oc:g.fo (g.ob k) c:=by rw [<-Y4 k J h3 ha h2,<-f1 k hn];exact hc
   obtain⟨h4,h5⟩:=hT.ic k J h3 ha c oc
   exact⟨h4,Nat.lt_of_lt_of_le h5 hE.size⟩
 ·rcases hF.hT k _ hk with ⟨i,p,rfl,h1,h2,h3⟩|⟨h1,h2,h3⟩
  ·have hp:S'.get i=some (.fo J):=by rw [<-h3 J rfl];exact h1
   have cz:gc.al i:=by rw [<-e3];exact ha
   rcases hF.hT l wK hl with ⟨j,q,rfl,k1,k2⟩|⟨k1,k2,k3⟩
   ·have oc:gc.fo (gc.ob i) (gc.ob j):=by rw [<-TK i J hp,<-e1 i,<-e1 j];exact hc
    exact eR.jW i J j q hp cz k1 (by rw [<-e3];exact om) (fun e=>a_ (by rw [e])) oc
   ·have hn:=free l k1 k2
    rw [f3 l hn] at om
    have oc:gc.fo (gc.ob i) (g.ob l):=by rw [<-TK i J hp,<-e1 i,<-f1 l hn];exact hc
    exact out l wK k3 om k2 (eR.ic i J hp cz _ oc).1
  ·have hn:=free k h1 h2
   rw [f3 k hn] at ha
   have hX:=Y4 k J h3 ha h2
   rcases hF.hT l wK hl with ⟨j,q,rfl,k1,k2⟩|⟨k1,k2,k3⟩
   ·have oc:g.fo (g.ob k) (gc.ob j):=by rw [<-hX,<-f1 k hn,<-e1 j];exact hc
    rcases (eR.bR j q k1 (by rw [<-e3];exact om)).1 with h|⟨i,q,q1,q2,q3⟩
    ·exact absurd (hT.ic k J h3 ha _ oc).2 (by omega)
    ·obtain⟨bW,q4,_,q6⟩:=hF.hS i q q1
     rcases q3 with q3|⟨J',rfl,q7⟩
     ·rw [q3] at oc;exact hT.jW k J _ bW h3 ha q4 q2.2 (h2 i q2.1) oc
     ·exact h2 i q2.1 (hT.lV _ _ J' J (by rw [<-q6 J' rfl];exact q4) h3 q2.2 ha)
   ·have hm:=free l k1 k2
    rw [f3 l hm] at om
    have oc:g.fo (g.ob k) (g.ob l):=by rw [<-hX,<-f1 k hn,<-f1 l hm];exact hc
    exact hT.jW k J l wK h3 ha k3 om a_ oc
 ·rcases hF.hT k _ hk with ⟨i,p,rfl,h1,h2,h3⟩|⟨h1,h2,h3⟩<;>rcases hF.hT l _ hl with ⟨j,q,rfl,k1,k2,k3⟩|⟨k1,k2,k3⟩
  ·rw [eR.lV i j J J' (by rw [<-h3 J rfl];exact h1) (by rw [<-k3 J' rfl];exact k1) (by rw [<-e3];exact ak) (by rw [<-e3];exact om)]
  ·rcases zg with h|h
   ·obtain⟨x,h4,h5⟩:=h l J' k3 (by rw [f3 l (free l k1 k2)] at om;exact om)
    exact absurd h5 (k2 x h4)
   ·exact absurd (by rw [<-h3 J rfl];exact h1) (h i J)
  ·rcases zg with h|h
   ·obtain⟨x,h4,h5⟩:=h k J h3 (by rw [f3 k (free k h1 h2)] at ak;exact ak)
    exact absurd h5 (h2 x h4)
   ·exact absurd (by rw [<-k3 J' rfl];exact k1) (h j J')
  ·rw [f3 k (free k h1 h2)] at ak
   rw [f3 l (free l k1 k2)] at om
   exact hT.lV k l J J' h3 k3 ak om
end
section
variable {P:Program}{w0:World}{S S' T T':ad}{ι:Nat->Nat}{f:FuncId}{args bG:List AV}{r gw:AV}
theorem aK.frame (h:aK P w0 f args S r S') (hF:Fits ι S S' T T') (hl:bG.length=args.length) (ha:∀ (i:Nat) (a b:AV),bG[i]?=some a->args[i]?=some b->Rn ι S.nx a b) (hr:Rb (cV ι S.nx T.nx) r gw):aK P w0 f bG T gw T':=by
 refine⟨h.1,fun F m A g aQ w hW hT hA=>(h.2 F m _ _ aQ w hW (hF.y.inner hT) ⟨hA.1.trans hl,fun i b x hb hx=>?_⟩).mono ?_⟩
 ·have hi:i < bG.length:=by rw [hl];exact (List.getElem?_eq_some_iff.1 hb).1
  have h0:=List.getElem?_eq_getElem hi
  exact ha i _ b h0 hb _ _ _ (hA.2 i _ x h0 hx)
 ·rintro e w' ⟨v,gc,rfl,h1,h2,h3⟩
  obtain⟨g',k1,k2,k3⟩:=hF.y.outer hT h2 h3 (hF.fo.imp (fun h k J hk _=>h k J hk) id)
  exact⟨v,g',rfl,hr gc g' w' v k3 h1,k1,k2⟩
theorem aK.Y5 (h:aK P w0 f args S r S') (hF:oh ι S S' T T') (hl:bG.length=args.length) (ha:∀ (i:Nat) (a b:AV),bG[i]?=some a->args[i]?=some b->Rn ι S.nx a b) (hr:Rb (cV ι S.nx T.nx) r gw)
  (hy:∀ (A:Nat->Prop) (g:Gh) (w:World) (aQ:Array Value),St w0 A g T w->iP g w bG aQ->∀ k J,T.get k=some (.fo J)->g.al k->∃ j,j < S.nx/\ι j=k):aK P w0 f bG T gw T':=by
 refine⟨h.1,fun F m A g aQ w hW hT hA=>(h.2 F m _ _ aQ w hW (hF.inner hT) ⟨hA.1.trans hl,fun i b x hb hx=>?_⟩).mono ?_⟩
 ·have hi:i < bG.length:=by rw [hl];exact (List.getElem?_eq_some_iff.1 hb).1
  have h0:=List.getElem?_eq_getElem hi
  exact ha i _ b h0 hb _ _ _ (hA.2 i _ x h0 hx)
 ·rintro e w' ⟨v,gc,rfl,h1,h2,h3⟩
  obtain⟨g',k1,k2,k3⟩:=hF.outer hT h2 h3 (.inl (hy A g w aQ hT hA))
  exact⟨v,g',rfl,hr gc g' w' v k3 h1,k1,k2⟩
end
end Go.Proofs.YtgjfgekaclobaaaGreat
