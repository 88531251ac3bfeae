import Derived.ChangeArms
import Derived.JoinedCond
import Derived.OpenShut
import Derived.ProofKit
import Derived.Test.YtgjfgekaclobaaaGreatRows
import Derived.Test.YtgjfgekaclobaaaGreatCm19
namespace Go.Proofs.YtgjfgekaclobaaaGreat
set_option linter.unusedVariables false
set_option linter.unusedSimpArgs false
open Go.RowKit
def g0 (w:World):Gh:=⟨fun _=>0,fun _=>0,fun _=>False,fun b _=>b < w.heap.size,fun _ _=>False⟩
def qz (P:Program) (n:Nat) (t:TypeId) (sz:Nat) {α:Type}(lay:α->List AV) (μ:α->Nat):Prop :=
 ∀ (H:Type) (enc:TypeId × Value->H) (w:World) (sp:Nat->Bool) (held:Bool) (m:Nat),m < n->∀ (cs:List Value) (d:DataW H × List MemPlace),cs.length=sz->DataW.trod enc P w 0 sp held m t cs=some d ->
  ∃ x,μ x<=Rows.uptoBulk d.1/\(lay x).length=sz/\∀ (j:Nat) (a:AV) (v:Value),(lay x)[j]?=some a->cs[j]?=some v->aA (g0 w) w a v
def wa {α:Type}(μ:α->Nat):List α->Nat
 |[]=>0
 |x::l=>μ x+wa μ l
theorem DU {α H:Type}{μ:α->Nat}:∀ {l:List α}{ds:List (DataW H × List MemPlace)},l.length=ds.length->(∀ (i:Nat) (x:α) (e:DataW H × List MemPlace),l[i]?=some x->ds[i]?=some e->μ x<=Rows.uptoBulk e.1)->wa μ l<=Rows.uptoBulkAll (ds.map (·.1))
 |[],ds,_,_=>Nat.zero_le _
 |x::l,[],h,_=>by simp at h
 |x::l,e::ds,h,hk=>by
  rw [wa,List.map_cons,Rows.uptoBulkAll]
  have h1:=hk 0 x e rfl rfl
  have h2:=DU (l:=l) (ds:=ds) (by simpa using h) fun i y z hy hz=>hk (i+1) y z (by simpa using hy) (by simpa using hz)
  omega
section
variable {P:Program}{n:Nat}{t:TypeId}{sz:Nat}
theorem qz.less {α:Type}{lay:α->List AV}{μ:α->Nat}{m:Nat}(h:qz P n t sz lay μ) (hm:m<=n):qz P m t sz lay μ:=fun H enc w sp held k hk=>h H enc w sp held k (by omega)
theorem qz.int (ht:P.underlying t=some (.int .i64)):qz P n t 1 fc (fun _=>1):=by
 intro H enc w sp held m _ cs d hl h
 obtain⟨z,rfl,rfl,hw⟩:=DataW.trod_int ht h
 refine⟨z,by simp only [Rows.uptoBulk];exact Nat.le_refl _,rfl,fun j a v ha hv=>?_⟩
 cases j with
 |zero=>simp [fc] at ha hv;subst ha hv;exact .v
 |succ j=>simp [fc] at ha
theorem qz.str (ht:P.underlying t=some .string):qz P n t 1 (fun s:ByteArray=>[AV.v (.string s)]) (fun s=>s.size+1):=by
 intro H enc w sp held m _ cs d hl h
 obtain⟨z,rfl,rfl,hw⟩:=DataW.trod_string ht h
 refine⟨z,by simp only [Rows.uptoBulk];exact Nat.le_refl _,rfl,fun j a v ha hv=>?_⟩
 cases j with
 |zero=>simp at ha hv;subst ha hv;exact .v
 |succ j=>simp at ha
theorem qz.slice {α:Type}{lay:α->List AV}{μ:α->Nat}{e:TypeId}(ht:P.underlying t=some (.slice e)) (aZ:P.cellsOf e=sz) (aan:0 < sz) (NF:qz P n e sz lay μ) :
  qz P (n+1) t 1 (fun l:List α=>[dw .plain lay false l]) (fun l=>wa μ l+1):=by
 have aao:∀ l:List α,dw .plain lay false l=.sl false (l.map lay):=fun l=>ij
 simp only [aao]
 intro H enc w sp held m hm cs d hl h
 rcases DataW.trod_slice ht h with ⟨hv,hd⟩|⟨a,len,cap,elems,rest,k,hk,hv,hd,_,Jg,R_,hlen,hi,_⟩
 ·subst hv
  refine⟨[],by rw [hd];simp only [Rows.uptoBulk,wa];exact Nat.le_refl _,rfl,fun j b v hb hv=>?_⟩
  cases j with
  |zero=>simp at hb hv;subst hb hv;exact .nil (fun h=>by cases h)
  |succ j=>simp at hb
 ·have NG:0 < len->a.spot=none:=by
   intro h0
   have h3:=hi 0 h0
   rw [aZ] at h3
   have h4:elems[0]?=some (elems[0]'(by omega)):=List.getElem?_eq_getElem (by omega)
   rw [h4] at h3
   obtain⟨cs',mV,_⟩:=Option.bind_eq_some_iff.1 h3
   obtain⟨_,ael,Sa⟩:=World.cells?_some mV
   have h5:=Sa 0 aan
   have h6:cs'[0]?=some (cs'[0]'(by omega)):=List.getElem?_eq_getElem (by omega)
   rw [h6] at h5
   simp only [Nat.zero_mul,Addr.add,if_true] at h5
   unfold World.cell? at h5
   split at h5
   ·split at h5
    ·cases h5
    ·rename_i hs;simpa using hs
   ·cases h5
  have key:∀ i,i < len->∃ x,(∀ e,elems[i]?=some e->μ x<=Rows.uptoBulk e.1)/\(lay x).length=sz/\∀ (j:Nat) (b:AV),(lay x)[j]?=some b->∃ v,w.cell? ⟨a.block,a.off+i*sz+j,none⟩=some v/\aA (g0 w) w b v:=by
   intro i hil
   have h1:=hi i hil
   rw [aZ] at h1
   have h2:elems[i]?=some (elems[i]'(by omega)):=List.getElem?_eq_getElem (by omega)
   rw [h2] at h1
   obtain⟨cs,vn,htr⟩:=Option.bind_eq_some_iff.1 h1
   obtain⟨_,nZ,je⟩:=World.cells?_some vn
   obtain⟨x,hx,zE,hr⟩:=NF H enc w sp held k (by omega) cs _ nZ htr
   refine⟨x,fun e he=>by rw [h2] at he;rw [<-Option.some.inj he];exact hx,zE,fun j b hb=>?_⟩
   have hj:j < sz:=by rw [<-zE];exact (List.getElem?_eq_some_iff.1 hb).1
   have hv:cs[j]?=some (cs[j]'(by omega)):=List.getElem?_eq_getElem (by omega)
   have h5:=je j hj
   have hs:=NG (by omega)
   have aap:(a.add (i*sz)).add j=⟨a.block,a.off+i*sz+j,none⟩:=by
    obtain⟨b',off,spot⟩:=a
    simp only at hs
    subst hs
    unfold Addr.add
    by_cases hz:i*sz=0<;>by_cases hj:j=0<;>simp [hz,hj]
   rw [aap,hv] at h5
   exact⟨_,h5,hr j b _ hb hv⟩
  obtain⟨l,vt,kI⟩:∃ l:List α,l.length=len/\∀ i x,l[i]?=some x->(∀ e,elems[i]?=some e->μ x<=Rows.uptoBulk e.1)/\(lay x).length=sz/\∀ (j:Nat) (b:AV),(lay x)[j]?=some b->∃ v,w.cell? ⟨a.block,a.off+i*sz+j,none⟩=some v/\aA (g0 w) w b v:=by
   refine⟨(List.range len).attach.map (fun i=>Classical.choose (key i.1 (by simpa using i.2))),by simp,fun i x hx=>?_⟩
   simp only [List.getElem?_map,Option.map_eq_some_iff] at hx
   obtain⟨q,hq,rfl⟩:=hx
   have hik:q.1=i:=by
    have h1:((List.range len).attach.map Subtype.val)[i]?=some q.1:=by simp only [List.getElem?_map,hq,Option.map_some]
    rw [List.attach_map_subtype_val] at h1
    obtain⟨_,h2⟩:=List.getElem?_eq_some_iff.1 h1
    simpa using h2.symm
   rw [<-hik]
   exact Classical.choose_spec (key q.1 (by simpa using q.2))
  have hv':cs=[.slice (some a) len cap]:=by simpa using hv
  subst hv'
  refine⟨l,?_,rfl,fun j b v hb hv=>?_⟩
  ·rw [hd]
   have:=DU (μ:=μ) (l:=l) (ds:=elems) (by omega) fun i x e hx he=>(kI i x hx).1 e he
   simp only [Rows.uptoBulk]
   omega
  ·cases j with
   |succ j=>simp at hb
   |zero =>
    simp at hb hv
    subst hb hv
    by_cases h0:l=[]
    ·subst h0
     simp at vt
     subst vt
     exact .nil (fun h=>by cases h)
    ·have hs:=NG (by rw [<-vt];exact List.length_pos_iff.2 h0)
     obtain⟨b',off,spot⟩:=a
     simp only at hs
     subst hs
     have Sb:len=(l.map lay).length:=by simp [vt]
     have row:∀ (i:Nat) (row:List AV),(l.map lay)[i]?=some row->row.length=sz/\∀ (j:Nat) (b:AV),row[j]?=some b->∃ v,w.cell? ⟨b',off+i*sz+j,none⟩=some v/\aA (g0 w) w b v:=by
      intro i row hr
      simp only [List.getElem?_map,Option.map_eq_some_iff] at hr
      obtain⟨x,hx,rfl⟩:=hr
      exact (kI i x hx).2
     rw [Sb]
     refine .sl (sz:=sz) (val:=fun i j=>(w.cell? ⟨b',off+(i*sz+j),none⟩).getD undef) (by simpa using h0) (fun h=>by cases h) (by rw [<-Sb];exact Jg) (fun i r hr=>(row i r hr).1) (fun i j r b hr hb=>?_) (fun i j r b hr hb=>?_)
     ·obtain⟨v,h1,h2⟩:=(row i r hr).2 j b hb
      rw [Nat.add_assoc] at h1
      exact⟨block_lt_of_cell h1,by rw [h1];rfl⟩
     ·obtain⟨v,h1,h2⟩:=(row i r hr).2 j b hb
      rw [Nat.add_assoc] at h1
      rw [h1]
      exact h2
end
def cu {T:Type}(f:T->AV) (l:List (Int × T)):List (Value × AV):=l.map fun p=>(bC p.1,f p.2)
def ao {T:Type}:List (Int × T)->Int->Option T
 |[],_=>none
 |p::l,i=>if p.1=i then some p.2 else ao l i
def ee {T:Type}:List (Int × T)->Int->T->List (Int × T)
 |[],i,v=>[(i,v)]
 |p::l,i,v=>if p.1=i then (i,v)::l else p::ee l i v
theorem bo {T:Type}{l:List (Int × T)}{i j:Int}{v:T}:ao (ee l i v) j=if i=j then some v else ao l j:=by
 induction l with
 |nil=>simp [ee,ao]
 |cons p l ih =>
  simp only [ee]
  by_cases h:p.1=i
  ·rw [if_pos h]
   by_cases e:i=j
   ·simp [ao,e]
   ·simp only [ao,if_neg e]
    rw [if_neg (by rw [h];exact e)]
  ·rw [if_neg h]
   simp only [ao]
   by_cases e:p.1=j
   ·rw [if_pos e,if_pos e,if_neg (by rw [<-e];exact fun h'=>h h'.symm)]
   ·rw [if_neg e,if_neg e,ih]
section
variable {T:Type}{f:T->AV}{l:List (Int × T)}
theorem lS:ji (cu f l):=fun p hp=>by
 obtain⟨q,_,rfl⟩:=List.mem_map.1 hp
 exact⟨_,rfl⟩
theorem pz (i:Int):lu (cu f l) i=(ao l i).map f:=by
 induction l with
 |nil=>rfl
 |cons p l ih =>
  simp only [cu,List.map_cons,lu,fJ,bC,ao] at ih ⊢
  by_cases h:p.1=i
  ·simp [h]
  ·simp only [h,decide_false,if_false]
   rw [<-ih]
   cases fJ (l.map fun p=>(Value.int .i64 p.1,f p.2)) i with
   |none=>rfl
   |some j=>simp
theorem wb (i:Int) (v:T):pX (cu f l) i (f v)=cu f (ee l i v):=by
 induction l with
 |nil=>rfl
 |cons p l ih =>
  simp only [cu,List.map_cons,pX,fJ,bC,ee] at ih ⊢
  by_cases h:p.1=i
  ·simp [h,bC]
  ·simp only [h,decide_false,if_false,List.map_cons]
   rw [<-ih]
   cases fJ (l.map fun p=>(Value.int .i64 p.1,f p.2)) i with
   |none=>rfl
   |some j=>simp
end
section
variable {P:Program}{w0:World}{rd:Bool}{n B:Nat}{α:AA}{S S':aa}{Q:Exit->AA->aa->Prop}{r:AV}{l:List QI}{K:List ig}{V:List (Nat × Nat)}{lg:List (List Nat × List Nat × Bool)}{rs:List Nat}
theorem tg {o:Op}{x:Option QO}(h:res P.toTables o=some (.ft x)):∃ t y kt et,o=.makeMap t y/\x=y.map qo/\P.underlying t=some (.map kt et):=by
 cases o with
 |makeMap t y =>
  simp only [res,a7] at h
  split at h
  ·rename_i kt et hu
   simp only [Option.some.injEq,cB.ft.injEq] at h
   exact⟨_,_,_,_,rfl,h.symm,hu⟩
  ·cases h
 |_ =>
  simp only [res] at h
  repeat' split at h
  all_goals cases h
theorem ad.ft:ad P w0 false (.ft none) α S (.mp S.nx) (S.new (.mp [])):=ad.run fun n o hr=>by
 obtain⟨t,y,kt,et,ho,hy,hu⟩:=tg hr
 cases y with
 |some y=>cases hy
 |none=>exact IY ho
theorem ad.Sc {x:QO}{kk:IntKind}{m:Int}(hx:x.ev α.tm=.v (.int kk m)):ad P w0 false (.ft (some x)) α S (.mp S.nx) (S.new (.mp [])):=ad.run fun n o hr=>by
 obtain⟨t,y,kt,et,ho,hy,hu⟩:=tg hr
 cases y with
 |none=>cases hy
 |some y =>
  obtain rfl:=Option.some.inj hy
  rw [aD] at hx
  exact EY ho hu hx
theorem wc {o:Op}{z:AV}{c:Bool}{x i:QO}(h:res P.toTables o=some (.look z c x i)):∃ t u v kt et kk zv,o=.lookup t u v c/\x=qo u/\i=qo v/\P.underlying t=some (.map kt et)/\P.underlying kt=some (.int kk)/\b8 P et=some zv/\z=lift zv:=by
 cases o with
 |lookup t u v c' =>
  simp only [res,a7,eK] at h
  split at h
  ·rename_i kt et hu
   split at h
   ·rename_i kk zv hk hz
    simp only [Option.some.injEq,cB.look.injEq] at h
    obtain⟨rfl,rfl,rfl,rfl⟩:=h
    exact⟨_,_,_,_,_,_,_,rfl,rfl,rfl,hu,hk,hz,rfl⟩
   all_goals cases h
  ·cases h
 |_ =>
  simp only [res] at h
  repeat' split at h
  all_goals cases h
theorem ad.look {z:AV}{c:Bool}{x i:QO}{k:Nat}{es:List (Value × AV)}{m:Int}(hx:x.ev α.tm=.mp k) (hS:S.get k=some (.mp es)) (hk:ji es) (hi:i.ev α.tm=.v (.int .i64 m)) :
  ad P w0 false (.look z c x i) α S (match lu es m with|some a=>(if c then .aC [a,.v (.bool true)] else a)|none=>(if c then .aC [z,.v (.bool false)] else z)) S:=ad.run fun n o hr=>by
 obtain⟨t,u,v,kt,et,kk,zv,ho,rfl,rfl,h1,h2,h3,rfl⟩:=wc hr
 rw [aD] at hx hi
 exact KC ho h1 h2 h3 hx hS hk hi
theorem we {o:Op}{x i b:QO}(h:res P.toTables o=some (.gQ x i b)):∃ t u v y kt et kk,o=.mapUpdate t u v y/\x=qo u/\i=qo v/\b=qo y/\P.underlying t=some (.map kt et)/\P.underlying kt=some (.int kk):=by
 cases o with
 |mapUpdate t u v y =>
  simp only [res,a7] at h
  split at h
  ·rename_i kt et hu
   split at h
   ·rename_i kk hk
    simp only [Option.some.injEq,cB.gQ.injEq] at h
    obtain⟨rfl,rfl,rfl⟩:=h
    exact⟨_,_,_,_,_,_,_,rfl,rfl,rfl,rfl,hu,hk⟩
   all_goals cases h
  ·cases h
 |_ =>
  simp only [res] at h
  repeat' split at h
  all_goals cases h
theorem ad.gQ {x i b:QO}{k:Nat}{es:List (Value × AV)}{m:Int}{a:AV}(hx:x.ev α.tm=.mp k) (hS:S.get k=some (.mp es)) (hk:ji es) (hi:i.ev α.tm=.v (.int .i64 m)) (hb:b.ev α.tm=a) :
  ad P w0 false (.gQ x i b) α S (.v undef) (S.set k (some (.mp (pX es m a)))):=ad.run fun n o hr=>by
 obtain⟨t,u,v,y,kt,et,kk,ho,rfl,rfl,rfl,h1,h2⟩:=we hr
 rw [aD] at hx hi hb
 exact AY ho h1 h2 hx hS hk hi hb
variable {ρ:Hd}{T:Type}{f:T->AV}{kv:List (Int × T)}
theorem ab.look {d:Option Nat}{g:Option (Nat × Bool)}{z:AV}{c:Bool}{x i:QO}{k:Nat}{m:Int}(hw:bB α.tm g=some true) (hx:x.ev α.tm=.mp k) (hS:S.get k=some (.mp (ρ.h (cu f) kv))) (hi:i.ev α.tm=.v (.int .i64 m))
  (k1:∀ v,ao kv m=some v->ab P w0 rd n Q (.aR false l K) (bJ d α (if c then .aC [f v,.v (.bool true)] else f v)) S) (k2:ao kv m=none->ab P w0 rd n Q (.aR false l K) (bJ d α (if c then .aC [z,.v (.bool false)] else z)) S) :
  ab P w0 rd n Q (.aR false (⟨d,g,.look z c x i⟩::l) K) α S:=by
 have h:=ad.look (P:=P) (w0:=w0) (z:=z) (c:=c) hx hS (by rw [ρ.eq];exact lS) hi
 rw [ρ.eq,pz] at h
 refine ab.op (i:=⟨d,g,.look z c x i⟩) hw h ?_
 cases hl:ao kv m with
 |some v=>exact k1 v hl
 |none=>exact k2 hl
theorem ab.gQ {d:Option Nat}{g:Option (Nat × Bool)}{x i b:QO}{k:Nat}{m:Int}{v:T}(hw:bB α.tm g=some true) (hx:x.ev α.tm=.mp k) (hS:S.get k=some (.mp (ρ.h (cu f) kv))) (hi:i.ev α.tm=.v (.int .i64 m)) (hb:b.ev α.tm=f v)
  (k1:∀ pA,pA=ee kv m v->ab P w0 rd n Q (.aR false l K) (bJ d α (.v undef)) (S.set k (some (.mp (ρ.h (cu f) pA))))):ab P w0 rd n Q (.aR false (⟨d,g,.gQ x i b⟩::l) K) α S:=by
 have h:=ad.gQ (P:=P) (w0:=w0) hx hS (by rw [ρ.eq];exact lS) hi hb
 rw [ρ.eq,wb,<-ρ.eq (cu f)] at h
 exact ab.op (i:=⟨d,g,.gQ x i b⟩) hw h (k1 _ rfl)
theorem ab.ft {d:Option Nat}{g:Option (Nat × Bool)}(ρ:Hd) (f:T->AV) (hw:bB α.tm g=some true) (k1:∀ kv:List (Int × T),kv=[]->ab P w0 rd n Q (.aR false l K) (bJ d α (.mp S.nx)) (S.new (.mp (ρ.h (cu f) kv)))):ab P w0 rd n Q (.aR false (⟨d,g,.ft none⟩::l) K) α S:=by
 have h:=k1 [] rfl
 rw [ρ.eq] at h
 exact ab.op (i:=⟨d,g,.ft none⟩) hw ad.ft h
end
section
variable {ι:Nat->Nat}{M:Nat}
theorem Rn.pure {a:AV}(h:Pure a):Rn ι M a a:=fun g w x hr=>aA.pure (g:=g) (g':=g.pre ι M) (fun _ _ h=>h) (fun _ _ _=>rfl) hr h
theorem Rn.gr {j k sz len:Nat}(h:k=ι j) (hj:Nat.blt j M=true):Rn ι M (.gr k sz len) (.gr j sz len):=fun g w x hr=>by
 subst h
 cases hr with
 |ia=>exact .ia
 |gr hk hx hle=>exact .gr (g:=g.pre ι M) (k:=j) ⟨c_ hj,hk⟩ hx hle
theorem Rn.pt {j k sz i q:Nat}(h:k=ι j) (hj:Nat.blt j M=true):Rn ι M (.pt k sz i q) (.pt j sz i q):=fun g w x hr=>by
 subst h
 cases hr with
 |pt hk=>exact .pt (g:=g.pre ι M) (k:=j) ⟨c_ hj,hk⟩
theorem Rn.mp {j k:Nat}(h:k=ι j) (hj:Nat.blt j M=true):Rn ι M (.mp k) (.mp j):=fun g w x hr=>by
 subst h
 cases hr with
 |mp hk=>exact .mp (g:=g.pre ι M) (k:=j) ⟨c_ hj,hk⟩
def vu (ι:Nat->Nat) (M:Nat):List AV->List AV->Prop
 |[],[]=>True
 |a::l,b::m=>Rn ι M a b/\vu ι M l m
 |_,_=>False
theorem vu.at:∀ {l m:List AV},vu ι M l m->l.length=m.length/\∀ (i:Nat) (b:AV),m[i]?=some b->∃ a,l[i]?=some a/\Rn ι M a b
 |[],[],_=>⟨rfl,fun i b h=>by simp at h⟩
 |a::l,b::m,hc=>⟨by simp [hc.2.at.1],fun i c h=>by
  cases i with
  |zero=>simp at h;subst h;exact⟨a,rfl,hc.1⟩
  |succ i=>simp at h;obtain⟨d,h1,h2⟩:=hc.2.at.2 i c h;exact⟨d,by simpa using h1,h2⟩⟩
 |[],_::_,h=>h.elim
 |_::_,[],h=>h.elim
theorem kJ.pure {sz fz:Nat}{rows:List (List AV)}{ex:Bool}(h:∀ row ∈ rows,∀ a ∈ row,Pure a):kJ ι M (.arr sz rows fz ex) (.arr sz rows fz ex):=by
 refine⟨fun g w b cp hr=>?_,fun J h=>by cases h⟩
 obtain⟨cs,ty,h1,h2,h3,h4,h5,h6,h7⟩:=hr
 refine⟨cs,ty,h1,h2,h3,h4,fun i row hr=>⟨(h5 i row hr).1,fun j a ha=>?_⟩,h6,h7⟩
 obtain⟨x,hx,cK⟩:=(h5 i row hr).2 j a ha
 exact⟨x,hx,Rn.pure (h _ (List.mem_of_getElem? hr) _ (List.mem_of_getElem? ha)) g w x cK⟩
theorem kJ.row {sz fz:Nat}{r0 r1:List AV}{ex:Bool}(h:vu ι M r0 r1):kJ ι M (.arr sz [r0] fz ex) (.arr sz [r1] fz ex):=by
 refine⟨fun g w b cp hr=>?_,fun J h=>by cases h⟩
 obtain⟨cs,ty,h1,h2,h3,h4,h5,h6,h7⟩:=hr
 refine⟨cs,ty,h1,h2,h3,h4,fun i row hr=>?_,h6,h7⟩
 cases i with
 |succ i=>simp at hr
 |zero =>
  simp at hr
  subst hr
  obtain⟨q1,q2⟩:=h5 0 r0 rfl
  refine⟨by rw [<-h.at.1];exact q1,fun j a ha=>?_⟩
  obtain⟨a0,e1,e2⟩:=h.at.2 j a ha
  obtain⟨x,hx,cK⟩:=q2 j a0 e1
  exact⟨x,hx,e2 g w x cK⟩
theorem kJ.mp {es:List (Value × AV)}(h:∀ e ∈ es,Pure e.2):kJ ι M (.mp es) (.mp es):=by
 refine⟨fun g w b cp hr=>?_,fun J h=>by cases h⟩
 obtain⟨entries,clock,h1,h2,h3⟩:=hr
 refine⟨entries,clock,h1,h2,fun i k a ha=>?_⟩
 obtain⟨e,he,hk,hr⟩:=h3 i k a ha
 exact⟨e,he,hk,Rn.pure (h _ (List.mem_of_getElem? ha)) g w _ hr⟩
theorem Rb.pure {a:AV}(h:Pure a):Rb ι a a:=fun gc g w x hB hr=>aA.pure (g:=gc) (g':=g) (fun b q hq=>by rw [hB.fz];exact hq) (fun _ _ _=>rfl) hr h
theorem Rb.gr {j k sz len:Nat}(h:k=ι j):Rb ι (.gr j sz len) (.gr k sz len):=fun gc g w x hB hr=>by
 subst h
 cases hr with
 |ia=>exact .ia
 |gr hk hx hle=>rw [<-hB.ob j hk];exact .gr (hB.al j hk) (by rw [hB.cp j hk];exact hx) hle
theorem Rb.pt {j k sz i q:Nat}(h:k=ι j):Rb ι (.pt j sz i q) (.pt k sz i q):=fun gc g w x hB hr=>by
 subst h
 cases hr with
 |pt hk=>rw [<-hB.ob j hk];exact .pt (hB.al j hk)
theorem Rb.mp {j k:Nat}(h:k=ι j):Rb ι (.mp j) (.mp k):=fun gc g w x hB hr=>by
 subst h
 cases hr with
 |mp hk=>rw [<-hB.ob j hk];exact .mp (hB.al j hk)
theorem Rb.ob {j k sz off len:Nat}{cx:Option Nat}(h:k=ι j):Rb ι (.ob j sz off len cx) (.ob k sz off len cx):=fun gc g w x hB hr=>by
 subst h
 cases hr with
 |ob hk hc hp hx hle=>rw [<-hB.ob j hk];exact .ob (hB.al j hk) hc (by rw [hB.cp j hk];exact hp) (by rw [hB.cp j hk];exact hx) hle
def NH (ι:Nat->Nat):List AV->List AV->Prop
 |[],[]=>True
 |a::l,b::m=>Rb ι a b/\NH ι l m
 |_,_=>False
theorem NH.at:∀ {l m:List AV},NH ι l m->l.length=m.length/\∀ (i:Nat) (b:AV),m[i]?=some b->∃ a,l[i]?=some a/\Rb ι a b
 |[],[],_=>⟨rfl,fun i b h=>by simp at h⟩
 |a::l,b::m,hc=>⟨by simp [hc.2.at.1],fun i c h=>by
  cases i with
  |zero=>simp at h;subst h;exact⟨a,rfl,hc.1⟩
  |succ i=>simp at h;obtain⟨d,h1,h2⟩:=hc.2.at.2 i c h;exact⟨d,by simpa using h1,h2⟩⟩
 |[],_::_,h=>h.elim
 |_::_,[],h=>h.elim
theorem l_.pure {sz fz:Nat}{rows:List (List AV)}{ex:Bool}(h:∀ row ∈ rows,∀ a ∈ row,Pure a):l_ ι (.arr sz rows fz ex) (.arr sz rows fz ex):=by
 refine⟨fun gc g w b cp hB _ hr=>?_,fun J h=>by cases h⟩
 obtain⟨cs,ty,h1,h2,h3,h4,h5,h6,h7⟩:=hr
 refine⟨cs,ty,h1,h2,h3,h4,fun i row hr=>⟨(h5 i row hr).1,fun j a ha=>?_⟩,h6,by rw [hB.fz];exact h7⟩
 obtain⟨x,hx,cK⟩:=(h5 i row hr).2 j a ha
 exact⟨x,hx,Rb.pure (h _ (List.mem_of_getElem? hr) _ (List.mem_of_getElem? ha)) gc g w x hB cK⟩
theorem l_.row {sz fz:Nat}{r0 r1:List AV}{ex:Bool}(h:NH ι r0 r1):l_ ι (.arr sz [r0] fz ex) (.arr sz [r1] fz ex):=by
 refine⟨fun gc g w b cp hB _ hr=>?_,fun J h=>by cases h⟩
 obtain⟨cs,ty,h1,h2,h3,h4,h5,h6,h7⟩:=hr
 refine⟨cs,ty,h1,h2,h3,h4,fun i row hr=>?_,h6,by rw [hB.fz];exact h7⟩
 cases i with
 |succ i=>simp at hr
 |zero =>
  simp at hr
  subst hr
  obtain⟨q1,q2⟩:=h5 0 r0 rfl
  refine⟨by rw [<-h.at.1];exact q1,fun j a ha=>?_⟩
  obtain⟨a0,e1,e2⟩:=h.at.2 j a ha
  obtain⟨x,hx,cK⟩:=q2 j a0 e1
  exact⟨x,hx,e2 gc g w x hB cK⟩
theorem l_.mp {es:List (Value × AV)}(h:∀ e ∈ es,Pure e.2):l_ ι (.mp es) (.mp es):=by
 refine⟨fun gc g w b cp hB _ hr=>?_,fun J h=>by cases h⟩
 obtain⟨entries,clock,h1,h2,h3⟩:=hr
 refine⟨entries,clock,h1,h2,fun i k a ha=>?_⟩
 obtain⟨e,he,hk,hr⟩:=h3 i k a ha
 exact⟨e,he,hk,Rb.pure (h _ (List.mem_of_getElem? ha)) gc g w _ hB hr⟩
end
def rD (f:Nat->Nat):List Nat->Bool
 |[]=>true
 |j::l=>l.all (fun i=>!Nat.beq (f i) (f j)) && rD f l
theorem DV {f:Nat->Nat}:∀ {l:List Nat},rD f l=true->∀ i j,i ∈ l->j ∈ l->f i=f j->i=j
 |[],_,i,j,h,_,_=>by cases h
 |a::l,hd,i,j,hi,hj,e=>by
  simp only [rD,Bool.and_eq_true,List.all_eq_true,Bool.not_eq_true'] at hd
  have ne:∀ x ∈ l,f x ≠ f a:=fun x hx h=>by
   have:=hd.1 x hx
   rw [h,Nat.beq_refl] at this
   cases this
  rcases List.mem_cons.1 hi with h1|h1
  ·rcases List.mem_cons.1 hj with h2|h2
   ·rw [h1,h2]
   ·exact absurd (by rw [<-e,h1]) (ne _ h2)
  ·rcases List.mem_cons.1 hj with h2|h2
   ·exact absurd (by rw [e,h2]) (ne _ h1)
   ·exact DV hd.2 i j h1 h2 e
def jk (ι:Nat->Nat) (M:Nat) (T:aa):List (Nat × Ob)->Prop
 |[]=>True
 |p::l=>(∃ bm,T.get (ι p.1)=some bm/\kJ ι M bm p.2)/\jk ι M T l
def iL (o:Nat->Nat) (so:List (Nat × Ob)):List (Nat × Option Ob)->Prop
 |[]=>True
 |(k,none)::l=>iL o so l
 |(k,some dv)::l=>(∃ j p,o j=k/\cM so j=some p/\l_ o p dv)/\iL o so l
theorem jk.mem {ι:Nat->Nat}{M:Nat}{T:aa}:∀ {l:List (Nat × Ob)},jk ι M T l->∀ p ∈ l,∃ bm,T.get (ι p.1)=some bm/\kJ ι M bm p.2
 |[],_,p,h=>by cases h
 |q::l,hc,p,h=>by
  rcases List.mem_cons.1 h with rfl|h
  ·exact hc.1
  ·exact hc.2.mem p h
theorem iL.mem {o:Nat->Nat}{so:List (Nat × Ob)}:∀ {l:List (Nat × Option Ob)},iL o so l->∀ k dv,(k,some dv) ∈ l->∃ j p,o j=k/\cM so j=some p/\l_ o p dv
 |[],_,k,dv,h=>by cases h
 |(a,none)::l,hc,k,dv,h=>by
  rcases List.mem_cons.1 h with h|h
  ·cases h
  ·exact iL.mem (l:=l) hc k dv h
 |(a,some b)::l,hc,k,dv,h=>by
  rcases List.mem_cons.1 h with h|h
  ·injection h with h1 h2;injection h2 with h2;subst h1 h2;exact hc.1
  ·exact iL.mem (l:=l) hc.2 k dv h
def rE:List (Nat × Ob)->Bool
 |[]=>true
 |(_,.fo _)::_=>false
 |_::l=>rE l
theorem DW:∀ {l:List (Nat × Ob)}{j:Nat}{J:FoJ},rE l=true->cM l j ≠ some (.fo J)
 |[],j,J,_,h=>by cases h
 |(a,o)::l,j,J,hn,h=>by
  have hl:rE l=true:=by cases o<;>first|exact hn|cases hn
  simp only [cM] at h
  split at h
  ·obtain rfl:=Option.some.inj h;cases hn
  ·exact DW hl h
section
variable {P:Program}{w0:World}{rd:Bool}{n:Nat}{α:AA}{T:aa}{Q:Exit->AA->aa->Prop}{K:List ig}{l:List QI}
theorem K1 {m:List (Nat × Nat)}{N N':Nat}{so so':List (Nat × Ob)}{to:List (Nat × Option Ob)}(hi:rD (aN m) (List.range N)=true) (aB:(List.range N).all (fun j=>Nat.blt (aN m j) T.nx)=true)
  (hS:jk (aN m) N T so) (hT:iL (da (aN m) N T.nx) so' to) (hc:(List.range N).all (fun j=>(to.map (·.1)).contains (aN m j))=true) (kL:to.all (fun p=>true)=true) (mO:∀ k o,T.get k=some o->k < T.nx) :
  na (aN m) (au so N) (au so' N') T ⟨cR T.get to,T.nx+N'⟩:=by
 refine⟨fun i j h1 h2 e=>DV hi i j (List.mem_range.2 h1) (List.mem_range.2 h2) e,fun j hj=>c_ (List.all_eq_true.1 aB j (List.mem_range.2 hj)),fun j o ho=>hS.mem _ (dY ho),fun k dv hk=>?_,.inl rfl⟩
 ·have hk:cR T.get to k=some dv:=hk
  have key:∀ {l:List (Nat × Option Ob)},cR T.get l k=some dv->(k,some dv) ∈ l\/(k ∉ l.map (·.1)/\T.get k=some dv):=by
   intro l
   induction l with
   |nil=>exact fun h=>.inr ⟨by simp,h⟩
   |cons p l ih =>
    intro h
    rw [cR] at h
    by_cases e:k=p.1
    ·rw [e,ah] at h
     exact .inl (by rw [e,<-h];simp)
    ·rw [aq _ _ e] at h
     rcases ih h with h1|⟨h1,h2⟩
     ·exact .inl (by simp [h1])
     ·exact .inr ⟨by simp only [List.map_cons,List.mem_cons,not_or];exact⟨e,h1⟩,h2⟩
  rcases key hk with h|⟨h1,h2⟩
  ·obtain⟨j,p,e1,e2,e3⟩:=hT.mem k dv h
   exact .inl ⟨j,p,e1,e2,e3⟩
  ·refine .inr ⟨mO k dv h2,fun j hj e=>h1 ?_,h2⟩
   have:=List.all_eq_true.1 hc j (List.mem_range.2 hj)
   rw [<-e]
   simpa using this
theorem DX {m:List (Nat × Nat)}{N N':Nat}{so so':List (Nat × Ob)}{to:List (Nat × Option Ob)}(hi:rD (aN m) (List.range N)=true) (aB:(List.range N).all (fun j=>Nat.blt (aN m j) T.nx)=true)
  (hS:jk (aN m) N T so) (hT:iL (da (aN m) N T.nx) so' to) (hc:(List.range N).all (fun j=>(to.map (·.1)).contains (aN m j))=true) (kL:to.all (fun p=>true)=true) (mO:∀ k o,T.get k=some o->k < T.nx)
  (hf:(∀ k J,T.get k=some (.fo J)->∃ j,j < N/\aN m j=k)\/rE so'=true):Fits (aN m) (au so N) (au so' N') T ⟨cR T.get to,T.nx+N'⟩:=by
 have h:=K1 (N':=N') hi aB hS hT hc kL mO
 refine⟨h.inj,h.lt,h.hS,h.hT,h.nx,?_⟩
 rcases hf with h|h
 ·exact .inl h
 ·exact .inr fun j J=>DW h
theorem ad.rF {f:QO}{aZ9:List QO}{g:FuncId}{args dB:List AV}{r lE:AV}{m:List (Nat × Nat)}{N N':Nat}{so so':List (Nat × Ob)}{to:List (Nat × Option Ob)}(cA:aE P w0 g args (au so N) r (au so' N'))
  (h:dZ (f.ev α.tm) (aZ9.map (·.ev α.tm))=some (g,dB)) (ha:vu (aN m) N dB args) (hr:Rb (da (aN m) N T.nx) r lE)
  (hi:rD (aN m) (List.range N)=true) (aB:(List.range N).all (fun j=>Nat.blt (aN m j) T.nx)=true) (hS:jk (aN m) N T so) (hT:iL (da (aN m) N T.nx) so' to) (hc:(List.range N).all (fun j=>(to.map (·.1)).contains (aN m j))=true)
  (mO:∀ k o,T.get k=some o->k < T.nx) (hf:(∀ k J,T.get k=some (.fo J)->∃ j,j < N/\aN m j=k)\/rE so'=true):ad P w0 false (.call f aZ9) α T lE ⟨cR T.get to,T.nx+N'⟩ :=
 ad.call h (cA.frame (DX hi aB hS hT hc (by simp) mO hf) ha.at.1 (fun i a b h1 h2=>by
  obtain⟨a',h3,h4⟩:=ha.at.2 i b h2
  rw [h3] at h1
  rw [<-Option.some.inj h1];exact h4) hr) fun e=>by cases e
end
def il:List Nat->(Nat->AV)->Nat->AV
 |[],f=>fun _=>.u
 |t::G,f=>match f t with|.u=>il G f|a=>aX (il G f) t a
theorem th:∀ (G:List Nat) (f:Nat->AV) (s:Nat),il G f s=f s\/il G f s=.u
 |[],f,s=>.inr rfl
 |t::G,f,s=>by
  have ih:=th G f s
  have key:il (t::G) f=il G f\/il (t::G) f=aX (il G f) t (f t):=by
   rw [il]
   cases f t with
   |u=>exact .inl rfl
   |_=>exact .inr rfl
  rcases key with h|h<;>rw [h]
  ·exact ih
  ·by_cases h:s=t
   ·subst h;rw [ah];exact .inl rfl
   ·rw [aq _ _ h];exact ih
def wg (G:List Nat):Nat->QF->AA->aa->QF × AA × aa
 |0,c,α,S=>(c,α,S)
 |m+1,c,α,S=>match c with
  |.out .normal (.seq b::K)=>match α with|⟨f,d⟩=>wg G m (.run b K) ⟨il G f,d⟩ S
  |c=>match sY c α S with
   |some (c',ag,S')=>wg G m c' ag S'
   |none=>(c,α,S)
section
variable {P:Program}{w0:World}{rd:Bool}{n:Nat}{Q:Exit->AA->aa->Prop}
theorem Cv.prune (G:List Nat) {α:AA}{S:aa}:Cv w0 n α S ⟨il G α.tm,α.df⟩ S:=by
 intro A g a w hS hA
 refine⟨g,hS,?_,Ext.refl A g w⟩
 refine⟨hA.size,fun t ht=>?_,fun t ht=>?_,hA.df,hA.oN⟩
 ·rcases th G α.tm t with h|h
  ·show aA g w (il G α.tm t) _
   rw [h];exact hA.tm t ht
  ·show aA g w (il G α.tm t) _
   rw [h];exact .u
 ·show il G α.tm t=.u
  rcases th G α.tm t with h|h
  ·rw [h];exact hA.out t ht
  ·exact h
theorem rG (G:List Nat):∀ {m:Nat}{cf oK:QF}{α ag:AA}{S S':aa},wg G m cf α S=(oK,ag,S')->ab P w0 rd n Q oK ag S'->ab P w0 rd n Q cf α S
 |0,cf,oK,α,ag,S,S',h,k=>by
  simp only [wg,Prod.mk.injEq] at h
  obtain⟨rfl,rfl,rfl⟩:=h
  exact k
 |m+1,cf,oK,α,ag,S,S',h,k=>by
  unfold wg at h
  split at h
  ·rename_i b K
   cases α
   exact ab.cv (c:=b) (K:=K) (Cv.prune G) (rG (m:=m) G h k)
  ·split at h
   ·rename_i c1 a1 s1 hm
    exact I3 hm (rG G h k)
   ·simp only [Prod.mk.injEq] at h
    obtain⟨rfl,rfl,rfl⟩:=h
    exact k
theorem ab.goG (G:List Nat) (m:Nat) {cf oK:QF}{α ag:AA}{S S':aa}(h:wg G m cf α S=(oK,ag,S')) (k:ab P w0 rd n Q oK ag S'):ab P w0 rd n Q cf α S:=rG G h k
end
section
variable {P:Program}{w0:World}{α:AA}{S:aa}
theorem ad.raw {op:BinOp}{isB:BK}{x y:QO}{k k':IntKind}{a b:Int}{r:Value}(h1:x.ev α.tm=.v (.int k a)) (h2:y.ev α.tm=.v (.int k' b)) (hq:op ≠ .eql) (hn:op ≠ .neq)
  (h:∀ (t:TypeId) (w:World),(binOp op t (.int k a) (.int k' b)).run P w=.ok r w):ad P w0 false (.bin op isB x y) α S (.v r) S:=by
 refine ad.run fun n o hr=>?_
 obtain⟨t,u,v,s,ho,rfl,rfl,hB⟩:=mT hr
 rw [aD] at h1 h2
 refine aI.quiet fun A g q w hS hA=>?_
 have e1:=hA.ev u
 have e2:=hA.ev v
 rw [h1] at e1
 rw [h2] at e2
 refine⟨_,?_,.v⟩
 have hg:∀ (u v:Operand) (x y:Value),eqGuard op t u v x y=pure ():=by
  intro u v x y
  cases op<;>first|rfl|exact absurd rfl hq|exact absurd rfl hn
 simp [execOp,ho,bg e1,bg e2,hg,h]
end
section
set_option maxRecDepth 100000
open Go.ChangeShapes Go.WideShapes Go.ChangeAt Go.RowKit
theorem laidOut:laidOutB Tryz.prog=true:=by kernel_rfl
theorem Di:mapsRowed Tryz.prog=true:=by kernel_rfl
theorem Qy:Tryz.prog.stopsHeard=true:=by kernel_rfl
theorem Qz:Tryz.prog.mayEnter=true:=by kernel_rfl
theorem cV {a b:Bool}(h:a=true) (k:b=true):(a && b)=true:=by rw [h,k];rfl
end
end Go.Proofs.YtgjfgekaclobaaaGreat
