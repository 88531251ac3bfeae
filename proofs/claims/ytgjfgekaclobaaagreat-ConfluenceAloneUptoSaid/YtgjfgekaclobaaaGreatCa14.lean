import Derived.ChangeArms
import Derived.OpenShut
import Derived.ProofKit
import Derived.Test.YtgjfgekaclobaaaGreatRows
import Derived.Test.YtgjfgekaclobaaaGreatCa13
namespace Go.Proofs.YtgjfgekaclobaaaGreat
set_option linter.unusedVariables false
set_option linter.unusedSimpArgs false
open Go.RowKit
def g0 (w:World):Gh:=⟨fun _=>0,fun _=>0,fun _=>False,fun b _=>b < w.heap.size,fun _ _=>False⟩
def cW (P:Program) (n:Nat) (t:TypeId) (sz:Nat) {α:Type}(lay:α->List AV) (μ:α->Nat):Prop :=
 ∀ (H:Type) (enc:TypeId × Value->H) (w:World) (sp:Nat->Bool) (held:Bool) (m:Nat),m < n->∀ (cs:List Value) (d:DataW H × List MemPlace),cs.length=sz->DataW.trod enc P w 0 sp held m t cs=some d ->
  ∃ x,μ x<=Rows.uptoBulk d.1/\(lay x).length=sz/\∀ (j:Nat) (a:AV) (v:Value),(lay x)[j]?=some a->cs[j]?=some v->aH (g0 w) w a v
def eC {α:Type}(μ:α->Nat):List α->Nat
 |[]=>0
 |x::l=>μ x+eC μ l
theorem Ix {α H:Type}{μ:α->Nat}:∀ {l:List α}{ds:List (DataW H × List MemPlace)},l.length=ds.length->(∀ (i:Nat) (x:α) (e:DataW H × List MemPlace),l[i]?=some x->ds[i]?=some e->μ x<=Rows.uptoBulk e.1)->eC μ l<=Rows.uptoBulkAll (ds.map (·.1))
 |[],ds,_,_=>Nat.zero_le _
 |x::l,[],h,_=>by simp at h
 |x::l,e::ds,h,hk=>by
  rw [eC,List.map_cons,Rows.uptoBulkAll]
  have h1:=hk 0 x e rfl rfl
  have h2:=Ix (l:=l) (ds:=ds) (by simpa using h) fun i y z hy hz=>hk (i+1) y z (by simpa using hy) (by simpa using hz)
  omega
section
variable {P:Program}{n:Nat}{t:TypeId}{sz:Nat}
theorem cW.less {α:Type}{lay:α->List AV}{μ:α->Nat}{m:Nat}(h:cW P n t sz lay μ) (hm:m<=n):cW P m t sz lay μ:=fun H enc w sp held k hk=>h H enc w sp held k (by omega)
theorem cW.int (ht:P.underlying t=some (.int .i64)):cW P n t 1 cM (fun _=>1):=by
 intro H enc w sp held m _ cs d hl h
 obtain⟨z,rfl,rfl,hw⟩:=DataW.trod_int ht h
 refine⟨z,by simp only [Rows.uptoBulk];exact Nat.le_refl _,rfl,fun j a v ha hv=>?_⟩
 cases j with
 |zero=>simp [cM] at ha hv;subst ha hv;exact .v
 |succ j=>simp [cM] at ha
theorem cW.str (ht:P.underlying t=some .string):cW P n t 1 (fun s:ByteArray=>[AV.v (.string s)]) (fun s=>s.size+1):=by
 intro H enc w sp held m _ cs d hl h
 obtain⟨z,rfl,rfl,hw⟩:=DataW.trod_string ht h
 refine⟨z,by simp only [Rows.uptoBulk];exact Nat.le_refl _,rfl,fun j a v ha hv=>?_⟩
 cases j with
 |zero=>simp at ha hv;subst ha hv;exact .v
 |succ j=>simp at ha
theorem cW.slice {α:Type}{lay:α->List AV}{μ:α->Nat}{e:TypeId}(ht:P.underlying t=some (.slice e)) (bh:P.cellsOf e=sz) (Zp:0 < sz) (zl:cW P n e sz lay μ) :
  cW P (n+1) t 1 (fun l:List α=>[cE .plain lay false l]) (fun l=>eC μ l+1):=by
 have ajJ:∀ l:List α,cE .plain lay false l=.sl false (l.map lay):=fun l=>cO
 simp only [ajJ]
 intro H enc w sp held m hm cs d hl h
 rcases DataW.trod_slice ht h with ⟨hv,hd⟩|⟨a,len,cap,elems,rest,k,hk,hv,hd,_,Oe,Zq,hlen,hi,_⟩
 ·subst hv
  refine⟨[],by rw [hd];simp only [Rows.uptoBulk,eC];exact Nat.le_refl _,rfl,fun j b v hb hv=>?_⟩
  cases j with
  |zero=>simp at hb hv;subst hb hv;exact .nil (fun h=>by cases h)
  |succ j=>simp at hb
 ·have TT:0 < len->a.spot=none:=by
   intro h0
   have h3:=hi 0 h0
   rw [bh] at h3
   have h4:elems[0]?=some (elems[0]'(by omega)):=List.getElem?_eq_getElem (by omega)
   rw [h4] at h3
   obtain⟨cs',o_,_⟩:=Option.bind_eq_some_iff.1 h3
   obtain⟨_,an2,Zr⟩:=World.cells?_some o_
   have h5:=Zr 0 Zp
   have h6:cs'[0]?=some (cs'[0]'(by omega)):=List.getElem?_eq_getElem (by omega)
   rw [h6] at h5
   simp only [Nat.zero_mul,Addr.add,if_true] at h5
   unfold World.cell? at h5
   split at h5
   ·split at h5
    ·cases h5
    ·rename_i hs;simpa using hs
   ·cases h5
  have key:∀ i,i < len->∃ x,(∀ e,elems[i]?=some e->μ x<=Rows.uptoBulk e.1)/\(lay x).length=sz/\∀ (j:Nat) (b:AV),(lay x)[j]?=some b->∃ v,w.cell? ⟨a.block,a.off+i*sz+j,none⟩=some v/\aH (g0 w) w b v:=by
   intro i hil
   have h1:=hi i hil
   rw [bh] at h1
   have h2:elems[i]?=some (elems[i]'(by omega)):=List.getElem?_eq_getElem (by omega)
   rw [h2] at h1
   obtain⟨cs,zk,htr⟩:=Option.bind_eq_some_iff.1 h1
   obtain⟨_,lf,kI⟩:=World.cells?_some zk
   obtain⟨x,hx,vW,hr⟩:=zl H enc w sp held k (by omega) cs _ lf htr
   refine⟨x,fun e he=>by rw [h2] at he;rw [<-oJ_ he];exact hx,vW,fun j b hb=>?_⟩
   have hj:j < sz:=by rw [<-vW];exact (List.getElem?_eq_some_iff.1 hb).1
   have hv:cs[j]?=some (cs[j]'(by omega)):=List.getElem?_eq_getElem (by omega)
   have h5:=kI j hj
   have hs:=TT (by omega)
   have ajK:(a.add (i*sz)).add j=⟨a.block,a.off+i*sz+j,none⟩:=by
    obtain⟨b',off,spot⟩:=a
    simp only at hs
    subst hs
    unfold Addr.add
    by_cases hz:i*sz=0<;>by_cases hj:j=0<;>simp [hz,hj]
   rw [ajK,hv] at h5
   exact⟨_,h5,hr j b _ hb hv⟩
  obtain⟨l,vX,mO⟩:∃ l:List α,l.length=len/\∀ i x,l[i]?=some x->(∀ e,elems[i]?=some e->μ x<=Rows.uptoBulk e.1)/\(lay x).length=sz/\∀ (j:Nat) (b:AV),(lay x)[j]?=some b->∃ v,w.cell? ⟨a.block,a.off+i*sz+j,none⟩=some v/\aH (g0 w) w b v:=by
   refine⟨(List.range len).attach.map (fun i=>Classical.choose (key i.1 (by simpa using i.2))),by simp,fun i x hx=>?_⟩
   simp only [List.getElem?_map,Option.map_eq_some_iff] at hx
   obtain⟨q,hq,rfl⟩:=hx
   have hik:q.1=i:=by
    have h1:((List.range len).attach.map Subtype.val)[i]?=some q.1:=by simp only [List.getElem?_map,hq,Option.map_some]
    rw [List.attach_map_subtype_val] at h1
    obtain⟨_,h2⟩:=List.getElem?_eq_some_iff.1 h1
    simpa using h2.symm
   rw [<-hik]
   exact Classical.choose_spec (key q.1 (by simpa using q.2))
  have hv':cs=[.slice (some a) len cap]:=by simpa using hv
  subst hv'
  refine⟨l,?_,rfl,fun j b v hb hv=>?_⟩
  ·rw [hd]
   have:=Ix (μ:=μ) (l:=l) (ds:=elems) (by omega) fun i x e hx he=>(mO i x hx).1 e he
   simp only [Rows.uptoBulk]
   omega
  ·cases j with
   |succ j=>simp at hb
   |zero =>
    simp at hb hv
    subst hb hv
    by_cases h0:l=[]
    ·subst h0
     simp at vX
     subst vX
     exact .nil (fun h=>by cases h)
    ·have hs:=TT (by rw [<-vX];exact List.length_pos_iff.2 h0)
     obtain⟨b',off,spot⟩:=a
     simp only at hs
     subst hs
     have Zs:len=(l.map lay).length:=by simp [vX]
     have row:∀ (i:Nat) (row:List AV),(l.map lay)[i]?=some row->row.length=sz/\∀ (j:Nat) (b:AV),row[j]?=some b->∃ v,w.cell? ⟨b',off+i*sz+j,none⟩=some v/\aH (g0 w) w b v:=by
      intro i row hr
      simp only [List.getElem?_map,Option.map_eq_some_iff] at hr
      obtain⟨x,hx,rfl⟩:=hr
      exact (mO i x hx).2
     rw [Zs]
     refine .sl (sz:=sz) (val:=fun i j=>(w.cell? ⟨b',off+(i*sz+j),none⟩).getD undef) (by simpa using h0) (fun h=>by cases h) (by rw [<-Zs];exact Oe) (fun i r hr=>(row i r hr).1) (fun i j r b hr hb=>?_) (fun i j r b hr hb=>?_)
     ·obtain⟨v,h1,h2⟩:=(row i r hr).2 j b hb
      rw [Nat.add_assoc] at h1
      exact⟨block_lt_of_cell h1,by rw [h1];rfl⟩
     ·obtain⟨v,h1,h2⟩:=(row i r hr).2 j b hb
      rw [Nat.add_assoc] at h1
      rw [h1]
      exact h2
theorem cW.fields {H:Type}{enc:TypeId × Value->H}{w:World}{sp:Nat->Bool}{held:Bool}{fs:Array Field}(ht:P.underlying t=some (.struct fs)) {fuel:Nat}{cs:List Value}{d:DataW H × List MemPlace}(h:DataW.trod enc P w 0 sp held fuel t cs=some d) :
  ∃ (n:Nat) (xs:List (DataW H × List MemPlace)),fuel=n+1/\xs.length=fs.size/\Rows.uptoBulk d.1=Rows.uptoBulkAll (xs.map (·.1))+1/\∀ (i ty off:Nat),(fs[i]?).map (fun f=>(f.type,f.offset))=some (ty,off)->∃ y,xs[i]?=some y/\DataW.trod enc P w 0 sp held n ty ((cs.drop off).take (P.cellsOf ty))=some y:=by
 obtain⟨xs,n,hn,hd,_,hl,hf⟩:=DataW.trod_struct ht h
 refine⟨n,xs,hn,hl,by rw [hd];simp only [Rows.uptoBulk],fun i ty off hi=>?_⟩
 obtain⟨f,fA,fC⟩:=Option.map_eq_some_iff.1 hi
 simp only [pI_] at fC
 obtain⟨rfl,rfl⟩:=fC
 have aA:i < fs.size:=(Array.getElem?_eq_some_iff.1 fA).1
 exact⟨xs[i]'(by omega),List.getElem?_eq_getElem (by omega),(hf i f fA).trans (List.getElem?_eq_getElem (by omega))⟩
theorem cW.part {α:Type}{H:Type}{enc:TypeId × Value->H}{w:World}{sp:Nat->Bool}{held:Bool}{lay:α->List AV}{μ:α->Nat}{m ty k off i:Nat}{cs:List Value}{xs:List (DataW H × List MemPlace)}(hR:cW P n ty k lay μ) (hm:m < n) (hk:P.cellsOf ty=k) (hlen:off+k<=cs.length)
  (h:∃ y,xs[i]?=some y/\DataW.trod enc P w 0 sp held m ty ((cs.drop off).take (P.cellsOf ty))=some y):∃ x,μ x<=((xs[i]?).map fun y=>Rows.uptoBulk y.1).getD 0/\(lay x).length=k/\∀ (j:Nat) (a:AV) (v:Value),(lay x)[j]?=some a->cs[off+j]?=some v->aH (g0 w) w a v:=by
 obtain⟨y,hy,h⟩:=h
 rw [hk] at h
 obtain⟨x,h1,h2,h3⟩:=hR H enc w sp held m hm _ y (by simp;omega) h
 refine⟨x,by rw [hy];exact h1,h2,fun j a v ha hv=>h3 j a v ha ?_⟩
 have hj:j < k:=by rw [<-h2];exact (List.getElem?_eq_some_iff.1 ha).1
 rw [List.getElem?_take,if_pos hj,List.getElem?_drop]
 exact hv
def mH {H:Type}(xs:List (DataW H × List MemPlace)):Nat->Nat
 |0=>0
 |k+1=>mH xs k+((xs[k]?).map fun y=>Rows.uptoBulk y.1).getD 0
theorem Bh {H:Type}{y:DataW H × List MemPlace}{xs:List (DataW H × List MemPlace)}:∀ k,mH (y::xs) (k+1)=Rows.uptoBulk y.1+mH xs k
 |0=>by simp [mH]
 |k+1=>by
  rw [mH,Bh k,mH]
  simp only [List.getElem?_cons_succ]
  omega
theorem l9 {H:Type}:∀ {xs:List (DataW H × List MemPlace)},mH xs xs.length=Rows.uptoBulkAll (xs.map (·.1))
 |[]=>rfl
 |y::xs=>by
  rw [List.length_cons,Bh,l9,List.map_cons,Rows.uptoBulkAll]
end
def cX {T:Type}(f:T->AV) (l:List (Int × T)):List (Value × AV):=l.map fun p=>(cn p.1,f p.2)
def aD {T:Type}:List (Int × T)->Int->Option T
 |[],_=>none
 |p::l,i=>if p.1=i then some p.2 else aD l i
def eV {T:Type}:List (Int × T)->Int->T->List (Int × T)
 |[],i,v=>[(i,v)]
 |p::l,i,v=>if p.1=i then (i,v)::l else p::eV l i v
theorem bZ {T:Type}{l:List (Int × T)}{i j:Int}{v:T}:aD (eV l i v) j=if i=j then some v else aD l j:=by
 induction l with
 |nil=>simp [eV,aD]
 |cons p l ih =>
  simp only [eV]
  by_cases h:p.1=i
  ·rw [if_pos h]
   by_cases e:i=j
   ·simp [aD,e]
   ·simp only [aD,if_neg e]
    rw [if_neg (by rw [h];exact e)]
  ·rw [if_neg h]
   simp only [aD]
   by_cases e:p.1=j
   ·rw [if_pos e,if_pos e,if_neg (by rw [<-e];exact fun h'=>h h'.symm)]
   ·rw [if_neg e,if_neg e,ih]
section
variable {T:Type}{f:T->AV}{l:List (Int × T)}
theorem nV:kN (cX f l):=fun p hp=>by
 obtain⟨q,_,rfl⟩:=List.mem_map.1 hp
 exact⟨_,rfl⟩
theorem sN (i:Int):nA (cX f l) i=(aD l i).map f:=by
 induction l with
 |nil=>rfl
 |cons p l ih =>
  simp only [cX,List.map_cons,nA,iC,cn,aD] at ih ⊢
  by_cases h:p.1=i
  ·simp [h]
  ·simp only [h,decide_false,if_false]
   rw [<-ih]
   cases iC (l.map fun p=>(Value.int .i64 p.1,f p.2)) i with
   |none=>rfl
   |some j=>simp
theorem z_ (i:Int) (v:T):tw (cX f l) i (f v)=cX f (eV l i v):=by
 induction l with
 |nil=>rfl
 |cons p l ih =>
  simp only [cX,List.map_cons,tw,iC,cn,eV] at ih ⊢
  by_cases h:p.1=i
  ·simp [h,cn]
  ·simp only [h,decide_false,if_false,List.map_cons]
   rw [<-ih]
   cases iC (l.map fun p=>(Value.int .i64 p.1,f p.2)) i with
   |none=>rfl
   |some j=>simp
end
section
variable {P:Program}{w0:World}{rd:Bool}{n B:Nat}{α:AA}{S S':ad}{Q:Exit->AA->ad->Prop}{r:AV}{l:List QI}{K:List fc}{V:List (Nat × Nat)}{lg:List (List Nat × List Nat × Bool)}{rs:List Nat}
theorem wS {o:Op}{x:Option QO}(h:res P.toTables o=some (.fk x)):∃ t y kt et,o=.makeMap t y/\x=y.map qo/\P.underlying t=some (.map kt et):=by
 cases o with
 |makeMap t y =>
  simp only [res,bF] at h
  split at h
  ·rename_i kt et hu
   simp only [oI_,dp.fk.injEq] at h
   exact⟨_,_,_,_,rfl,h.symm,hu⟩
  ·cases h
 |_ =>
  simp only [res] at h
  repeat' split at h
  all_goals cases h
theorem ae.fk:ae P w0 false (.fk none) α S (.mp S.nx) (S.new (.mp [])):=ae.run fun n o hr=>by
 obtain⟨t,y,kt,et,ho,hy,hu⟩:=wS hr
 cases y with
 |some y=>cases hy
 |none=>exact Of ho
theorem ae.Zt {x:QO}{kk:IntKind}{m:Int}(hx:x.ev α.tm=.v (.int kk m)):ae P w0 false (.fk (some x)) α S (.mp S.nx) (S.new (.mp [])):=ae.run fun n o hr=>by
 obtain⟨t,y,kt,et,ho,hy,hu⟩:=wS hr
 cases y with
 |none=>cases hy
 |some y =>
  obtain rfl:=oJ_ hy
  rw [aJ] at hx
  exact JR ho hu hx
theorem Aa {o:Op}{z:AV}{c:Bool}{x i:QO}(h:res P.toTables o=some (.look z c x i)):∃ t u v kt et kk zv,o=.lookup t u v c/\x=qo u/\i=qo v/\P.underlying t=some (.map kt et)/\P.underlying kt=some (.int kk)/\cU P et=some zv/\z=lift zv:=by
 cases o with
 |lookup t u v c' =>
  simp only [res,bF,gn] at h
  split at h
  ·rename_i kt et hu
   split at h
   ·rename_i kk zv hk hz
    simp only [oI_,dp.look.injEq] at h
    obtain⟨rfl,rfl,rfl,rfl⟩:=h
    exact⟨_,_,_,_,_,_,_,rfl,rfl,rfl,hu,hk,hz,rfl⟩
   all_goals cases h
  ·cases h
 |_ =>
  simp only [res] at h
  repeat' split at h
  all_goals cases h
theorem ae.look {z:AV}{c:Bool}{x i:QO}{k:Nat}{es:List (Value × AV)}{m:Int}(hx:x.ev α.tm=.mp k) (hS:S.get k=some (.mp es)) (hk:kN es) (hi:i.ev α.tm=.v (.int .i64 m)) :
  ae P w0 false (.look z c x i) α S (match nA es m with|some a=>(if c then .aE [a,.v (.bool true)] else a)|none=>(if c then .aE [z,.v (.bool false)] else z)) S:=ae.run fun n o hr=>by
 obtain⟨t,u,v,kt,et,kk,zv,ho,rfl,rfl,h1,h2,h3,rfl⟩:=Aa hr
 rw [aJ] at hx hi
 exact QD ho h1 h2 h3 hx hS hk hi
theorem Ac {o:Op}{x i b:QO}(h:res P.toTables o=some (.jf x i b)):∃ t u v y kt et kk,o=.mapUpdate t u v y/\x=qo u/\i=qo v/\b=qo y/\P.underlying t=some (.map kt et)/\P.underlying kt=some (.int kk):=by
 cases o with
 |mapUpdate t u v y =>
  simp only [res,bF] at h
  split at h
  ·rename_i kt et hu
   split at h
   ·rename_i kk hk
    simp only [oI_,dp.jf.injEq] at h
    obtain⟨rfl,rfl,rfl⟩:=h
    exact⟨_,_,_,_,_,_,_,rfl,rfl,rfl,rfl,hu,hk⟩
   all_goals cases h
  ·cases h
 |_ =>
  simp only [res] at h
  repeat' split at h
  all_goals cases h
theorem ae.jf {x i b:QO}{k:Nat}{es:List (Value × AV)}{m:Int}{a:AV}(hx:x.ev α.tm=.mp k) (hS:S.get k=some (.mp es)) (hk:kN es) (hi:i.ev α.tm=.v (.int .i64 m)) (hb:b.ev α.tm=a) :
  ae P w0 false (.jf x i b) α S (.v undef) (S.set k (some (.mp (tw es m a)))):=ae.run fun n o hr=>by
 obtain⟨t,u,v,y,kt,et,kk,ho,rfl,rfl,rfl,h1,h2⟩:=Ac hr
 rw [aJ] at hx hi hb
 exact Fx ho h1 h2 hx hS hk hi hb
variable {ρ:Hd}{T:Type}{f:T->AV}{kv:List (Int × T)}
theorem aa.look {d:Option Nat}{g:Option (Nat × Bool)}{z:AV}{c:Bool}{x i:QO}{k:Nat}{m:Int}(hw:bD α.tm g=some true) (hx:x.ev α.tm=.mp k) (hS:S.get k=some (.mp (ρ.h (cX f) kv))) (hi:i.ev α.tm=.v (.int .i64 m))
  (k1:∀ v,aD kv m=some v->aa P w0 rd n Q (.aU false l K) (bS d α (if c then .aE [f v,.v (.bool true)] else f v)) S) (k2:aD kv m=none->aa P w0 rd n Q (.aU false l K) (bS d α (if c then .aE [z,.v (.bool false)] else z)) S) :
  aa P w0 rd n Q (.aU false (⟨d,g,.look z c x i⟩::l) K) α S:=by
 have h:=ae.look (P:=P) (w0:=w0) (z:=z) (c:=c) hx hS (by rw [ρ.eq];exact nV) hi
 rw [ρ.eq,sN] at h
 refine aa.op (i:=⟨d,g,.look z c x i⟩) hw h ?_
 cases hl:aD kv m with
 |some v=>exact k1 v hl
 |none=>exact k2 hl
theorem aa.jf {d:Option Nat}{g:Option (Nat × Bool)}{x i b:QO}{k:Nat}{m:Int}{v:T}(hw:bD α.tm g=some true) (hx:x.ev α.tm=.mp k) (hS:S.get k=some (.mp (ρ.h (cX f) kv))) (hi:i.ev α.tm=.v (.int .i64 m)) (hb:b.ev α.tm=f v)
  (k1:∀ qz,qz=eV kv m v->aa P w0 rd n Q (.aU false l K) (bS d α (.v undef)) (S.set k (some (.mp (ρ.h (cX f) qz))))):aa P w0 rd n Q (.aU false (⟨d,g,.jf x i b⟩::l) K) α S:=by
 have h:=ae.jf (P:=P) (w0:=w0) hx hS (by rw [ρ.eq];exact nV) hi hb
 rw [ρ.eq,z_,<-ρ.eq (cX f)] at h
 exact aa.op (i:=⟨d,g,.jf x i b⟩) hw h (k1 _ rfl)
theorem aa.fk {d:Option Nat}{g:Option (Nat × Bool)}(ρ:Hd) (f:T->AV) (hw:bD α.tm g=some true) (k1:∀ kv:List (Int × T),kv=[]->aa P w0 rd n Q (.aU false l K) (bS d α (.mp S.nx)) (S.new (.mp (ρ.h (cX f) kv)))):aa P w0 rd n Q (.aU false (⟨d,g,.fk none⟩::l) K) α S:=by
 have h:=k1 [] rfl
 rw [ρ.eq] at h
 exact aa.op (i:=⟨d,g,.fk none⟩) hw ae.fk h
end
section
variable {ι:Nat->Nat}{M:Nat}
theorem Rn.pure {a:AV}(h:Pure a):Rn ι M a a:=fun g w x hr=>aH.pure (g:=g) (g':=g.pre ι M) (fun _ _ h=>h) (fun _ _ _=>rfl) hr h
theorem Rn.gr {j k sz len:Nat}(h:k=ι j) (hj:Nat.blt j M=true):Rn ι M (.gr k sz len) (.gr j sz len):=fun g w x hr=>by
 subst h
 cases hr with
 |ja=>exact .ja
 |gr hk hx hle=>exact .gr (g:=g.pre ι M) (k:=j) ⟨dC hj,hk⟩ hx hle
theorem Rn.pt {j k sz i q:Nat}(h:k=ι j) (hj:Nat.blt j M=true):Rn ι M (.pt k sz i q) (.pt j sz i q):=fun g w x hr=>by
 subst h
 cases hr with
 |pt hk=>exact .pt (g:=g.pre ι M) (k:=j) ⟨dC hj,hk⟩
theorem Rn.mp {j k:Nat}(h:k=ι j) (hj:Nat.blt j M=true):Rn ι M (.mp k) (.mp j):=fun g w x hr=>by
 subst h
 cases hr with
 |mp hk=>exact .mp (g:=g.pre ι M) (k:=j) ⟨dC hj,hk⟩
theorem Rn.yl {j k:Nat}(h:k=ι j) (hj:Nat.blt j M=true):Rn ι M (.yl k) (.yl j):=fun g w x hr=>by
 subst h
 cases hr with
 |yl hk=>exact .yl (g:=g.pre ι M) (k:=j) ⟨dC hj,hk⟩
def qA (ι:Nat->Nat) (M:Nat):List AV->List AV->Prop
 |[],[]=>True
 |a::l,b::m=>Rn ι M a b/\qA ι M l m
 |_,_=>False
theorem qA.at:∀ {l m:List AV},qA ι M l m->l.length=m.length/\∀ (i:Nat) (b:AV),m[i]?=some b->∃ a,l[i]?=some a/\Rn ι M a b
 |[],[],_=>⟨rfl,fun i b h=>by simp at h⟩
 |a::l,b::m,hc=>⟨by simp [hc.2.at.1],fun i c h=>by
  cases i with
  |zero=>simp at h;subst h;exact⟨a,rfl,hc.1⟩
  |succ i=>simp at h;obtain⟨d,h1,h2⟩:=hc.2.at.2 i c h;exact⟨d,by simpa using h1,h2⟩⟩
 |[],_::_,h=>h.elim
 |_::_,[],h=>h.elim
theorem Rn.fn {f:Fn}{l m l' m':List AV}(h:qA ι M l m) (k:qA ι M l' m'):Rn ι M (.fn f l l') (.fn f m m'):=fun g w x hr=>by
 cases hr with
 |fn h1 h2 h3 h4 =>
  refine .fn (h1.trans h.at.1) (h2.trans k.at.1) (fun i b y hb hy=>?_) (fun i b y hb hy=>?_)
  ·obtain⟨a,e1,e2⟩:=h.at.2 i b hb
   exact e2 g w y (h3 i a y e1 hy)
  ·obtain⟨a,e1,e2⟩:=k.at.2 i b hb
   exact e2 g w y (h4 i a y e1 hy)
theorem jY.pure {sz fz:Nat}{rows:List (List AV)}{ex:Bool}(h:∀ row ∈ rows,∀ a ∈ row,Pure a):jY ι M (.arr sz rows fz ex) (.arr sz rows fz ex):=by
 refine⟨fun g w b cp hr=>?_,fun J h=>by cases h⟩
 obtain⟨cs,ty,h1,h2,h3,h4,h5,h6,h7⟩:=hr
 refine⟨cs,ty,h1,h2,h3,h4,fun i row hr=>⟨(h5 i row hr).1,fun j a ha=>?_⟩,h6,h7⟩
 obtain⟨x,hx,dH⟩:=(h5 i row hr).2 j a ha
 exact⟨x,hx,Rn.pure (h _ (List.mem_of_getElem? hr) _ (List.mem_of_getElem? ha)) g w x dH⟩
theorem jY.row {sz fz:Nat}{r0 r1:List AV}{ex:Bool}(h:qA ι M r0 r1):jY ι M (.arr sz [r0] fz ex) (.arr sz [r1] fz ex):=by
 refine⟨fun g w b cp hr=>?_,fun J h=>by cases h⟩
 obtain⟨cs,ty,h1,h2,h3,h4,h5,h6,h7⟩:=hr
 refine⟨cs,ty,h1,h2,h3,h4,fun i row hr=>?_,h6,h7⟩
 cases i with
 |succ i=>simp at hr
 |zero =>
  simp at hr
  subst hr
  obtain⟨q1,q2⟩:=h5 0 r0 rfl
  refine⟨by rw [<-h.at.1];exact q1,fun j a ha=>?_⟩
  obtain⟨a0,e1,e2⟩:=h.at.2 j a ha
  obtain⟨x,hx,dH⟩:=q2 j a0 e1
  exact⟨x,hx,e2 g w x dH⟩
theorem jY.mp {es:List (Value × AV)}(h:∀ e ∈ es,Pure e.2):jY ι M (.mp es) (.mp es):=by
 refine⟨fun g w b cp hr=>?_,fun J h=>by cases h⟩
 obtain⟨entries,clock,h1,h2,h3⟩:=hr
 refine⟨entries,clock,h1,h2,fun i k a ha=>?_⟩
 obtain⟨e,he,hk,hr⟩:=h3 i k a ha
 exact⟨e,he,hk,Rn.pure (h _ (List.mem_of_getElem? ha)) g w _ hr⟩
theorem jY.fo {J:iq}:jY ι M (.fo J) (.fo J):=⟨fun g w b cp hr=>hr,fun J' h=>h⟩
theorem Rb.pure {a:AV}(h:Pure a):Rb ι a a:=fun gc g w x hB hr=>aH.pure (g:=gc) (g':=g) (fun b q hq=>by rw [hB.fz];exact hq) (fun _ _ _=>rfl) hr h
theorem Rb.gr {j k sz len:Nat}(h:k=ι j):Rb ι (.gr j sz len) (.gr k sz len):=fun gc g w x hB hr=>by
 subst h
 cases hr with
 |ja=>exact .ja
 |gr hk hx hle=>rw [<-hB.ob j hk];exact .gr (hB.al j hk) (by rw [hB.cp j hk];exact hx) hle
theorem Rb.pt {j k sz i q:Nat}(h:k=ι j):Rb ι (.pt j sz i q) (.pt k sz i q):=fun gc g w x hB hr=>by
 subst h
 cases hr with
 |pt hk=>rw [<-hB.ob j hk];exact .pt (hB.al j hk)
theorem Rb.mp {j k:Nat}(h:k=ι j):Rb ι (.mp j) (.mp k):=fun gc g w x hB hr=>by
 subst h
 cases hr with
 |mp hk=>rw [<-hB.ob j hk];exact .mp (hB.al j hk)
theorem Rb.ob {j k sz off len:Nat}{cx:Option Nat}(h:k=ι j):Rb ι (.ob j sz off len cx) (.ob k sz off len cx):=fun gc g w x hB hr=>by
 subst h
 cases hr with
 |ob hk hc hp hx hle=>rw [<-hB.ob j hk];exact .ob (hB.al j hk) hc (by rw [hB.cp j hk];exact hp) (by rw [hB.cp j hk];exact hx) hle
def Iy (ι:Nat->Nat):List AV->List AV->Prop
 |[],[]=>True
 |a::l,b::m=>Rb ι a b/\Iy ι l m
 |_,_=>False
theorem Iy.at:∀ {l m:List AV},Iy ι l m->l.length=m.length/\∀ (i:Nat) (b:AV),m[i]?=some b->∃ a,l[i]?=some a/\Rb ι a b
 |[],[],_=>⟨rfl,fun i b h=>by simp at h⟩
 |a::l,b::m,hc=>⟨by simp [hc.2.at.1],fun i c h=>by
  cases i with
  |zero=>simp at h;subst h;exact⟨a,rfl,hc.1⟩
  |succ i=>simp at h;obtain⟨d,h1,h2⟩:=hc.2.at.2 i c h;exact⟨d,by simpa using h1,h2⟩⟩
 |[],_::_,h=>h.elim
 |_::_,[],h=>h.elim
theorem kE.pure {sz fz:Nat}{rows:List (List AV)}{ex:Bool}(h:∀ row ∈ rows,∀ a ∈ row,Pure a):kE ι (.arr sz rows fz ex) (.arr sz rows fz ex):=by
 refine⟨fun gc g w b cp hB _ hr=>?_,fun J h=>by cases h⟩
 obtain⟨cs,ty,h1,h2,h3,h4,h5,h6,h7⟩:=hr
 refine⟨cs,ty,h1,h2,h3,h4,fun i row hr=>⟨(h5 i row hr).1,fun j a ha=>?_⟩,h6,by rw [hB.fz];exact h7⟩
 obtain⟨x,hx,dH⟩:=(h5 i row hr).2 j a ha
 exact⟨x,hx,Rb.pure (h _ (List.mem_of_getElem? hr) _ (List.mem_of_getElem? ha)) gc g w x hB dH⟩
theorem kE.row {sz fz:Nat}{r0 r1:List AV}{ex:Bool}(h:Iy ι r0 r1):kE ι (.arr sz [r0] fz ex) (.arr sz [r1] fz ex):=by
 refine⟨fun gc g w b cp hB _ hr=>?_,fun J h=>by cases h⟩
 obtain⟨cs,ty,h1,h2,h3,h4,h5,h6,h7⟩:=hr
 refine⟨cs,ty,h1,h2,h3,h4,fun i row hr=>?_,h6,by rw [hB.fz];exact h7⟩
 cases i with
 |succ i=>simp at hr
 |zero =>
  simp at hr
  subst hr
  obtain⟨q1,q2⟩:=h5 0 r0 rfl
  refine⟨by rw [<-h.at.1];exact q1,fun j a ha=>?_⟩
  obtain⟨a0,e1,e2⟩:=h.at.2 j a ha
  obtain⟨x,hx,dH⟩:=q2 j a0 e1
  exact⟨x,hx,e2 gc g w x hB dH⟩
theorem kE.mp {es:List (Value × AV)}(h:∀ e ∈ es,Pure e.2):kE ι (.mp es) (.mp es):=by
 refine⟨fun gc g w b cp hB _ hr=>?_,fun J h=>by cases h⟩
 obtain⟨entries,clock,h1,h2,h3⟩:=hr
 refine⟨entries,clock,h1,h2,fun i k a ha=>?_⟩
 obtain⟨e,he,hk,hr⟩:=h3 i k a ha
 exact⟨e,he,hk,Rb.pure (h _ (List.mem_of_getElem? ha)) gc g w _ hB hr⟩
theorem kE.fo {J:iq}:kE ι (.fo J) (.fo J):=⟨fun gc g w b cp hB hf hr=>⟨by rw [hB.fz,hf J rfl];exact hr.1,hr.2⟩,fun J' h=>h⟩
end
def qf (f:Nat->Nat):List Nat->Bool
 |[]=>true
 |j::l=>l.all (fun i=>!Nat.beq (f i) (f j)) && qf f l
theorem Iz {f:Nat->Nat}:∀ {l:List Nat},qf f l=true->∀ i j,i ∈ l->j ∈ l->f i=f j->i=j
 |[],_,i,j,h,_,_=>by cases h
 |a::l,hd,i,j,hi,hj,e=>by
  simp only [qf,Bool.and_eq_true,List.all_eq_true,Bool.not_eq_true'] at hd
  have ne:∀ x ∈ l,f x ≠ f a:=fun x hx h=>by
   have:=hd.1 x hx
   rw [h,Nat.beq_refl] at this
   cases this
  rcases List.mem_cons.1 hi with h1|h1
  ·rcases List.mem_cons.1 hj with h2|h2
   ·rw [h1,h2]
   ·exact absurd (by rw [<-e,h1]) (ne _ h2)
  ·rcases List.mem_cons.1 hj with h2|h2
   ·exact absurd (by rw [e,h2]) (ne _ h1)
   ·exact Iz hd.2 i j h1 h2 e
def ir (ι:Nat->Nat) (M:Nat) (T:ad):List (Nat × Ob)->Prop
 |[]=>True
 |p::l=>(∃ bW,T.get (ι p.1)=some bW/\jY ι M bW p.2)/\ir ι M T l
def gk (o:Nat->Nat) (so:List (Nat × Ob)):List (Nat × Option Ob)->Prop
 |[]=>True
 |(k,none)::l=>gk o so l
 |(k,some eA)::l=>(∃ j p,o j=k/\dF so j=some p/\kE o p eA)/\gk o so l
theorem ir.mem {ι:Nat->Nat}{M:Nat}{T:ad}:∀ {l:List (Nat × Ob)},ir ι M T l->∀ p ∈ l,∃ bW,T.get (ι p.1)=some bW/\jY ι M bW p.2
 |[],_,p,h=>by cases h
 |q::l,hc,p,h=>by
  rcases List.mem_cons.1 h with rfl|h
  ·exact hc.1
  ·exact hc.2.mem p h
theorem gk.mem {o:Nat->Nat}{so:List (Nat × Ob)}:∀ {l:List (Nat × Option Ob)},gk o so l->∀ k eA,(k,some eA) ∈ l->∃ j p,o j=k/\dF so j=some p/\kE o p eA
 |[],_,k,eA,h=>by cases h
 |(a,none)::l,hc,k,eA,h=>by
  rcases List.mem_cons.1 h with h|h
  ·cases h
  ·exact gk.mem (l:=l) hc k eA h
 |(a,some b)::l,hc,k,eA,h=>by
  rcases List.mem_cons.1 h with h|h
  ·injection h with h1 h2;injection h2 with h2;subst h1 h2;exact hc.1
  ·exact gk.mem (l:=l) hc.2 k eA h
def tz:List (Nat × Ob)->Bool
 |[]=>true
 |(_,.fo _)::_=>false
 |_::l=>tz l
theorem IA:∀ {l:List (Nat × Ob)}{j:Nat}{J:iq},tz l=true->dF l j ≠ some (.fo J)
 |[],j,J,_,h=>by cases h
 |(a,o)::l,j,J,hn,h=>by
  have hl:tz l=true:=by cases o<;>first|exact hn|cases hn
  simp only [dF] at h
  split at h
  ·obtain rfl:=oJ_ h;cases hn
  ·exact IA hl h
section
variable {P:Program}{w0:World}{rd:Bool}{n:Nat}{α:AA}{T:ad}{Q:Exit->AA->ad->Prop}{K:List fc}{l:List QI}
theorem Fy {m:List (Nat × Nat)}{N N':Nat}{so so':List (Nat × Ob)}{to:List (Nat × Option Ob)}(hi:qf (aN m) (List.range N)=true) (aA:(List.range N).all (fun j=>Nat.blt (aN m j) T.nx)=true)
  (hS:ir (aN m) N T so) (hT:gk (cV (aN m) N T.nx) so' to) (hc:(List.range N).all (fun j=>(to.map (·.1)).contains (aN m j))=true) (mQ:to.all (fun p=>true)=true) (o9:∀ k o,T.get k=some o->k < T.nx) :
  oh (aN m) (au so N) (au so' N') T ⟨dw T.get to,T.nx+N'⟩:=by
 refine⟨fun i j h1 h2 e=>Iz hi i j (List.mem_range.2 h1) (List.mem_range.2 h2) e,fun j hj=>dC (List.all_eq_true.1 aA j (List.mem_range.2 hj)),fun j o ho=>hS.mem _ (eO ho),fun k eA hk=>?_,.inl rfl⟩
 ·have hk:dw T.get to k=some eA:=hk
  have key:∀ {l:List (Nat × Option Ob)},dw T.get l k=some eA->(k,some eA) ∈ l\/(k ∉ l.map (·.1)/\T.get k=some eA):=by
   intro l
   induction l with
   |nil=>exact fun h=>.inr ⟨by simp,h⟩
   |cons p l ih =>
    intro h
    rw [dw] at h
    by_cases e:k=p.1
    ·rw [e,aq] at h
     exact .inl (by rw [e,<-h];simp)
    ·rw [aC _ _ e] at h
     rcases ih h with h1|⟨h1,h2⟩
     ·exact .inl (by simp [h1])
     ·exact .inr ⟨by simp only [List.map_cons,List.mem_cons,not_or];exact⟨e,h1⟩,h2⟩
  rcases key hk with h|⟨h1,h2⟩
  ·obtain⟨j,p,e1,e2,e3⟩:=hT.mem k eA h
   exact .inl ⟨j,p,e1,e2,e3⟩
  ·refine .inr ⟨o9 k eA h2,fun j hj e=>h1 ?_,h2⟩
   have:=List.all_eq_true.1 hc j (List.mem_range.2 hj)
   rw [<-e]
   simpa using this
theorem IB {m:List (Nat × Nat)}{N N':Nat}{so so':List (Nat × Ob)}{to:List (Nat × Option Ob)}(hi:qf (aN m) (List.range N)=true) (aA:(List.range N).all (fun j=>Nat.blt (aN m j) T.nx)=true)
  (hS:ir (aN m) N T so) (hT:gk (cV (aN m) N T.nx) so' to) (hc:(List.range N).all (fun j=>(to.map (·.1)).contains (aN m j))=true) (mQ:to.all (fun p=>true)=true) (o9:∀ k o,T.get k=some o->k < T.nx)
  (hf:(∀ k J,T.get k=some (.fo J)->∃ j,j < N/\aN m j=k)\/tz so'=true):Fits (aN m) (au so N) (au so' N') T ⟨dw T.get to,T.nx+N'⟩:=by
 have h:=Fy (N':=N') hi aA hS hT hc mQ o9
 refine⟨h.inj,h.lt,h.hS,h.hT,h.nx,?_⟩
 rcases hf with h|h
 ·exact .inl h
 ·exact .inr fun j J=>IA h
theorem ae.ou {f:QO}{aZ9:List QO}{g:FuncId}{args bG:List AV}{r gw:AV}{m:List (Nat × Nat)}{N N':Nat}{so so':List (Nat × Ob)}{to:List (Nat × Option Ob)}(bC:aK P w0 g args (au so N) r (au so' N'))
  (h:dM (f.ev α.tm) (aZ9.map (·.ev α.tm))=some (g,bG)) (ha:qA (aN m) N bG args) (hr:Rb (cV (aN m) N T.nx) r gw)
  (hi:qf (aN m) (List.range N)=true) (aA:(List.range N).all (fun j=>Nat.blt (aN m j) T.nx)=true) (hS:ir (aN m) N T so) (hT:gk (cV (aN m) N T.nx) so' to) (hc:(List.range N).all (fun j=>(to.map (·.1)).contains (aN m j))=true)
  (o9:∀ k o,T.get k=some o->k < T.nx) (hf:(∀ k J,T.get k=some (.fo J)->∃ j,j < N/\aN m j=k)\/tz so'=true):ae P w0 false (.call f aZ9) α T gw ⟨dw T.get to,T.nx+N'⟩ :=
 ae.call h (bC.frame (IB hi aA hS hT hc (by simp) o9 hf) ha.at.1 (fun i a b h1 h2=>by
  obtain⟨a',h3,h4⟩:=ha.at.2 i b h2
  rw [h3] at h1
  rw [<-oJ_ h1];exact h4) hr) fun e=>by cases e
theorem Cv.canon {B N:Nat}{m:List (Nat × Nat)}{l:List (Nat × AV)}{ds:List DE}{so:List (Nat × Ob)}(hn:Nat.ble T.nx B=true) (hC:Canon B N m α T l ds so):Cv w0 n α T (ez l ds) (au so N):=by
 intro A g a w hS hA
 refine⟨_,hC.st hS,hC.JL hA,(Ext.refl A g w).fI (Nat.le_of_ble_eq_true hC.bn) fun k hk=>?_⟩
 exact Nat.lt_of_lt_of_le (hS.al k hk) (Nat.le_of_ble_eq_true hn)
end
section
variable {P:Program}{w0:World}{rd:Bool}{n:Nat}{α:AA}{S:ad}{Q Q':Exit->AA->ad->Prop}{K:List fc}{l:List QI}{dr:Bool}
theorem gG.mono {c:QC}(hm:∀ ex α S,Q ex α S->Q' ex α S) (h:gG P w0 rd n c Q α S):gG P w0 rd n c Q' α S:=by
 intro c0 hc hd
 obtain⟨ex,bE,bT,h1,h2⟩:=h c0 hc hd
 exact⟨ex,bE,bT,h1,hm _ _ _ h2⟩
theorem db.mono (hm:∀ ex α S,Q ex α S->Q' ex α S):∀ (K:List fc) (ex:Exit) (α:AA) (S:ad),db P w0 rd n Q K ex α S->db P w0 rd n Q' K ex α S
 |[],ex,α,S,h=>hm _ _ _ h
 |.seq b::K,ex,α,S,h=>by
  cases ex with
  |normal=>exact gG.mono (db.mono hm K) h
  |_=>exact db.mono hm K _ _ _ h
 |.oS id::K,ex,α,S,h=>by
  cases ex with
  |exit j =>
   simp only [db] at h ⊢
   cases hj:Nat.beq j id with
   |true=>rw [hj] at h;exact db.mono hm K _ _ _ h
   |false=>rw [hj] at h;exact db.mono hm K _ _ _ h
  |_=>exact db.mono hm K _ _ _ h
 |.wj::K,ex,α,S,h=>by
  cases ex with
  |goto l=>exact h
  |_=>exact db.mono hm K _ _ _ h
theorem sO:∀ (K L:List fc),db P w0 rd n Q (K++L)=db P w0 rd n (db P w0 rd n Q L) K
 |[],L=>rfl
 |.seq b::K,L=>by
  rw [List.cons_append,db,db,sO K L]
 |.oS id::K,L=>by
  rw [List.cons_append,db,db,sO K L]
 |.wj::K,L=>by
  rw [List.cons_append,db,db,sO K L]
theorem eH.mono {Q Q':AA->ad->Prop}{E E':List PanicEntry->AA->ad->Prop}(hm:∀ α S,Q α S->Q' α S) (he:∀ ch α S,E ch α S->E' ch α S) (h:eH P w0 n dr l Q E α S):eH P w0 n dr l Q' E' α S:=by
 intro ops rest hr
 have h:=h ops rest hr
 cases dr with
 |false=>exact fun j hj=>(h j hj).imp (fun ⟨bE,bT,h1,h2⟩=>⟨bE,bT,h1,hm _ _ h2⟩) fun ⟨ch,bE,bT,h1,h2⟩=>⟨ch,bE,bT,h1,he _ _ _ h2⟩
 |true =>
  intro j hj
  obtain⟨bE,bT,h1,h2⟩:=h j hj
  exact⟨bE,bT,h1,hm _ _ h2⟩
def JT {σ:Type}(P:Program) (w0:World) (rd:Bool) (n B N:Nat) (st:σ->List (Nat × AV)) (ds:List DE) (so:σ->List (Nat × Ob)) (I:σ->Prop) (Q:Exit->AA->ad->Prop) (K:List fc):Exit->AA->ad->Prop :=
 fun ex α S=>match ex with|.normal=>∃ s m,I s/\Nat.ble S.nx B=true/\Canon B N m α S (st s) ds (so s)|e=>aa P w0 rd n Q (.out e K) α S
theorem aa.ajL {σ:Type}(j B N:Nat) (st:σ->List (Nat × AV)) (ds:List DE) (so:σ->List (Nat × Ob)) (I:σ->Prop) {b:QC}{K':List fc}(hj:K.drop j=.seq b::K')
  (h:aa P w0 rd n (JT P w0 rd n B N st ds so I Q (.seq b::K')) (.aU dr l (K.take j)) α S) (k:∀ s,I s->aa P w0 rd n Q (.run b K') (ez (st s) ds) (au (so s) N)):aa P w0 rd n Q (.aU dr l K) α S:=by
 rw [<-List.take_append_drop j K,hj]
 have key:∀ ex α S,db P w0 rd n (JT P w0 rd n B N st ds so I Q (.seq b::K')) (K.take j) ex α S->db P w0 rd n Q (K.take j++.seq b::K') ex α S:=?_
 ·exact eH.mono (fun α S hq=>key _ _ _ hq) (fun ch α S hq=>key _ _ _ hq) h
 intro ex α S hq
 rw [sO]
 refine db.mono (fun ex α S hq=>?_) _ _ _ _ hq
 cases ex with
 |normal =>
  obtain⟨s,m,hI,hn,hC⟩:=hq
  exact aa.Zn (Cv.canon hn hC) (k s hI)
 |_=>exact hq
theorem aa.Zu {σ:Type}{B N:Nat}{ds:List DE}{st:σ->List (Nat × AV)}{so:σ->List (Nat × Ob)}{I:σ->Prop}(s:σ) (m:List (Nat × Nat)) (hI:I s) (hn:Nat.ble S.nx B=true) (hC:Canon B N m α S (st s) ds (so s)) :
  aa P w0 rd n (JT P w0 rd n B N st ds so I Q K) (.out .normal []) α S:=⟨s,m,hI,hn,hC⟩
end
def jF:List Nat->(Nat->AV)->Nat->AV
 |[],f=>fun _=>.u
 |t::G,f=>match f t with|.u=>jF G f|a=>a8 (jF G f) t a
theorem wT:∀ (G:List Nat) (f:Nat->AV) (s:Nat),jF G f s=f s\/jF G f s=.u
 |[],f,s=>.inr rfl
 |t::G,f,s=>by
  have ih:=wT G f s
  have key:jF (t::G) f=jF G f\/jF (t::G) f=a8 (jF G f) t (f t):=by
   rw [jF]
   cases f t with
   |u=>exact .inl rfl
   |_=>exact .inr rfl
  rcases key with h|h<;>rw [h]
  ·exact ih
  ·by_cases h:s=t
   ·subst h;rw [aq];exact .inl rfl
   ·rw [aC _ _ h];exact ih
def Ad (G:List Nat):Nat->QF->AA->ad->QF × AA × ad
 |0,c,α,S=>(c,α,S)
 |m+1,c,α,S=>match c with
  |.out .normal (.seq b::K)=>match α with|⟨f,d⟩=>Ad G m (.run b K) ⟨jF G f,d⟩ S
  |c=>match wq c α S with
   |some (c',aw,S')=>Ad G m c' aw S'
   |none=>(c,α,S)
section
variable {P:Program}{w0:World}{rd:Bool}{n:Nat}{Q:Exit->AA->ad->Prop}
theorem Cv.prune (G:List Nat) {α:AA}{S:ad}:Cv w0 n α S ⟨jF G α.tm,α.df⟩ S:=by
 intro A g a w hS hA
 refine⟨g,hS,?_,Ext.refl A g w⟩
 refine⟨hA.size,fun t ht=>?_,fun t ht=>?_,hA.df,hA.rI⟩
 ·rcases wT G α.tm t with h|h
  ·show aH g w (jF G α.tm t) _
   rw [h];exact hA.tm t ht
  ·show aH g w (jF G α.tm t) _
   rw [h];exact .u
 ·show jF G α.tm t=.u
  rcases wT G α.tm t with h|h
  ·rw [h];exact hA.out t ht
  ·exact h
theorem uZ (G:List Nat):∀ {m:Nat}{cf rF:QF}{α aw:AA}{S S':ad},Ad G m cf α S=(rF,aw,S')->aa P w0 rd n Q rF aw S'->aa P w0 rd n Q cf α S
 |0,cf,rF,α,aw,S,S',h,k=>by
  simp only [Ad,pI_] at h
  obtain⟨rfl,rfl,rfl⟩:=h
  exact k
 |m+1,cf,rF,α,aw,S,S',h,k=>by
  unfold Ad at h
  split at h
  ·rename_i b K
   cases α
   exact aa.cv (c:=b) (K:=K) (Cv.prune G) (uZ (m:=m) G h k)
  ·split at h
   ·rename_i c1 a1 s1 hm
    exact N4 hm (uZ G h k)
   ·simp only [pI_] at h
    obtain⟨rfl,rfl,rfl⟩:=h
    exact k
theorem aa.goG (G:List Nat) (m:Nat) {cf rF:QF}{α aw:AA}{S S':ad}(h:Ad G m cf α S=(rF,aw,S')) (k:aa P w0 rd n Q rF aw S'):aa P w0 rd n Q cf α S:=uZ G h k
end
section
variable {P:Program}{w0:World}{α:AA}{S:ad}
theorem ae.raw {op:BinOp}{isB:BK}{x y:QO}{k k':IntKind}{a b:Int}{r:Value}(h1:x.ev α.tm=.v (.int k a)) (h2:y.ev α.tm=.v (.int k' b)) (hq:op ≠ .eql) (hn:op ≠ .neq)
  (h:∀ (t:TypeId) (w:World),(binOp op t (.int k a) (.int k' b)).run P w=.ok r w):ae P w0 false (.bin op isB x y) α S (.v r) S:=by
 refine ae.run fun n o hr=>?_
 obtain⟨t,u,v,s,ho,rfl,rfl,hB⟩:=q8 hr
 rw [aJ] at h1 h2
 refine aS.quiet fun A g q w hS hA=>?_
 have e1:=hA.ev u
 have e2:=hA.ev v
 rw [h1] at e1
 rw [h2] at e2
 refine⟨_,?_,.v⟩
 have hg:∀ (u v:Operand) (x y:Value),eqGuard op t u v x y=pure ():=by
  intro u v x y
  cases op<;>first|rfl|exact absurd rfl hq|exact absurd rfl hn
 simp [execOp,ho,bO e1,bO e2,hg,h]
end
end Go.Proofs.YtgjfgekaclobaaaGreat
