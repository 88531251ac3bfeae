import Derived.ChangeArms
import Derived.OpenShut
import Derived.ProofKit
import Derived.Test.YtbofilglphfceaaGreatRows
import Derived.Test.YtbofilglphfceaaGreatQ39
namespace Go.Proofs.YtbofilglphfceaaGreat
set_option linter.unusedVariables false
set_option linter.unusedSimpArgs false
open Go.RowKit
def g0 (w:World):Gh:=⟨fun _=>0,fun _=>0,fun _=>False,fun b _=>b < w.heap.size,fun _ _=>False⟩
def bM (P:Program) (n:Nat) (t:TypeId) (sz:Nat) {α:Type}(lay:α->List AV) (μ:α->Nat):Prop :=
 ∀ (H:Type) (enc:TypeId × Value->H) (w:World) (sp:Nat->Bool) (held:Bool) (m:Nat),m < n->∀ (cs:List Value) (d:DataW H × List MemPlace),cs.length=sz->DataW.trod enc P w 0 sp held m t cs=some d ->
  ∃ x,μ x<=Rows.uptoBulk d.1/\(lay x).length=sz/\∀ (j:Nat) (a:AV) (v:Value),(lay x)[j]?=some a->cs[j]?=some v->aJ (g0 w) w a v
def cT {α:Type}(μ:α->Nat):List α->Nat
 |[]=>0
 |x::l=>μ x+cT μ l
theorem Fs {α H:Type}{μ:α->Nat}:∀ {l:List α}{ds:List (DataW H × List MemPlace)},l.length=ds.length->(∀ (i:Nat) (x:α) (e:DataW H × List MemPlace),l[i]?=some x->ds[i]?=some e->μ x<=Rows.uptoBulk e.1)->cT μ l<=Rows.uptoBulkAll (ds.map (·.1))
 |[],ds,_,_=>Nat.zero_le _
 |x::l,[],h,_=>by simp at h
 |x::l,e::ds,h,hk=>by
  rw [cT,List.map_cons,Rows.uptoBulkAll]
  have h1:=hk 0 x e rfl rfl
  have h2:=Fs (l:=l) (ds:=ds) (by simpa using h) fun i y z hy hz=>hk (i+1) y z (by simpa using hy) (by simpa using hz)
  omega
section
variable {P:Program}{n:Nat}{t:TypeId}{sz:Nat}
theorem bM.less {α:Type}{lay:α->List AV}{μ:α->Nat}{m:Nat}(h:bM P n t sz lay μ) (hm:m<=n):bM P m t sz lay μ:=fun H enc w sp held k hk=>h H enc w sp held k (by omega)
theorem bM.int (ht:P.underlying t=some (.int .i64)):bM P n t 1 bF (fun _=>1):=by
 intro H enc w sp held m _ cs d hl h
 obtain⟨z,rfl,rfl,hw⟩:=DataW.trod_int ht h
 refine⟨z,by simp only [Rows.uptoBulk];exact Nat.le_refl _,rfl,fun j a v ha hv=>?_⟩
 cases j with
 |zero=>simp [bF] at ha hv;subst ha hv;exact .v
 |succ j=>simp [bF] at ha
theorem bM.str (ht:P.underlying t=some .string):bM P n t 1 (fun s:ByteArray=>[AV.v (.string s)]) (fun s=>s.size+1):=by
 intro H enc w sp held m _ cs d hl h
 obtain⟨z,rfl,rfl,hw⟩:=DataW.trod_string ht h
 refine⟨z,by simp only [Rows.uptoBulk];exact Nat.le_refl _,rfl,fun j a v ha hv=>?_⟩
 cases j with
 |zero=>simp at ha hv;subst ha hv;exact .v
 |succ j=>simp at ha
theorem bM.bool (ht:P.underlying t=some .bool):bM P n t 1 (fun b:Bool=>[AV.v (.bool b)]) (fun _=>1):=by
 intro H enc w sp held m _ cs d hl h
 obtain⟨z,rfl,rfl⟩:=DataW.trod_bool ht h
 refine⟨z,by simp only [Rows.uptoBulk];exact Nat.le_refl _,rfl,fun j a v ha hv=>?_⟩
 cases j with
 |zero=>simp at ha hv;subst ha hv;exact .v
 |succ j=>simp at ha
theorem bM.slice {α:Type}{lay:α->List AV}{μ:α->Nat}{e:TypeId}(ht:P.underlying t=some (.slice e)) (bH:P.cellsOf e=sz) (Ci:0 < sz) (wy:bM P n e sz lay μ) :
  bM P (n+1) t 1 (fun l:List α=>[b8 .plain lay false l]) (fun l=>cT μ l+1):=by
 have ab9:∀ l:List α,b8 .plain lay false l=.sl false (l.map lay):=fun l=>dx
 simp only [ab9]
 intro H enc w sp held m hm cs d hl h
 rcases DataW.trod_slice ht h with ⟨hv,hd⟩|⟨a,len,cap,elems,rest,k,hk,hv,hd,_,JQ,Vm,hlen,hi,_⟩
 ·subst hv
  refine⟨[],by rw [hd];simp only [Rows.uptoBulk,cT];exact Nat.le_refl _,rfl,fun j b v hb hv=>?_⟩
  cases j with
  |zero=>simp at hb hv;subst hb hv;exact .nil (fun h=>by cases h)
  |succ j=>simp at hb
 ·have PR:0 < len->a.spot=none:=by
   intro h0
   have h3:=hi 0 h0
   rw [bH] at h3
   have h4:elems[0]?=some (elems[0]'(by omega)):=List.getElem?_eq_getElem (by omega)
   rw [h4] at h3
   obtain⟨cs',nL,_⟩:=Option.bind_eq_some_iff.1 h3
   obtain⟨_,aeT,Vn⟩:=World.cells?_some nL
   have h5:=Vn 0 Ci
   have h6:cs'[0]?=some (cs'[0]'(by omega)):=List.getElem?_eq_getElem (by omega)
   rw [h6] at h5
   simp only [Nat.zero_mul,Addr.add,if_true] at h5
   unfold World.cell? at h5
   split at h5
   ·split at h5
    ·cases h5
    ·rename_i hs;simpa using hs
   ·cases h5
  have key:∀ i,i < len->∃ x,(∀ e,elems[i]?=some e->μ x<=Rows.uptoBulk e.1)/\(lay x).length=sz/\∀ (j:Nat) (b:AV),(lay x)[j]?=some b->∃ v,w.cell? ⟨a.block,a.off+i*sz+j,none⟩=some v/\aJ (g0 w) w b v:=by
   intro i hil
   have h1:=hi i hil
   rw [bH] at h1
   have h2:elems[i]?=some (elems[i]'(by omega)):=List.getElem?_eq_getElem (by omega)
   rw [h2] at h1
   obtain⟨cs,Ap,htr⟩:=Option.bind_eq_some_iff.1 h1
   obtain⟨_,hcl,kZ⟩:=World.cells?_some Ap
   obtain⟨x,hx,oC,hr⟩:=wy H enc w sp held k (by omega) cs _ hcl htr
   refine⟨x,fun e he=>by rw [h2] at he;rw [<-Option.some.inj he];exact hx,oC,fun j b hb=>?_⟩
   have hj:j < sz:=by rw [<-oC];exact (List.getElem?_eq_some_iff.1 hb).1
   have hv:cs[j]?=some (cs[j]'(by omega)):=List.getElem?_eq_getElem (by omega)
   have h5:=kZ j hj
   have hs:=PR (by omega)
   have ab_:(a.add (i*sz)).add j=⟨a.block,a.off+i*sz+j,none⟩:=by
    obtain⟨b',off,spot⟩:=a
    simp only at hs
    subst hs
    unfold Addr.add
    by_cases hz:i*sz=0<;>by_cases hj:j=0<;>simp [hz,hj]
   rw [ab_,hv] at h5
   exact⟨_,h5,hr j b _ hb hv⟩
  obtain⟨l,Jg,eP⟩:∃ l:List α,l.length=len/\∀ i x,l[i]?=some x->(∀ e,elems[i]?=some e->μ x<=Rows.uptoBulk e.1)/\(lay x).length=sz/\∀ (j:Nat) (b:AV),(lay x)[j]?=some b->∃ v,w.cell? ⟨a.block,a.off+i*sz+j,none⟩=some v/\aJ (g0 w) w b v:=by
   refine⟨(List.range len).attach.map (fun i=>Classical.choose (key i.1 (by simpa using i.2))),by simp,fun i x hx=>?_⟩
   simp only [List.getElem?_map,Option.map_eq_some_iff] at hx
   obtain⟨q,hq,rfl⟩:=hx
   have hik:q.1=i:=by
    have h1:((List.range len).attach.map Subtype.val)[i]?=some q.1:=by simp only [List.getElem?_map,hq,Option.map_some]
    rw [List.attach_map_subtype_val] at h1
    obtain⟨_,h2⟩:=List.getElem?_eq_some_iff.1 h1
    simpa using h2.symm
   rw [<-hik]
   exact Classical.choose_spec (key q.1 (by simpa using q.2))
  have hv':cs=[.slice (some a) len cap]:=by simpa using hv
  subst hv'
  refine⟨l,?_,rfl,fun j b v hb hv=>?_⟩
  ·rw [hd]
   have:=Fs (μ:=μ) (l:=l) (ds:=elems) (by omega) fun i x e hx he=>(eP i x hx).1 e he
   simp only [Rows.uptoBulk]
   omega
  ·cases j with
   |succ j=>simp at hb
   |zero =>
    simp at hb hv
    subst hb hv
    by_cases h0:l=[]
    ·subst h0
     simp at Jg
     subst Jg
     exact .nil (fun h=>by cases h)
    ·have hs:=PR (by rw [<-Jg];exact List.length_pos_iff.2 h0)
     obtain⟨b',off,spot⟩:=a
     simp only at hs
     subst hs
     have Uh:len=(l.map lay).length:=by simp [Jg]
     have row:∀ (i:Nat) (row:List AV),(l.map lay)[i]?=some row->row.length=sz/\∀ (j:Nat) (b:AV),row[j]?=some b->∃ v,w.cell? ⟨b',off+i*sz+j,none⟩=some v/\aJ (g0 w) w b v:=by
      intro i row hr
      simp only [List.getElem?_map,Option.map_eq_some_iff] at hr
      obtain⟨x,hx,rfl⟩:=hr
      exact (eP i x hx).2
     rw [Uh]
     refine .sl (sz:=sz) (val:=fun i j=>(w.cell? ⟨b',off+(i*sz+j),none⟩).getD undef) (by simpa using h0) (fun h=>by cases h) (by rw [<-Uh];exact JQ) (fun i r hr=>(row i r hr).1) (fun i j r b hr hb=>?_) (fun i j r b hr hb=>?_)
     ·obtain⟨v,h1,h2⟩:=(row i r hr).2 j b hb
      rw [Nat.add_assoc] at h1
      exact⟨block_lt_of_cell h1,by rw [h1];rfl⟩
     ·obtain⟨v,h1,h2⟩:=(row i r hr).2 j b hb
      rw [Nat.add_assoc] at h1
      rw [h1]
      exact h2
theorem bM.fields {H:Type}{enc:TypeId × Value->H}{w:World}{sp:Nat->Bool}{held:Bool}{fs:Array Field}(ht:P.underlying t=some (.struct fs)) {fuel:Nat}{cs:List Value}{d:DataW H × List MemPlace}(h:DataW.trod enc P w 0 sp held fuel t cs=some d) :
  ∃ (n:Nat) (xs:List (DataW H × List MemPlace)),fuel=n+1/\xs.length=fs.size/\Rows.uptoBulk d.1=Rows.uptoBulkAll (xs.map (·.1))+1/\∀ (i ty off:Nat),(fs[i]?).map (fun f=>(f.type,f.offset))=some (ty,off)->∃ y,xs[i]?=some y/\DataW.trod enc P w 0 sp held n ty ((cs.drop off).take (P.cellsOf ty))=some y:=by
 obtain⟨xs,n,hn,hd,_,hl,hf⟩:=DataW.trod_struct ht h
 refine⟨n,xs,hn,hl,by rw [hd];simp only [Rows.uptoBulk],fun i ty off hi=>?_⟩
 obtain⟨f,gC,fe⟩:=Option.map_eq_some_iff.1 hi
 simp only [Prod.mk.injEq] at fe
 obtain⟨rfl,rfl⟩:=fe
 have au:i < fs.size:=(Array.getElem?_eq_some_iff.1 gC).1
 exact⟨xs[i]'(by omega),List.getElem?_eq_getElem (by omega),(hf i f gC).trans (List.getElem?_eq_getElem (by omega))⟩
theorem bM.part {α:Type}{H:Type}{enc:TypeId × Value->H}{w:World}{sp:Nat->Bool}{held:Bool}{lay:α->List AV}{μ:α->Nat}{m ty k off i:Nat}{cs:List Value}{xs:List (DataW H × List MemPlace)}(hR:bM P n ty k lay μ) (hm:m < n) (hk:P.cellsOf ty=k) (hlen:off+k<=cs.length)
  (h:∃ y,xs[i]?=some y/\DataW.trod enc P w 0 sp held m ty ((cs.drop off).take (P.cellsOf ty))=some y):∃ x,μ x<=((xs[i]?).map fun y=>Rows.uptoBulk y.1).getD 0/\(lay x).length=k/\∀ (j:Nat) (a:AV) (v:Value),(lay x)[j]?=some a->cs[off+j]?=some v->aJ (g0 w) w a v:=by
 obtain⟨y,hy,h⟩:=h
 rw [hk] at h
 obtain⟨x,h1,h2,h3⟩:=hR H enc w sp held m hm _ y (by simp;omega) h
 refine⟨x,by rw [hy];exact h1,h2,fun j a v ha hv=>h3 j a v ha ?_⟩
 have hj:j < k:=by rw [<-h2];exact (List.getElem?_eq_some_iff.1 ha).1
 rw [List.getElem?_take,if_pos hj,List.getElem?_drop]
 exact hv
def iP {H:Type}(xs:List (DataW H × List MemPlace)):Nat->Nat
 |0=>0
 |k+1=>iP xs k+((xs[k]?).map fun y=>Rows.uptoBulk y.1).getD 0
theorem yQ {H:Type}{y:DataW H × List MemPlace}{xs:List (DataW H × List MemPlace)}:∀ k,iP (y::xs) (k+1)=Rows.uptoBulk y.1+iP xs k
 |0=>by simp [iP]
 |k+1=>by
  rw [iP,yQ k,iP]
  simp only [List.getElem?_cons_succ]
  omega
theorem fI {H:Type}:∀ {xs:List (DataW H × List MemPlace)},iP xs xs.length=Rows.uptoBulkAll (xs.map (·.1))
 |[]=>rfl
 |y::xs=>by
  rw [List.length_cons,yQ,fI,List.map_cons,Rows.uptoBulkAll]
end
section
variable {P:Program}{w0:World}{n B:Nat}{α:AA}{S:ae}{dr:Bool}
theorem vd {o:Oper}{sz by_:Nat}{a b:QO}{ex:Bool}{rows:List (List AV)}(hr:res P.toTables o.op=some (.append sz by_ a b)) (ha:a.ev α.tm=.sl ex rows) (hb:dh S (b.ev α.tm)=some []):bf P w0 n o α S (.sl ex rows) S:=by
 obtain⟨c,t,t2,u,v,e,e2,z,ho,hc,fe,bA,rfl,rfl,ht,eZ,hz,hs,jH,kB,sJ⟩:=lj hr
 rw [aR] at ha hb
 obtain⟨hm,hlen⟩:=cZ hb
 have fe:c.argTypes=#[t,t2]:=by rw [<-Array.toArray_toList (xs:=c.argTypes),fe]
 have bA:c.args=#[u,v]:=by rw [<-Array.toArray_toList (xs:=c.args),bA]
 have ht:P.underlying t=some (.slice e):=by
  unfold fk at ht
  split at ht
  ·obtain rfl:=Option.some.inj ht;assumption
  ·cases ht
 have eZ:P.underlying t2=some (.slice e2):=by
  unfold fk at eZ
  split at eZ
  ·obtain rfl:=Option.some.inj eZ;assumption
  ·cases eZ
 refine bf.quiet fun A g q w hS hA=>?_
 have h1:=hA.ev u
 have h2:=hA.ev v
 rw [ha] at h1
 obtain⟨C,c1,e1⟩:=mZ (S:=S) hlen hm h2
 obtain⟨C',cc',e3,hle,_⟩:=m7 h1
 refine⟨q.eval u,?_,h1⟩
 have cr:(execOp q.eval o).run P w=((Builtin.append_ #[t,t2] o.type #[q.eval u,q.eval v]).run P w).andThen fun v w'=>.ok (.value v) w':=by
  simp [execOp,ho,resolve,hc,fe,bA,invoke,builtin]
 rw [cr,e1,e3,rV ht eZ hs hle]
 rfl
theorem Ke {o:Oper}{sz by_:Nat}{a b:QO}{ex:Bool}{rows:List (List AV)}{A:Option Addr}{cp:Nat}(hr:res P.toTables o.op=some (.append sz by_ a b)) (ha:a.ev α.tm=.sl ex rows) (hb:b.ev α.tm=.v (.slice A 0 cp)):bf P w0 n o α S (.sl ex rows) S:=by
 obtain⟨c,t,t2,u,v,e,e2,z,ho,hc,fe,bA,rfl,rfl,ht,eZ,hz,hs,jH,kB,sJ⟩:=lj hr
 rw [aR] at ha hb
 have fe:c.argTypes=#[t,t2]:=by rw [<-Array.toArray_toList (xs:=c.argTypes),fe]
 have bA:c.args=#[u,v]:=by rw [<-Array.toArray_toList (xs:=c.args),bA]
 have ht:P.underlying t=some (.slice e):=by
  unfold fk at ht
  split at ht
  ·obtain rfl:=Option.some.inj ht;assumption
  ·cases ht
 have eZ:P.underlying t2=some (.slice e2):=by
  unfold fk at eZ
  split at eZ
  ·obtain rfl:=Option.some.inj eZ;assumption
  ·cases eZ
 refine bf.quiet fun A g q w hS hA=>?_
 have h1:=hA.ev u
 have h2:=hA.ev v
 rw [ha] at h1
 rw [hb] at h2
 have e1:=ca h2
 obtain⟨C',cc',e3,hle,_⟩:=m7 h1
 refine⟨q.eval u,?_,h1⟩
 have cr:(execOp q.eval o).run P w=((Builtin.append_ #[t,t2] o.type #[q.eval u,q.eval v]).run P w).andThen fun v w'=>.ok (.value v) w':=by
  simp [execOp,ho,resolve,hc,fe,bA,invoke,builtin]
 rw [cr,e1,e3,rV ht eZ hs hle]
 rfl
theorem vS {o:Oper}{sz by_:Nat}{a b:QO}(hr:res P.toTables o.op=some (.append sz by_ a b)):a.ev (α.only (dp o)).tm=a.ev α.tm/\b.ev (α.only (dp o)).tm=b.ev α.tm/\∀ c,o.op ≠ .defer c:=by
 obtain⟨c,t,t2,u,v,e,e2,z,ho,hc,fe,bA,rfl,rfl,_⟩:=lj hr
 have key:∀ q ∈ [u,v],(α.only (dp o)).ev q=α.ev q:=fun q hq=>jw fun t ht=>iN (by
  rw [ho,<-ht]
  have:q ∈ c.args:=Array.mem_toList_iff.1 (by rw [bA];exact hq)
  show q ∈ c.operands
  simp [Call.operands,this,hc])
 exact⟨by rw [aR,aR];exact key u (by simp),by rw [aR,aR];exact key v (by simp),fun c e=>by rw [ho] at e;cases e⟩
theorem ad.GZ {sz by_:Nat}{a b:QO}{ex:Bool}{rows:List (List AV)}(ha:a.ev α.tm=.sl ex rows) (hb:dh S (b.ev α.tm)=some []):ad P w0 dr (.append sz by_ a b) α S (.sl ex rows) S:=by
 cases dr with
 |false=>exact fun n o hr=>(vd hr ha hb).ops (vS (α:=α) hr).2.2
 |true =>
  intro n o hr
  obtain⟨h1,h2,h3⟩:=vS (α:=α) hr
  exact⟨(vd hr (by rw [h1];exact ha) (by rw [h2];exact hb)).ops h3,fun hp=>(by rw [pK hr] at hp;cases hp),fun _=>rfl⟩
theorem ad.YD {sz by_:Nat}{a b:QO}{ex:Bool}{rows:List (List AV)}{A:Option Addr}{cp:Nat}(ha:a.ev α.tm=.sl ex rows) (hb:b.ev α.tm=.v (.slice A 0 cp)):ad P w0 false (.append sz by_ a b) α S (.sl ex rows) S:=fun n o hr=>(Ke hr ha hb).ops (vS (α:=α) hr).2.2
theorem cB.GZ {sz by_:Nat}{a b:QO}{ex ex':Bool}{rows:List (List AV)}(ha:a.ev α.tm=.sl ex rows) (hb:b.ev α.tm=.sl ex' []):cB P w0 B (.append sz by_ a b) α S (.sl ex rows) ⟨[],[],false⟩:=by
 intro n o hr
 refine⟨fun _=>rfl,(show kE S [] from fun p hp=>by cases hp),fun T _ _ _=>?_⟩
 rw [show dQ T [] false=T from cK]
 obtain⟨h1,h2,h3⟩:=vS (α:=α) hr
 exact (vd hr (by rw [h1];exact ha) (by rw [h2,hb];exact gQ)).ops h3
end
def Mm (sz by_:Nat) (s:XS) (a b:AV):Option (AV × Dt):=match b with
 |.sl _ []=>match a with
  |.sl ex rows=>some (.sl ex rows,⟨[],[],false⟩)
  |.ob k sz' 0 len none=>match (ez s).get k with
   |some (.arr fO rows fz ex)=>match Nat.beq fO sz' with
    |true=>some (.ob k sz' 0 len none,⟨[(k,.arr fO rows fz ex)],[],false⟩)
    |false=>none
   |_=>none
  |_=>none
 |.sl _ (x::more)=>match a with
  |.sl true []=>match jB sz (x::more) && Nat.ble ((x::more).length*by_) 35184372088832 with
   |true=>some (.ob s.nx sz 0 (x::more).length none,⟨[],[(s.nx,some (.arr sz (x::more) 0 false))],true⟩)
   |false=>none
  |.ob k sz' 0 len none=>match (ez s).get k with
   |some (.arr fO rows fz ex)=>match Nat.beq fO sz && Nat.beq sz' sz && jB sz (x::more) && qq cn (x::more) && Nat.ble ((len+(x::more).length)*by_) 35184372088832 && Nat.ble fz len && Nat.ble len rows.length with
    |true=>some (.ob s.nx sz 0 (len+(x::more).length) none,⟨[(k,.arr fO rows fz ex)],[(s.nx,some (.arr sz (rows.take len++x::more) fz false)),(k,none)],true⟩)
    |false=>none
   |_=>none
  |_=>none
 |_=>none
section
variable {P:Program}{w0:World}{B:Nat}{s:XS}{r:AV}{J:FJ}
theorem G0 {sz by_:Nat}{a b:QO}{f:Nat->AV}{df:List Nat}{d:Dt}(h:Mm sz by_ s (a.ev f) (b.ev f)=some (r,d)):cB P w0 B (.append sz by_ a b) ⟨f,df⟩ (den J s) r d:=by
 unfold Mm at h
 split at h
 ·rename_i ex' hb
  split at h
  ·rename_i ex rows ha
   simp only [Option.some.injEq,Prod.mk.injEq] at h
   obtain⟨rfl,rfl⟩:=h
   exact cB.GZ ha hb
  ·rename_i k sz' len ha
   split at h
   ·rename_i fO rows fz ex hk
    split at h
    ·rename_i hs
     have hs:=Nat.eq_of_beq_eq_true hs
     subst hs
     simp only [Option.some.injEq,Prod.mk.injEq] at h
     obtain⟨rfl,rfl⟩:=h
     exact cB.Br ha (du (J:=J) hk).1 hb
    ·cases h
   ·cases h
  ·cases h
 ·rename_i ex' x more hb
  split at h
  ·rename_i ha
   split at h
   ·rename_i hc
    simp only [Bool.and_eq_true] at hc
    simp only [Option.some.injEq,Prod.mk.injEq] at h
    obtain⟨rfl,rfl⟩:=h
    exact cB.zn (S:=den J s) ha hb (e8 hc.1) (Nat.le_of_ble_eq_true hc.2)
   ·cases h
  ·rename_i k sz' len ha
   split at h
   ·rename_i fO rows fz ex hk
    split at h
    ·rename_i hc
     simp only [Bool.and_eq_true] at hc
     obtain⟨⟨⟨⟨⟨⟨h1,h2⟩,h3⟩,h4⟩,h5⟩,h6⟩,h7⟩:=hc
     have h1:=Nat.eq_of_beq_eq_true h1
     have h2:=Nat.eq_of_beq_eq_true h2
     subst h1 h2
     simp only [Option.some.injEq,Prod.mk.injEq] at h
     obtain⟨rfl,rfl⟩:=h
     exact cB.FO (S:=den J s) ha (du (J:=J) hk).1 hb (Nat.le_of_ble_eq_true h6) (Nat.le_of_ble_eq_true h7) (fun row hr=>⟨e8 h3 row hr,List.all_eq_true.2 (jX h4 row hr)⟩) (Nat.le_of_ble_eq_true h5)
    ·cases h
   ·cases h
  ·cases h
 ·cases h
theorem cB.YE {fq:QO}{kz:List QO}{f:Nat->AV}{df:List Nat}{g:FuncId}{aZ9:List AV}{S S':ae}{k sz len fz:Nat}{rows:List (List AV)}{ex:Bool}(bI:eL (fq.ev f) (kz.map (·.ev f))=some (g,aZ9)) (hp:db aZ9) (h:bc P w0 g aZ9 ae.none_ (.ob k sz 0 len none) S')
  (hk:S'.get k=some (.arr sz rows fz ex)) (hr:∀ r ∈ rows,∀ a ∈ r,Pure a):cB P w0 B (.call fq kz) ⟨f,df⟩ S (.ob S.nx sz 0 len none) ⟨[],[(S.nx,some (.arr sz rows fz ex))],true⟩:=by
 have h1:bc P w0 g aZ9 (aM [] 0) (.ob 0 sz 0 len none) (aM [(0,.arr sz rows fz ex)] 1):=by
  refine bc.canon (B:=0) (N:=1) (m:=[(0,k)]) (S:=ae.none_) (S':=S') h rfl (.new rfl rfl) ⟨.inl ⟨_,hk,.same fun r jg a ha=>(hr r jg a ha).b_⟩,trivial⟩ rfl rfl
 have pl:∀ {l:List AV},db l->v_ (bX []) 0 l l:=by
  intro l
  induction l with
  |nil=>intro _;trivial
  |cons a l ih=>exact fun h=>⟨Rn.pure h.1,ih h.2⟩
 exact cB.Oy (so':=[(0,.arr sz rows fz ex)]) h1 bI (pl hp) (Rb.ob rfl) ⟨⟨0,_,rfl,rfl,iD.pure hr⟩,trivial⟩ rfl
end
section
variable {P:Program}{w0:World}{n:Nat}{o:Oper}{α:AA}{S S':ae}{r:AV}
theorem Ef {t e:TypeId}{l c:Operand}{z:Value}{sz by_:Nat}{ka kb:IntKind}{a b:Int}(ho:o.op=.makeSlice t l c) (ht:P.underlying t=some (.slice e)) (hz:c_ P e=some z) (hs:cQ P e=some sz) (jH:fN P e=some by_)
  (kB:z.cells.size=sz) (UG:0 < sz) (hl:α.ev l=.v (.int ka a)) (hc:α.ev c=.v (.int kb b)) (h1:0<=a) (h0:a<=b) (h2:b*by_<=35184372088832) (h3:b<=9223372036854775807) :
  bf P w0 n o α S (.ob S.nx sz 0 a.toNat none) (S.new (.arr sz (List.replicate b.toNat (z.cells.toList.map bV)) 0 true)):=by
 intro A g q w hS hA
 obtain⟨i,hi,bH⟩:=ic hs
 have o6:i.zero=some z:=by unfold c_ at hz;rw [hi] at hz;simpa using hz
 have AH:i.bytes=by_:=by unfold fN at jH;rw [hi] at jH;simpa using jH
 have ji:=hA.ev l
 have yO:=hA.ev c
 rw [hl] at ji
 rw [hc] at yO
 have ji:=ca ji
 have yO:=ca yO
 have cr:=run_make (P:=P) w t e i z ht hi o6 ka kb a b h1 h0 (by rw [AH,Int.mul_comm];omega) h3
 have qv:∀ q,¬ g.fz w.heap.size q:=fun q hf=>absurd (hS.cG _ _ hf) (Nat.lt_irrefl _)
 obtain⟨hE,dg⟩:=hS.new (.cells (madeCells z.cells (b.toNat*i.size)) e) (.arr sz (List.replicate b.toNat (z.cells.toList.map bV)) 0 true) b.toNat (fun J=>by simp) (fun hL=>by
  refine⟨_,e,dk,?_,by simp,fun _=>by simp,fun m row hr=>?_,Nat.zero_le _,fun q=>⟨fun h=>absurd h (qv q),fun h=>by simp at h⟩⟩
  ·rw [size_madeCells,bH]
  ·obtain⟨gC,rfl⟩:=List.getElem?_eq_some_iff.1 hr
   simp only [List.length_replicate] at gC
   simp only [List.getElem_replicate]
   refine⟨by simp [kB],fun j b' hj=>?_⟩
   simp only [List.getElem?_map,Option.map_eq_some_iff] at hj
   obtain⟨y,hy,rfl⟩:=hj
   have va:j < sz:=by
    have:=(List.getElem?_eq_some_iff.1 hy).1
    simp at this
    omega
   refine⟨y,?_,jF y⟩
   have au:m*sz+j < b.toNat*sz:=jr gC va
   have gY:j < z.cells.size:=by omega
   have e1:(m*sz+j) % z.cells.size=j:=by
    rw [kB,Nat.mul_comm,Nat.mul_add_mod]
    exact Nat.mod_eq_of_lt va
   have e2:(madeCells z.cells (b.toNat*i.size))[m*sz+j]?=some (z.cells[(m*sz+j) % z.cells.size]!):=by
    unfold madeCells
    rw [Array.getElem?_map,Array.getElem?_range,if_pos (by rw [bH];exact au)]
    rfl
   rw [e2,e1,getElem!_pos z.cells j gY,<-hy,Array.getElem?_toList,Array.getElem?_eq_getElem gY])
 refine⟨.slice (some ⟨w.heap.size,0,none⟩) a.toNat b.toNat,_,_,.inl ?_,?_,dg,hE⟩
 ·simp only [execOp,ho,ji,yO,Sem.run_bind,cr]
  rfl
 ·have:=aJ.ob (g:=g.new S.nx w.heap.size b.toNat) (w:=w.alloc (.cells (madeCells z.cells (b.toNat*i.size)) e)) (k:=S.nx) (sz:=sz) (off:=0) (len:=a.toNat) (c:=b.toNat) (cx:=none) (.inr rfl) (fun m h=>by cases h)
   (by rw [Nat.zero_add];exact Nat.le_of_eq (aE _ _ _).symm) (fun _=>by rw [Nat.zero_add];exact (aE _ _ _).symm) (by omega)
  rw [show (g.new S.nx w.heap.size b.toNat).ob S.nx=w.heap.size from aE _ _ _,Nat.zero_mul] at this
  exact this
theorem ad.aca {z:List AV}{by_:Nat}{l c:QO}{k k':IntKind}{a b:Int}(h1:l.ev α.tm=.v (.int k a)) (h2:c.ev α.tm=.v (.int k' b)) (h3:0<=a) (h4:a<=b) (h5:b*by_<=35184372088832) (h6:b<=9223372036854775807) :
  ad P w0 false (.j8 z by_ l c) α S (.ob S.nx z.length 0 a.toNat none) (S.new (.arr z.length (List.replicate b.toNat z) 0 true)):=ad.run fun n o hr=>by
 obtain⟨t,u,v,e,zv,sz,ho,rfl,rfl,e1,e2,e3,e4,rfl,e5,e6⟩:=Ft hr
 have hz:(zv.cells.toList.map bV).length=sz:=by rw [<-Nat.eq_of_beq_eq_true e5];simp
 rw [aR] at h1 h2
 rw [hz]
 exact Ef ho (kN e1) e2 e3 e4 (Nat.eq_of_beq_eq_true e5) (Nat.le_of_ble_eq_true e6) h1 h2 h3 h4 h5 h6
theorem ad.acb {m k sz off len:Nat}{x:QO}{lo hi:Option QO}{l h:Int}{rows:List (List AV)}{fz:Nat}{ex:Bool}(hx:x.ev α.tm=.ob k sz off len none) (hk:S.get k=some (.arr sz rows fz ex)) (hm:m=sz) (hl:jc α.tm lo 0=some l) (hh:jc α.tm hi len=some h) (h0:0<=l) (h1:l < h) (h2:off+h<=rows.length) :
  ad P w0 false (.slice (.sl m) x lo hi none) α S (.ob k sz (off+l.toNat) (h.toNat - l.toNat) none) S:=ad.run fun n o hr=>by
 obtain⟨t,u,l1,i1,m1,ho,rfl,rfl,rfl,J9,⟨hs,_⟩|⟨e,m',hs,hu,hz⟩⟩:=E9 hr
 ·cases hs
 ·injection hs with hs
  subst hs hm
  have J9:m1=none:=by cases m1 with|none=>rfl|some _=>cases J9
  subst J9
  rw [aR] at hx
  refine bf.quiet fun A g q w hS hA=>?_
  have hx:=hA.ev u
  rw [show α.ev u=_ from ‹α.ev u=_›] at hx
  obtain⟨c,e1,bN,hc,hp,lE,hle⟩:=fV hx
  obtain⟨_,_,cs,ty,p1,p2,p3,_⟩:=hS.cC k _ hk bN
  have Vm:=lE rfl
  have hb:=lv (P:=P) (isSl:=true) (len:=len) (cap:=c) (w:=w) hA (pL hl) (pL hh) h0 (by omega) (by omega)
  have bG:¬ c=l.toNat:=by omega
  have dz:(Instr.slice t (q.eval u) (l1.map q.eval) (i1.map q.eval) (Option.map q.eval none)).run P w=.ok (.slice (some ⟨g.ob k,(off+l.toNat)*m,none⟩) (h.toNat - l.toNat) (c - l.toNat)) w:=by
   simp [Instr.slice,e1,run_underlying hu,hb,cL hz,bG,fA,Nat.add_mul]
  have YF:(execOp q.eval o).run P w=.ok (.value (.slice (some ⟨g.ob k,(off+l.toNat)*m,none⟩) (h.toNat - l.toNat) (c - l.toNat))) w:=by
   simp only [execOp,ho,Sem.run_bind,yN hu (fun k e h=>by cases h),dz,Result.andThen_ok]
   rfl
  exact⟨_,YF,.ob bN (fun m hm=>by cases hm) (by omega) (fun _=>by omega) (by omega)⟩
theorem G1 {z:List AV}{a:QO}{o:Op}(h:res P.toTables o=some (.sK z a)):∃ c t u e zv,o=.call c/\c.callee=.builtin .clear/\c.argTypes=#[t]/\c.args=#[u]/\a=qo u/\P.underlying t=some (.slice e)/\c_ P e=some zv/\z=zv.cells.toList.map bV:=by
 cases o<;>simp only [res,b9,gD] at h<;>(repeat' split at h)<;>(try cases h)
 exact⟨_,_,_,_,_,rfl,by assumption,toList_one (by assumption),toList_one (by assumption),rfl,by assumption,by assumption,rfl⟩
theorem ad.Vo {z:List AV}{x:QO}{k sz off len fz:Nat}{cx:Option Nat}{rows:List (List AV)}{ex:Bool}(hx:x.ev α.tm=.ob k sz off len cx) (hk:S.get k=some (.arr sz rows fz ex)) (hz:z.length=sz) (kZ:fD cn z=true) (hp:off+len<=rows.length) (hf:fz<=off) (h0:0 < len) :
  ad P w0 false (.sK z x) α S (.bg []) (S.set k (some (.arr sz (rows.take off++List.replicate len z++rows.drop (off+len)) fz ex))):=ad.run fun n o hr=>by
 obtain⟨c,t,u,e,zv,ho,hc,fe,bA,rfl,hu,Kf,rfl⟩:=G1 hr
 rw [aR] at hx
 intro A g q w hS hA
 have h1:=hA.ev u
 rw [hx] at h1
 obtain⟨cc,e1,bN,_,_,_,hle⟩:=fV h1
 obtain⟨k2,k3,cs,ty,p1,p2,p3,p4,p5,p6,p7⟩:=hS.cC k _ hk bN
 have kB:zv.cells.size=sz:=by simpa using hz
 obtain⟨news,pw⟩:∃ news,news=(Builtin.zeroCells zv.cells len).toList:=⟨_,rfl⟩
 have Pe:news.length=(List.replicate len (zv.cells.toList.map bV)).length*sz:=by rw [pw,Array.length_toList,size_zeroCells,List.length_replicate,kB]
 have jS:∀ i j,i < len->j < sz->∀ v,zv.cells[j]?=some v->news[i*sz+j]?=some v:=by
  intro i j hi hj v hv
  have au:i*sz+j < len*sz:=jr hi hj
  have e1:(i*sz+j) % zv.cells.size=j:=by
   rw [kB,Nat.mul_comm,Nat.mul_add_mod]
   exact Nat.mod_eq_of_lt hj
  rw [pw,Array.getElem?_toList]
  unfold Builtin.zeroCells
  rw [Array.getElem?_map,Array.getElem?_range,if_pos (by rw [kB];exact au)]
  simp only [Option.map_some,e1]
  rw [getElem!_pos zv.cells j (by omega),<-hv,Array.getElem?_eq_getElem (by omega)]
 obtain⟨hE,dg⟩:=hS.zI (p:=off) (more:=List.replicate len (zv.cells.toList.map bV)) (news:=news) hk bN p1 (fun r hr=>by rw [(List.mem_replicate.1 hr).2];exact hz) Pe (fun i row j a hi ha=>by
  obtain⟨gC,rfl⟩:=List.getElem?_eq_some_iff.1 hi
  simp only [List.length_replicate] at gC
  simp only [List.getElem_replicate,List.getElem?_map,Option.map_eq_some_iff] at ha
  obtain⟨y,hy,rfl⟩:=ha
  have hj:j < sz:=by
   have:=(List.getElem?_eq_some_iff.1 hy).1
   simp at this
   omega
  exact⟨y,jS i j gC hj y (by rw [<-Array.getElem?_toList];exact hy),jF y⟩) (by rw [List.length_replicate];exact hp) hf
 rw [List.length_replicate] at dg
 have acd:∀ v ∈ news,v.oneCell'=true:=by
  intro v hv
  rw [pw] at hv
  have hv:=Array.mem_toList_iff.1 hv
  unfold Builtin.zeroCells at hv
  obtain⟨i,hi,rfl⟩:=Array.mem_map.1 hv
  have gC:=Array.mem_range.1 hi
  have bH:0 < zv.cells.size:=by
   rcases Nat.eq_zero_or_pos zv.cells.size with e|e
   ·rw [e,Nat.mul_zero] at gC;omega
   ·exact e
  have hj:i % zv.cells.size < zv.cells.size:=Nat.mod_lt _ bH
  rw [getElem!_pos zv.cells _ hj]
  have hm:bV zv.cells[i % zv.cells.size] ∈ zv.cells.toList.map bV:=List.mem_map.2 ⟨_,Array.mem_toList_iff.2 (Array.getElem_mem hj),rfl⟩
  exact pk (g:=g) (w:=w) (dF kZ _ hm) (jF _)
 have ee:off*sz+0+news.length<=cs.size:=by
  rw [Pe,List.length_replicate,p2,Nat.add_zero,<-Nat.add_mul]
  exact Nat.mul_le_mul_right sz (by omega)
 have jf:=run_storeCells_at (P:=P) (g.ob k) (off*sz) ty news 0 cs w p1 ee acd
 rw [Nat.add_zero] at jf
 refine⟨.tuple #[],_,g,.inl ?_,.bg rfl (fun i a x h=>by simp at h),dg,hE⟩
 have cr:(execOp q.eval o).run P w=((Builtin.clear_ #[t] o.type #[q.eval u]).run P w).andThen fun v w'=>.ok (.value v) w':=by
  simp [execOp,ho,resolve,hc,fe,bA,invoke,builtin]
 rw [cr,e1]
 obtain⟨cU,rfl⟩:∃ l,len=l+1:=⟨len - 1,by omega⟩
 rw [pw] at jf
 simp [Builtin.clear_,run_underlying hu,mw Kf,jf,pw]
theorem ad.ace {sz by_ k fz len:Nat}{ex:Bool}{a b:QO}{rows more:List (List AV)}{x:List AV}(h1:a.ev α.tm=.ob k sz 0 len none) (hk:S.get k=some (.arr sz rows fz ex)) (hm:dh S (b.ev α.tm)=some (x::more)) (h0:fz<=len) (h2:len+(x::more).length<=rows.length)
  (h3:∀ row ∈ x::more,row.length=sz/\row.all cn=true) :
  ad P w0 false (.append sz by_ a b) α S (.ob k sz 0 (len+(x::more).length) none) (S.set k (some (.arr sz (rows.take len++(x::more)++rows.drop (len+(x::more).length)) fz ex))):=ad.run fun n o hr=>by
 obtain⟨c,t,t2,u,v,e,e2,z,ho,hc,fe,bA,rfl,rfl,ht,eZ,hz,hs,jH,kB,sJ⟩:=lj hr
 rw [aR] at h1 hm
 obtain⟨hm,hlen⟩:=cZ hm
 have fe:c.argTypes=#[t,t2]:=by rw [<-Array.toArray_toList (xs:=c.argTypes),fe]
 have bA:c.args=#[u,v]:=by rw [<-Array.toArray_toList (xs:=c.args),bA]
 have ht:=kN ht
 have eZ:=kN eZ
 intro A g q w hS hA
 have g1:=hA.ev u
 have g2:=hA.ev v
 rw [h1] at g1
 obtain⟨cc,e1,bN,lE,nr,hcn,hle⟩:=fV g1
 obtain⟨b2,q2,c2,news,e3,Ge,jA⟩:=lq hS hm g2 (by simp) (fun r hr=>(h3 r hr).1) hlen
 obtain⟨k2,k3,cs,lS,p1,p2,p3,p4,p5,p6,p7⟩:=hS.cC k _ hk bN
 obtain⟨i,hi,bH⟩:=ic hs
 have Vm:=hcn rfl
 have px:len+(x::more).length<=cc:=by omega
 have g_:len*sz+(x::more).length*sz<=g.cp k*sz:=by rw [<-Nat.add_mul];exact Nat.mul_le_mul_right sz (by omega)
 have ee:0+len*i.size+news.length<=cs.size:=by rw [jA.1,p2,bH];omega
 have cr:=qu (P:=P) w t o.type e lS i ht hi (g.ob k) 0 len cc cs p1 ⟨b2,q2,none⟩ (x::more).length c2 news (by rw [jA.1,bH]) jA.2.1 (xe jA h3) px ee
 simp only [Nat.zero_add,bH] at cr ee
 obtain⟨hE,dg⟩:=hS.zI (p:=len) (more:=x::more) (news:=news) hk bN p1 (fun r hr=>(h3 r hr).1) jA.1 (fun i row j a hi ha=>jA.2.2 i row hi j a ha) h2 h0
 refine⟨.slice (some ⟨g.ob k,0,none⟩) (len+(x::more).length) cc,_,g,.inl ?_,?_,dg,hE⟩
 ·have hx:(execOp q.eval o).run P w=((Builtin.append_ #[t,t2] o.type #[q.eval u,q.eval v]).run P w).andThen fun v w'=>.ok (.value v) w':=by
   simp [execOp,ho,resolve,hc,fe,bA,invoke,builtin]
  rw [hx,e1,e3,m6 ht eZ,Nat.zero_mul,cr]
  rfl
 ·have:=aJ.ob (g:=g) (w:=w.setRow (g.ob k) (cs.toList.take (len*sz)++news++cs.toList.drop (len*sz+news.length)).toArray) (k:=k) (sz:=sz) (off:=0) (len:=len+(x::more).length) (c:=cc) (cx:=none) bN (fun m h=>by cases h) nr hcn px
  rw [Nat.zero_mul] at this
  exact this
end
def Dq (q:dm) (f:Nat->AV) (s:XS):Option (AV × XS):=match q with
 |.j8 z by_ l c=>match l.ev f,c.ev f with
  |.v (.int _ i),.v (.int _ j)=>match decide (0<=i/\i < j/\j*by_<=35184372088832/\j<=9223372036854775807) && !dZ s.yk s.nx with
   |true=>some (.ob s.nx z.length 0 i.toNat none,j5 s (.arr z.length (List.replicate j.toNat z) 0 true))
   |false=>none
  |_,_=>none
 |.slice (.sl m) x lo hi none=>match x.ev f with
  |.ob k sz off len none=>match (ez s).get k,jc f lo 0,jc f hi len with
   |some (.arr sz' rows _ _),some l,some h=>match Nat.beq sz' sz && Nat.beq m sz && decide (0<=l/\l < h/\(len:Int) < h/\off+h<=rows.length) with
    |true=>some (.ob k sz (off+l.toNat) (h.toNat - l.toNat) none,s)
    |false=>none
   |_,_,_=>none
  |_=>none
 |.sK z x=>match x.ev f with
  |.ob k sz off len _=>match (ez s).get k with
   |some (.arr sz' rows fz ex)=>match Nat.beq sz' sz && Nat.beq z.length sz && fD cn z && Nat.ble (off+len) rows.length && Nat.ble fz off && Nat.blt 0 len with
    |true=>some (.bg [],lD s k (some (.arr sz (rows.take off++List.replicate len z++rows.drop (off+len)) fz ex)))
    |false=>none
   |_=>none
  |_=>none
 |.append sz by_ a b=>match a.ev f with
  |.ob k sz' 0 len none=>match (ez s).get k,dh (ez s) (b.ev f) with
   |some (.arr fO rows fz ex),some (x::more)=>match Nat.beq fO sz && Nat.beq sz' sz && Nat.ble (len+(x::more).length) rows.length && Nat.ble fz len && jB sz (x::more) && qq cn (x::more) with
    |true=>some (.ob k sz 0 (len+(x::more).length) none,lD s k (some (.arr sz (rows.take len++(x::more)++rows.drop (len+(x::more).length)) fz ex)))
    |false=>none
   |_,_=>none
  |_=>none
 |.copy sz a b=>match a.ev f with
  |.ob k sz' off len _=>match dh (ez s) (b.ev f) with
   |some []=>some (.v (.int .i64 0),s)
   |some (x::more)=>match (ez s).get k with
    |some (.arr fO rows fz ex)=>match Nat.beq fO sz && Nat.beq sz' sz && Nat.ble (x::more).length len && Nat.ble (off+len) rows.length && Nat.ble fz off && jB sz (x::more) && qq cn (x::more) with
     |true=>some (.v (.int .i64 (x::more).length),lD s k (some (.arr sz (rows.take off++(x::more)++rows.drop (off+(x::more).length)) fz ex)))
     |false=>none
    |_=>none
   |none=>none
  |_=>none
 |_=>none
section
variable {P:Program}{w0:World}{s s':XS}{r:AV}
theorem Kg {q:dm}{f:Nat->AV}{df:List Nat}(h:Dq q f s=some (r,s')):(∀ J,ad P w0 false q ⟨f,df⟩ (den J s) r (den J s'))/\dU s s'/\s'.lg=s.lg:=by
 cases q with
 |j8 z by_ l c =>
  simp only [Dq] at h
  split at h
  ·rename_i k1 i k2 j hl hc
   split at h
   ·rename_i hd
    simp only [Bool.and_eq_true,Bool.not_eq_true'] at hd
    have d_:=of_decide_eq_true hd.1
    simp only [Option.some.injEq,Prod.mk.injEq] at h
    obtain⟨rfl,rfl⟩:=h
    refine⟨fun J=>?_,.nw,rfl⟩
    rw [iq hd.2]
    exact ad.aca hl hc d_.1 (by omega) d_.2.2.1 d_.2.2.2
   ·cases h
  ·cases h
 |slice k x lo hi mx =>
  cases k with
  |str=>cases h
  |sl m =>
   cases mx with
   |some mx=>cases h
   |none =>
    simp only [Dq] at h
    split at h
    ·rename_i k sz off len hx
     split at h
     ·rename_i sz' rows fz ex l hh hk hl sI
      split at h
      ·rename_i hc
       simp only [Bool.and_eq_true] at hc
       obtain⟨⟨h1,h2⟩,h3⟩:=hc
       have h1:=Nat.eq_of_beq_eq_true h1
       have h2:=Nat.eq_of_beq_eq_true h2
       have h3:=of_decide_eq_true h3
       subst h1
       simp only [Option.some.injEq,Prod.mk.injEq] at h
       obtain⟨rfl,rfl⟩:=h
       exact⟨fun J=>ad.acb hx (du (J:=J) hk).1 h2 hl sI h3.1 h3.2.1 (by omega),.refl _,rfl⟩
      ·cases h
     ·cases h
    ·cases h
 |sK z x =>
  simp only [Dq] at h
  split at h
  ·rename_i k sz off len cx hx
   split at h
   ·rename_i sz' rows fz ex hk
    split at h
    ·rename_i hc
     simp only [Bool.and_eq_true] at hc
     obtain⟨⟨⟨⟨⟨h1,h2⟩,h3⟩,h4⟩,h5⟩,h6⟩:=hc
     have h1:=Nat.eq_of_beq_eq_true h1
     subst h1
     simp only [Option.some.injEq,Prod.mk.injEq] at h
     obtain⟨rfl,rfl⟩:=h
     refine⟨fun J=>?_,.wr,rfl⟩
     obtain⟨iV,dS⟩:=du (J:=J) hk
     rw [j6 dS]
     exact ad.Vo hx iV (Nat.eq_of_beq_eq_true h2) h3 (Nat.le_of_ble_eq_true h4) (Nat.le_of_ble_eq_true h5) (dR h6)
    ·cases h
   ·cases h
  ·cases h
 |append sz by_ a b =>
  simp only [Dq] at h
  split at h
  ·rename_i k sz' len ha
   split at h
   ·rename_i fO rows fz ex x more hk hm
    split at h
    ·rename_i hc
     simp only [Bool.and_eq_true] at hc
     obtain⟨⟨⟨⟨⟨h1,h2⟩,h3⟩,h4⟩,h5⟩,h6⟩:=hc
     have h1:=Nat.eq_of_beq_eq_true h1
     have h2:=Nat.eq_of_beq_eq_true h2
     subst h1 h2
     simp only [Option.some.injEq,Prod.mk.injEq] at h
     obtain⟨rfl,rfl⟩:=h
     refine⟨fun J=>?_,.wr,rfl⟩
     obtain⟨iV,dS⟩:=du (J:=J) hk
     rw [j6 dS]
     exact ad.ace ha iV (gL hm) (Nat.le_of_ble_eq_true h4) (Nat.le_of_ble_eq_true h3) (fun row hr=>⟨e8 h5 row hr,List.all_eq_true.2 (jX h6 row hr)⟩)
    ·cases h
   ·cases h
  ·cases h
 |copy sz a b =>
  simp only [Dq] at h
  split at h
  ·rename_i k sz' off len cx ha
   split at h
   ·rename_i hm
    simp only [Option.some.injEq,Prod.mk.injEq] at h
    obtain⟨rfl,rfl⟩:=h
    exact⟨fun J=>ad.abG ha (gL hm),.refl _,rfl⟩
   ·rename_i x more hm
    split at h
    ·rename_i fO rows fz ex hk
     split at h
     ·rename_i hc
      simp only [Bool.and_eq_true] at hc
      obtain⟨⟨⟨⟨⟨⟨h1,h2⟩,h3⟩,h4⟩,h5⟩,h6⟩,h7⟩:=hc
      have h1:=Nat.eq_of_beq_eq_true h1
      have h2:=Nat.eq_of_beq_eq_true h2
      subst h1 h2
      simp only [Option.some.injEq,Prod.mk.injEq] at h
      obtain⟨rfl,rfl⟩:=h
      refine⟨fun J=>?_,.wr,rfl⟩
      obtain⟨iV,dS⟩:=du (J:=J) hk
      rw [j6 dS]
      exact ad.cpy ha iV (gL hm) (Nat.le_of_ble_eq_true h3) (Nat.le_of_ble_eq_true h4) (Nat.le_of_ble_eq_true h5) (fun row hr=>⟨e8 h6 row hr,List.all_eq_true.2 (jX h7 row hr)⟩)
     ·cases h
    ·cases h
   ·cases h
  ·cases h
 |_=>cases h
end
end Go.Proofs.YtbofilglphfceaaGreat
