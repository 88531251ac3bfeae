import Derived.ChangeArms
import Derived.OpenShut
import Derived.ProofKit
import Derived.Test.YtbofilglphfceaaGreatRows
import Derived.Test.YtbofilglphfceaaGreatD18
namespace Go.Proofs.YtbofilglphfceaaGreat
set_option linter.unusedVariables false
set_option linter.unusedSimpArgs false
open Go.RowKit
section
variable {P:Program}{w0:World}{S:U}{r:AV}
theorem St.start (w:World):St w (fun b=>w.heap.size<=b) ⟨fun _=>0,fun _=>0,fun _=>False,fun b _=>b < w.heap.size,fun _ _=>False⟩ U.none_ w :=
 have e0:∀ k o,¬ U.none_.get k=some o:=fun k o h=>by simp [U.none_] at h
 ⟨Below.refl _ _,fun _ h=>h,fun _ h=>h,fun k hk=>hk.elim,fun k o hk=>absurd hk (e0 k o),fun j k o p hj=>absurd hj (e0 j o),fun b q h=>h,fun b q h=>h,fun k J hk=>absurd hk (e0 k _),fun k J j o hk=>absurd hk (e0 k _),fun j k J J' hj=>absurd hj (e0 j _)⟩
theorem ag.calls {f:FuncId}{args:List AV}{x:Value}{bz:Array Value}{w:World}(h:ag P w f args (.v x)) (hA:ia ⟨fun _=>0,fun _=>0,fun _=>False,fun b _=>b < w.heap.size,fun _ _=>False⟩ w args bz) :
  Calls P f bz w fun e w'=>e=.returned x/\Below w.heap.size w w':=by
 obtain⟨_,S',_,h⟩:=h
 refine (callsIn_wide (n:=0).1 (h Fence.wide 0 _ _ bz w fM.wide (St.start w) hA)).mono ?_
 rintro e w' ⟨v,g',rfl,hr,hS,hE⟩
 obtain rfl:=a_ hr
 exact⟨rfl,hS.base⟩
end
def g0 (w:World):Gh:=⟨fun _=>0,fun _=>0,fun _=>False,fun b _=>b < w.heap.size,fun _ _=>False⟩
def bw (P:Program) (n:Nat) (t:TypeId) (sz:Nat) {α:Type}(lay:α->List AV) (μ:α->Nat):Prop :=
 ∀ (H:Type) (enc:TypeId × Value->H) (w:World) (sp:Nat->Bool) (held:Bool) (m:Nat),m < n->∀ (cs:List Value) (d:DataW H × List MemPlace),cs.length=sz->DataW.trod enc P w 0 sp held m t cs=some d ->
  ∃ x,μ x<=Rows.uptoBulk d.1/\(lay x).length=sz/\∀ (j:Nat) (a:AV) (v:Value),(lay x)[j]?=some a->cs[j]?=some v->ao (g0 w) w a v
def eS {α:Type}(μ:α->Nat):List α->Nat
 |[]=>0
 |x::l=>μ x+eS μ l
theorem xI {α H:Type}{μ:α->Nat}:∀ {l:List α}{ds:List (DataW H × List MemPlace)},l.length=ds.length->(∀ (i:Nat) (x:α) (e:DataW H × List MemPlace),l[i]?=some x->ds[i]?=some e->μ x<=Rows.uptoBulk e.1)->eS μ l<=Rows.uptoBulkAll (ds.map (·.1))
 |[],ds,_,_=>Nat.zero_le _
 |x::l,[],h,_=>by simp at h
 |x::l,e::ds,h,hk=>by
  rw [eS,List.map_cons,Rows.uptoBulkAll]
  have h1:=hk 0 x e rfl rfl
  have h2:=xI (l:=l) (ds:=ds) (by simpa using h) fun i y z hy hz=>hk (i+1) y z (by simpa using hy) (by simpa using hz)
  omega
section
variable {P:Program}{n:Nat}{t:TypeId}{sz:Nat}
theorem bw.less {α:Type}{lay:α->List AV}{μ:α->Nat}{m:Nat}(h:bw P n t sz lay μ) (hm:m<=n):bw P m t sz lay μ:=fun H enc w sp held k hk=>h H enc w sp held k (by omega)
theorem bw.int (ht:P.underlying t=some (.int .i64)):bw P n t 1 gH (fun _=>1):=by
 intro H enc w sp held m _ cs d hl h
 obtain⟨z,rfl,rfl,hw⟩:=DataW.trod_int ht h
 refine⟨z,by simp only [Rows.uptoBulk];exact Nat.le_refl _,rfl,fun j a v ha hv=>?_⟩
 cases j with
 |zero=>simp [gH] at ha hv;subst ha hv;exact .v
 |succ j=>simp [gH] at ha
theorem bw.str (ht:P.underlying t=some .string):bw P n t 1 (fun s:ByteArray=>[AV.v (.string s)]) (fun s=>s.size+1):=by
 intro H enc w sp held m _ cs d hl h
 obtain⟨z,rfl,rfl,hw⟩:=DataW.trod_string ht h
 refine⟨z,by simp only [Rows.uptoBulk];exact Nat.le_refl _,rfl,fun j a v ha hv=>?_⟩
 cases j with
 |zero=>simp at ha hv;subst ha hv;exact .v
 |succ j=>simp at ha
theorem bw.bool (ht:P.underlying t=some .bool):bw P n t 1 (fun b:Bool=>[AV.v (.bool b)]) (fun _=>1):=by
 intro H enc w sp held m _ cs d hl h
 obtain⟨z,rfl,rfl⟩:=DataW.trod_bool ht h
 refine⟨z,by simp only [Rows.uptoBulk];exact Nat.le_refl _,rfl,fun j a v ha hv=>?_⟩
 cases j with
 |zero=>simp at ha hv;subst ha hv;exact .v
 |succ j=>simp at ha
theorem bw.slice {α:Type}{lay:α->List AV}{μ:α->Nat}{e:TypeId}(ht:P.underlying t=some (.slice e)) (a7:P.cellsOf e=sz) (Jq:0 < sz) (Gu:bw P n e sz lay μ) :
  bw P (n+1) t 1 (fun l:List α=>[dZ .plain lay false l]) (fun l=>eS μ l+1):=by
 have Qr:∀ l:List α,dZ .plain lay false l=.sl false (l.map lay):=fun l=>jj
 simp only [Qr]
 intro H enc w sp held m hm cs d hl h
 rcases DataW.trod_slice ht h with ⟨hv,hd⟩|⟨a,len,cap,elems,rest,k,hk,hv,hd,_,CL,D6,hlen,hi,_⟩
 ·subst hv
  refine⟨[],by rw [hd];simp only [Rows.uptoBulk,eS];exact Nat.le_refl _,rfl,fun j b v hb hv=>?_⟩
  cases j with
  |zero=>simp at hb hv;subst hb hv;exact .nil (fun h=>by cases h)
  |succ j=>simp at hb
 ·have Gv:0 < len->a.spot=none:=by
   intro h0
   have h3:=hi 0 h0
   rw [a7] at h3
   have h4:elems[0]?=some (elems[0]'(by omega)):=List.getElem?_eq_getElem (by omega)
   rw [h4] at h3
   obtain⟨cs',jQ,_⟩:=Option.bind_eq_some_iff.1 h3
   obtain⟨_,Ug,Js⟩:=World.cells?_some jQ
   have h5:=Js 0 Jq
   have h6:cs'[0]?=some (cs'[0]'(by omega)):=List.getElem?_eq_getElem (by omega)
   rw [h6] at h5
   simp only [Nat.zero_mul,Addr.add,if_true] at h5
   unfold World.cell? at h5
   split at h5
   ·split at h5
    ·cases h5
    ·rename_i hs;simpa using hs
   ·cases h5
  have key:∀ i,i < len->∃ x,(∀ e,elems[i]?=some e->μ x<=Rows.uptoBulk e.1)/\(lay x).length=sz/\∀ (j:Nat) (b:AV),(lay x)[j]?=some b->∃ v,w.cell? ⟨a.block,a.off+i*sz+j,none⟩=some v/\ao (g0 w) w b v:=by
   intro i SG
   have h1:=hi i SG
   rw [a7] at h1
   have h2:elems[i]?=some (elems[i]'(by omega)):=List.getElem?_eq_getElem (by omega)
   rw [h2] at h1
   obtain⟨cs,tu,SH⟩:=Option.bind_eq_some_iff.1 h1
   obtain⟨_,Pr,gZ⟩:=World.cells?_some tu
   obtain⟨x,hx,Ps,hr⟩:=Gu H enc w sp held k (by omega) cs _ Pr SH
   refine⟨x,fun e he=>by rw [h2] at he;rw [<-Option.some.inj he];exact hx,Ps,fun j b hb=>?_⟩
   have hj:j < sz:=by rw [<-Ps];exact (List.getElem?_eq_some_iff.1 hb).1
   have hv:cs[j]?=some (cs[j]'(by omega)):=List.getElem?_eq_getElem (by omega)
   have h5:=gZ j hj
   have hs:=Gv (by omega)
   have Qs:(a.add (i*sz)).add j=⟨a.block,a.off+i*sz+j,none⟩:=by
    obtain⟨b',off,spot⟩:=a
    simp only at hs
    subst hs
    unfold Addr.add
    by_cases hz:i*sz=0<;>by_cases hj:j=0<;>simp [hz,hj]
   rw [Qs,hv] at h5
   exact⟨_,h5,hr j b _ hb hv⟩
  obtain⟨l,Gw,eD⟩:∃ l:List α,l.length=len/\∀ i x,l[i]?=some x->(∀ e,elems[i]?=some e->μ x<=Rows.uptoBulk e.1)/\(lay x).length=sz/\∀ (j:Nat) (b:AV),(lay x)[j]?=some b->∃ v,w.cell? ⟨a.block,a.off+i*sz+j,none⟩=some v/\ao (g0 w) w b v:=by
   refine⟨(List.range len).attach.map (fun i=>Classical.choose (key i.1 (by simpa using i.2))),by simp,fun i x hx=>?_⟩
   simp only [List.getElem?_map,Option.map_eq_some_iff] at hx
   obtain⟨q,hq,rfl⟩:=hx
   have SI:q.1=i:=by
    have h1:((List.range len).attach.map Subtype.val)[i]?=some q.1:=by simp only [List.getElem?_map,hq,Option.map_some]
    rw [List.attach_map_subtype_val] at h1
    obtain⟨_,h2⟩:=List.getElem?_eq_some_iff.1 h1
    simpa using h2.symm
   rw [<-SI]
   exact Classical.choose_spec (key q.1 (by simpa using q.2))
  have SJ:cs=[.slice (some a) len cap]:=by simpa using hv
  subst SJ
  refine⟨l,?_,rfl,fun j b v hb hv=>?_⟩
  ·rw [hd]
   have:=xI (μ:=μ) (l:=l) (ds:=elems) (by omega) fun i x e hx he=>(eD i x hx).1 e he
   simp only [Rows.uptoBulk]
   omega
  ·cases j with
   |succ j=>simp at hb
   |zero =>
    simp at hb hv
    subst hb hv
    by_cases h0:l=[]
    ·subst h0
     simp at Gw
     subst Gw
     exact .nil (fun h=>by cases h)
    ·have hs:=Gv (by rw [<-Gw];exact List.length_pos_iff.2 h0)
     obtain⟨b',off,spot⟩:=a
     simp only at hs
     subst hs
     have Jt:len=(l.map lay).length:=by simp [Gw]
     have row:∀ (i:Nat) (row:List AV),(l.map lay)[i]?=some row->row.length=sz/\∀ (j:Nat) (b:AV),row[j]?=some b->∃ v,w.cell? ⟨b',off+i*sz+j,none⟩=some v/\ao (g0 w) w b v:=by
      intro i row hr
      simp only [List.getElem?_map,Option.map_eq_some_iff] at hr
      obtain⟨x,hx,rfl⟩:=hr
      exact (eD i x hx).2
     rw [Jt]
     refine .sl (sz:=sz) (val:=fun i j=>(w.cell? ⟨b',off+(i*sz+j),none⟩).getD undef) (by simpa using h0) (fun h=>by cases h) (by rw [<-Jt];exact CL) (fun i r hr=>(row i r hr).1) (fun i j r b hr hb=>?_) (fun i j r b hr hb=>?_)
     ·obtain⟨v,h1,h2⟩:=(row i r hr).2 j b hb
      rw [Nat.add_assoc] at h1
      exact⟨block_lt_of_cell h1,by rw [h1];rfl⟩
     ·obtain⟨v,h1,h2⟩:=(row i r hr).2 j b hb
      rw [Nat.add_assoc] at h1
      rw [h1]
      exact h2
theorem bw.fields {H:Type}{enc:TypeId × Value->H}{w:World}{sp:Nat->Bool}{held:Bool}{fs:Array Field}(ht:P.underlying t=some (.struct fs)) {fuel:Nat}{cs:List Value}{d:DataW H × List MemPlace}(h:DataW.trod enc P w 0 sp held fuel t cs=some d) :
  ∃ (n:Nat) (xs:List (DataW H × List MemPlace)),fuel=n+1/\xs.length=fs.size/\Rows.uptoBulk d.1=Rows.uptoBulkAll (xs.map (·.1))+1/\∀ (i ty off:Nat),(fs[i]?).map (fun f=>(f.type,f.offset))=some (ty,off)->∃ y,xs[i]?=some y/\DataW.trod enc P w 0 sp held n ty ((cs.drop off).take (P.cellsOf ty))=some y:=by
 obtain⟨xs,n,hn,hd,_,hl,hf⟩:=DataW.trod_struct ht h
 refine⟨n,xs,hn,hl,by rw [hd];simp only [Rows.uptoBulk],fun i ty off hi=>?_⟩
 obtain⟨f,dD,cV⟩:=Option.map_eq_some_iff.1 hi
 simp only [Prod.mk.injEq] at cV
 obtain⟨rfl,rfl⟩:=cV
 have au:i < fs.size:=(Array.getElem?_eq_some_iff.1 dD).1
 exact⟨xs[i]'(by omega),List.getElem?_eq_getElem (by omega),(hf i f dD).trans (List.getElem?_eq_getElem (by omega))⟩
theorem bw.part {α:Type}{H:Type}{enc:TypeId × Value->H}{w:World}{sp:Nat->Bool}{held:Bool}{lay:α->List AV}{μ:α->Nat}{m ty k off i:Nat}{cs:List Value}{xs:List (DataW H × List MemPlace)}(hR:bw P n ty k lay μ) (hm:m < n) (hk:P.cellsOf ty=k) (hlen:off+k<=cs.length)
  (h:∃ y,xs[i]?=some y/\DataW.trod enc P w 0 sp held m ty ((cs.drop off).take (P.cellsOf ty))=some y):∃ x,μ x<=((xs[i]?).map fun y=>Rows.uptoBulk y.1).getD 0/\(lay x).length=k/\∀ (j:Nat) (a:AV) (v:Value),(lay x)[j]?=some a->cs[off+j]?=some v->ao (g0 w) w a v:=by
 obtain⟨y,hy,h⟩:=h
 rw [hk] at h
 obtain⟨x,h1,h2,h3⟩:=hR H enc w sp held m hm _ y (by simp;omega) h
 refine⟨x,by rw [hy];exact h1,h2,fun j a v ha hv=>h3 j a v ha ?_⟩
 have hj:j < k:=by rw [<-h2];exact (List.getElem?_eq_some_iff.1 ha).1
 rw [List.getElem?_take,if_pos hj,List.getElem?_drop]
 exact hv
def gD {H:Type}(xs:List (DataW H × List MemPlace)):Nat->Nat
 |0=>0
 |k+1=>gD xs k+((xs[k]?).map fun y=>Rows.uptoBulk y.1).getD 0
theorem rQ {H:Type}{y:DataW H × List MemPlace}{xs:List (DataW H × List MemPlace)}:∀ k,gD (y::xs) (k+1)=Rows.uptoBulk y.1+gD xs k
 |0=>by simp [gD]
 |k+1=>by
  rw [gD,rQ k,gD]
  simp only [List.getElem?_cons_succ]
  omega
theorem fJ {H:Type}:∀ {xs:List (DataW H × List MemPlace)},gD xs xs.length=Rows.uptoBulkAll (xs.map (·.1))
 |[]=>rfl
 |y::xs=>by
  rw [List.length_cons,rQ,fJ,List.map_cons,Rows.uptoBulkAll]
end
abbrev SA:=Nat->(Nat->Nat->Prop)->(Nat->Prop)->World->Prop
theorem uY {B:Nat}:∀ {l:List (Nat × AV)},(∀ p ∈ l,da B p.2)->∀ t,da B (fN (fun _=>.u) l t)
 |[],_,_=>.u
 |p::l,h,t=>by
  show da B (a6 (fN (fun _=>.u) l) p.1 p.2 t)
  by_cases e:t=p.1
  ·rw [e,ah];exact h p (by simp)
  ·rw [aw _ _ e];exact uY (fun q hq=>h q (by simp [hq])) t
section
variable {P:Program}{w0:World}{rd:Bool}{n B:Nat}{α af:AA}{S S':U}{Q:Exit->AA->U->Prop}{r:AV}{i:QI}{l:List QI}{K:List ji}{V:List (Nat × Nat)}{lg:List (List Nat × List Nat × Bool)}{rs:List Nat}{d:Dt}{q:cj}
theorem ab.xf (hw:ca α.tm i.g=some true) (h:bC P w0 B i.q α S r d) (k:ab P w0 rd n Q (.cB B V (lg++[d.ns]) rs l K) (cH i.d α r) (cD S d.W d.m)):ab P w0 rd n Q (.cB B V lg rs (i::l) K) α S :=
 fun fZ hB=>ic.op hB hw h (k fZ (by rw [cJ];exact Nat.le_trans hB (Nat.le_add_right _ _)))
def isB:cj->Bool
 |.bin ..|.conv ..|.kS ..|.neg _|.kT ..|.j_ ..|.oq ..|.na ..|.slice ..|.len ..|.min ..|.max ..|.call ..|.mv ..|.pick ..|.build ..|.rows ..|.not _|.pn ..|.field ..|.extract ..|.uH ..|.pq _=>true
 |_=>false
theorem bC.pure (h:∀ T,aa P w0 true q α T r T):bC P w0 B q α S r ⟨[],[],false⟩:=by
 refine fun n o hr=>⟨fun _=>rfl,(show gJ S [] from fun p hp=>by cases hp),fun T _ _ _=>?_⟩
 rw [show cD T [] false=T from bH]
 exact (h T n o hr).1
theorem ab.pQ (hw:ca α.tm i.g=some true) (h:∀ T,aa P w0 true i.q α T r T) (k:ab P w0 rd n Q (.cB B V (lg++[([],[],false)]) rs l K) (cH i.d α r) S):ab P w0 rd n Q (.cB B V lg rs (i::l) K) α S :=
 ab.xf hw (bC.pure h) (by rw [show cD S [] false=S from bH];exact k)
theorem ab.IW {T:Type}(F:T->AV) {p:T}(hw:ca α.tm i.g=some true) (h:∀ T,aa P w0 true i.q α T (F p) T) (k:∀ p',p'=p->ab P w0 rd n Q (.cB B V (lg++[([],[],false)]) rs l K) (cH i.d α (F p')) S):ab P w0 rd n Q (.cB B V lg rs (i::l) K) α S:=ab.pQ hw h (k p rfl)
def Cv (w0:World) (n:Nat) (α:AA) (S:U) (af:AA) (S':U):Prop :=
 ∀ (A:Nat->Prop) (g:Gh) (a:Act) (w:World),St w0 A g S w->aX g w n α a->∃ g',St w0 A g' S' w/\aX g' w n af a/\Ext A g w g' w
theorem bA.cv {c:Code}{ex:Exit}{bD:AA}{bQ:U}(h:Cv w0 n α S af S') (k:bA P w0 rd n c af S' ex bD bQ):bA P w0 rd n c α S ex bD bQ:=by
 intro F m A g a w hF hR hS hA
 obtain⟨g',h1,h2,h3⟩:=h A g a w hS hA
 exact wpIn_mono (k F m A g' a w hF hR h1 h2) fun e a w hq=>iD.ext h3 hq
theorem ab.cv {c:QC}(h:Cv w0 n α S af S') (k:ab P w0 rd n Q (.run c K) af S'):ab P w0 rd n Q (.run c K) α S:=by
 intro c0 hc hd
 obtain⟨ex,bD,bQ,h1,h2⟩:=k c0 hc hd
 exact⟨ex,bD,bQ,h1.cv h,h2⟩
def Rv (w0:World) (r:AV) (S:U) (r':AV) (S':U):Prop:=∀ (A:Nat->Prop) (g0 g:Gh) (IX w:World) (v:Value),St w0 A g S w->ao g w r v->∃ g',St w0 A g' S' w/\ao g' w r' v/\Ext A g w g' w
theorem aX.slot {g:Gh}{w:World}{a:Act}{t:Nat}{b:AV}(h:aX g w n α a) (ht:α.tm t ≠ .u) (hr:ao g w b (a.tmps.getD t undef)):aX g w n ⟨a6 α.tm t b,α.df⟩ a:=by
 have au:t < n:=by
  rcases Nat.lt_or_ge t n with h1|h1
  ·exact h1
  ·exact absurd (h.out t h1) ht
 refine⟨h.size,fun s hs=>?_,fun s hs=>?_,h.df,h.nU⟩
 ·show ao g w (a6 α.tm t b s) _
  by_cases e:s=t
  ·subst e;rw [ah];exact hr
  ·rw [aw _ _ e];exact h.tm s hs
 ·show a6 α.tm t b s=.u
  rw [aw _ _ (by omega)];exact h.out s hs
theorem DS {t k sz by_ len:Nat}{ex:Bool}{b:QO}{rows more:List (List AV)}{x:List AV}{o:Oper}(ho:res P.toTables o.op=some (.append sz by_ (.t t) b)) (h1:α.tm t=.gr k sz len) (hk:S.get k=some (.arr sz rows 0 ex)) (hn:len=rows.length)
  (hb:∀ c,b.ev (a6 α.tm t c)=b.ev α.tm) (hm:cu S (b.ev α.tm)=some (x::more)) (FX:cu (S.set k none) (b.ev α.tm)=some (x::more)) (h3:∀ row ∈ x::more,row.length=sz/\row.all bp=true) (h4:(len+(x::more).length)*by_<=35184372088832) :
  cP P w0 n o α S (.gr S.nx sz (len+(x::more).length)) ((S.set k none).new (.arr sz (rows++x::more) 0 false)):=by
 intro F mm A g a w nx R hF hS hA kL
 have au:t < n:=by
  rcases Nat.lt_or_ge t n with h|h
  ·exact h
  ·have:=hA.out t h;rw [h1] at this;cases this
 have hr:=hA.tm t au
 rw [h1] at hr
 obtain⟨v,hv⟩:∃ v,a.tmps.getD t undef=v:=⟨_,rfl⟩
 have aM:α.tm t ≠ .u:=by rw [h1];intro h;cases h
 rw [hv] at hr
 rcases oI hr with ⟨h,A',rfl⟩|⟨kK,c,rfl,hx,hle⟩
 ·have l7:rows=[]:=List.length_eq_zero_iff.1 (by omega)
  subst l7
  have uZ:aX g w n ⟨a6 α.tm t (.sl true []),α.df⟩ a:=hA.slot aM (by rw [hv];exact .nil fun _=>rfl)
  have km:St w0 A g (S.set k none) w:=hS.forget (Nat.le_refl _) fun j p hj _=>by
   have hj:a6 S.get k none j=some p:=hj
   by_cases e:j=k
   ·subst e;rw [ah] at hj;cases hj
   ·rwa [aw _ _ e] at hj
  have h5:=aa.uP (P:=P) (w0:=w0) (dr:=false) (α:=⟨a6 α.tm t (.sl true []),α.df⟩) (S:=S.set k none) (sz:=sz) (by_:=by_) (a:=.t t) (b:=b) (rows:=[]) (ah _ _ _) (by rw [hb];exact FX) (by simp) (fun row hr=>(h3 row hr).1) (by subst h;simpa using h4) n o ho
  refine h5 F mm A g a w nx R hF km uZ fun v w' g' k1 k2 k3=>kL v w' g' ?_ k2 k3
  subst h
  cases k1 with
  |ob q1 q2 q3 q4 q5=>rw [Nat.zero_mul];exact .gr q1 (by have h:=q4 rfl;rw [Nat.zero_add] at h;exact h) q5
 ·have uZ:aX g w n ⟨a6 α.tm t (.ob k sz 0 len none),α.df⟩ a:=hA.slot aM (by
   rw [hv]
   have:=ao.ob (g:=g) (w:=w) (k:=k) (sz:=sz) (off:=0) (len:=len) (c:=c) (cx:=none) kK (fun m h=>by cases h) (by omega) (fun _=>by omega) hle
   rwa [Nat.zero_mul] at this)
  have h5:=aa.yB (P:=P) (w0:=w0) (dr:=false) (α:=⟨a6 α.tm t (.ob k sz 0 len none),α.df⟩) (S:=S) (sz:=sz) (by_:=by_) (a:=.t t) (b:=b) (k:=k) (fz:=0) (ex:=ex) (rows:=rows) (ah _ _ _) hk (by rw [hb];exact hm) (Nat.zero_le _) (by omega) h3 h4 n o ho
  rw [List.take_of_length_le (by omega)] at h5
  refine h5 F mm A g a w nx R hF hS uZ fun v w' g' k1 k2 k3=>kL v w' g' ?_ k2 k3
  cases k1 with
  |ob q1 q2 q3 q4 q5=>rw [Nat.zero_mul];exact .gr q1 (by have:=q4 rfl;omega) q5
section
variable {ρ:Hd}{T:Type}{f:T->List AV}{acc:List T}{x:T}
theorem bG.grow {S:U}{k sz len:Nat}{ex:Bool}(hk:S.get k=some (.arr sz (ρ.h (List.map f) acc) 0 ex)) (hn:len=acc.length):bG S (.gr k sz len) (dZ ρ f false acc):=by
 rw [jj]
 rw [ρ.eq] at hk
 refine .gr hk (by simp;omega) (by simp [hn]) (fun i row aG h1 h2=>?_) (fun i j row aG a a' h1 h2 h3 h4=>?_)
 ·rw [h2] at h1
  rw [Option.some.inj h1]
 ·rw [h2] at h1
  rw [Option.some.inj h1,h3] at h4
  rw [Option.some.inj h4]
  exact .refl _
end
end
section
variable {P:Program}{w0:World}{rd:Bool}{n B:Nat}{α:AA}{S S':U}{Q:Exit->AA->U->Prop}{r:AV}{l:List QI}{K:List ji}{V:List (Nat × Nat)}{lg:List (List Nat × List Nat × Bool)}{rs:List Nat}
theorem tH {o:Op}{x:Option QO}(h:res P.toTables o=some (.jZ x)):∃ t y kt et,o=.makeMap t y/\x=y.map qo/\P.underlying t=some (.map kt et):=by
 cases o with
 |makeMap t y =>
  simp only [res,aZ] at h
  split at h
  ·rename_i kt et hu
   simp only [Option.some.injEq,cj.jZ.injEq] at h
   exact⟨_,_,_,_,rfl,h.symm,hu⟩
  ·cases h
 |_ =>
  simp only [res] at h
  repeat' split at h
  all_goals cases h
theorem aa.jZ:aa P w0 false (.jZ none) α S (.mp S.nx) (S.new (.mp [])):=aa.run fun n o hr=>by
 obtain⟨t,y,kt,et,ho,hy,hu⟩:=tH hr
 cases y with
 |some y=>cases hy
 |none=>exact Cg ho
theorem aa.IY {x:QO}{kk:IntKind}{m:Int}(hx:x.ev α.tm=.v (.int kk m)):aa P w0 false (.jZ (some x)) α S (.mp S.nx) (S.new (.mp [])):=aa.run fun n o hr=>by
 obtain⟨t,y,kt,et,ho,hy,hu⟩:=tH hr
 cases y with
 |none=>cases hy
 |some y =>
  obtain rfl:=Option.some.inj hy
  rw [ay] at hx
  exact yp ho hu hx
theorem DT {o:Op}{z:AV}{c:Bool}{x i:QO}(h:res P.toTables o=some (.look z c x i)):∃ t u v kt et kk zv,o=.lookup t u v c/\x=qo u/\i=qo v/\P.underlying t=some (.map kt et)/\P.underlying kt=some (.int kk)/\bY P et=some zv/\z=lift zv:=by
 cases o with
 |lookup t u v c' =>
  simp only [res,aZ,dX] at h
  split at h
  ·rename_i kt et hu
   split at h
   ·rename_i kk zv hk hz
    simp only [Option.some.injEq,cj.look.injEq] at h
    obtain⟨rfl,rfl,rfl,rfl⟩:=h
    exact⟨_,_,_,_,_,_,_,rfl,rfl,rfl,hu,hk,hz,rfl⟩
   all_goals cases h
  ·cases h
 |_ =>
  simp only [res] at h
  repeat' split at h
  all_goals cases h
theorem aa.look {z:AV}{c:Bool}{x i:QO}{k:Nat}{es:List (Value × AV)}{m:Int}(hx:x.ev α.tm=.mp k) (hS:S.get k=some (.mp es)) (hk:m9 es) (hi:i.ev α.tm=.v (.int .i64 m)) :
  aa P w0 false (.look z c x i) α S (match uo es m with|some a=>(if c then .aL [a,.v (.bool true)] else a)|none=>(if c then .aL [z,.v (.bool false)] else z)) S:=aa.run fun n o hr=>by
 obtain⟨t,u,v,kt,et,kk,zv,ho,rfl,rfl,h1,h2,h3,rfl⟩:=DT hr
 rw [ay] at hx hi
 exact Dz ho h1 h2 h3 hx hS hk hi
theorem u0 {o:Op}{x i b:QO}(h:res P.toTables o=some (.mu x i b)):∃ t u v y kt et kk,o=.mapUpdate t u v y/\x=qo u/\i=qo v/\b=qo y/\P.underlying t=some (.map kt et)/\P.underlying kt=some (.int kk):=by
 cases o with
 |mapUpdate t u v y =>
  simp only [res,aZ] at h
  split at h
  ·rename_i kt et hu
   split at h
   ·rename_i kk hk
    simp only [Option.some.injEq,cj.mu.injEq] at h
    obtain⟨rfl,rfl,rfl⟩:=h
    exact⟨_,_,_,_,_,_,_,rfl,rfl,rfl,rfl,hu,hk⟩
   all_goals cases h
  ·cases h
 |_ =>
  simp only [res] at h
  repeat' split at h
  all_goals cases h
theorem aa.mu {x i b:QO}{k:Nat}{es:List (Value × AV)}{m:Int}{a:AV}(hx:x.ev α.tm=.mp k) (hS:S.get k=some (.mp es)) (hk:m9 es) (hi:i.ev α.tm=.v (.int .i64 m)) (hb:b.ev α.tm=a) :
  aa P w0 false (.mu x i b) α S (.v undef) (S.set k (some (.mp (uE es m a)))):=aa.run fun n o hr=>by
 obtain⟨t,u,v,y,kt,et,kk,ho,rfl,rfl,rfl,h1,h2⟩:=u0 hr
 rw [ay] at hx hi hb
 exact uG ho h1 h2 hx hS hk hi hb
variable {ρ:Hd}{T:Type}{f:T->AV}{kv:List (Int × T)}
end
section
variable {ι:Nat->Nat}{M:Nat}
theorem Rn.pure {a:AV}(h:Pure a):Rn ι M a a:=fun g w x hr=>ao.pure (g:=g) (g':=g.pre ι M) (fun _ _ h=>h) (fun _ _ _=>rfl) hr h
def xg (ι:Nat->Nat) (M:Nat):List AV->List AV->Prop
 |[],[]=>True
 |a::l,b::m=>Rn ι M a b/\xg ι M l m
 |_,_=>False
theorem xg.at:∀ {l m:List AV},xg ι M l m->l.length=m.length/\∀ (i:Nat) (b:AV),m[i]?=some b->∃ a,l[i]?=some a/\Rn ι M a b
 |[],[],_=>⟨rfl,fun i b h=>by simp at h⟩
 |a::l,b::m,hc=>⟨by simp [hc.2.at.1],fun i c h=>by
  cases i with
  |zero=>simp at h;subst h;exact⟨a,rfl,hc.1⟩
  |succ i=>simp at h;obtain⟨d,h1,h2⟩:=hc.2.at.2 i c h;exact⟨d,by simpa using h1,h2⟩⟩
 |[],_::_,h=>h.elim
 |_::_,[],h=>h.elim
theorem Rb.pure {a:AV}(h:Pure a):Rb ι a a:=fun gc g w x hB hr=>ao.pure (g:=gc) (g':=g) (fun b q hq=>by rw [hB.fz];exact hq) (fun _ _ _=>rfl) hr h
theorem Rb.ob {j k sz off len:Nat}{cx:Option Nat}(h:k=ι j):Rb ι (.ob j sz off len cx) (.ob k sz off len cx):=fun gc g w x hB hr=>by
 subst h
 cases hr with
 |ob hk hc hp hx hle=>rw [<-hB.ob j hk];exact .ob (hB.al j hk) hc (by rw [hB.cp j hk];exact hp) (by rw [hB.cp j hk];exact hx) hle
theorem w9.pure {sz fz:Nat}{rows:List (List AV)}{ex:Bool}(h:∀ row ∈ rows,∀ a ∈ row,Pure a):w9 ι (.arr sz rows fz ex) (.arr sz rows fz ex):=by
 refine⟨fun gc g w b cp hB _ hr=>?_,fun J h=>by cases h⟩
 obtain⟨cs,ty,h1,h2,h3,h4,h5,h6,h7⟩:=hr
 refine⟨cs,ty,h1,h2,h3,h4,fun i row hr=>⟨(h5 i row hr).1,fun j a ha=>?_⟩,h6,by rw [hB.fz];exact h7⟩
 obtain⟨x,hx,dC⟩:=(h5 i row hr).2 j a ha
 exact⟨x,hx,Rb.pure (h _ (List.mem_of_getElem? hr) _ (List.mem_of_getElem? ha)) gc g w x hB dC⟩
end
def u4 (f:Nat->Nat):List Nat->Bool
 |[]=>true
 |j::l=>l.all (fun i=>!Nat.beq (f i) (f j)) && u4 f l
theorem xh {f:Nat->Nat}:∀ {l:List Nat},u4 f l=true->∀ i j,i ∈ l->j ∈ l->f i=f j->i=j
 |[],_,i,j,h,_,_=>by cases h
 |a::l,hd,i,j,hi,hj,e=>by
  simp only [u4,Bool.and_eq_true,List.all_eq_true,Bool.not_eq_true'] at hd
  have ne:∀ x ∈ l,f x ≠ f a:=fun x hx h=>by
   have:=hd.1 x hx
   rw [h,Nat.beq_refl] at this
   cases this
  rcases List.mem_cons.1 hi with h1|h1
  ·rcases List.mem_cons.1 hj with h2|h2
   ·rw [h1,h2]
   ·exact absurd (by rw [<-e,h1]) (ne _ h2)
  ·rcases List.mem_cons.1 hj with h2|h2
   ·exact absurd (by rw [e,h2]) (ne _ h1)
   ·exact xh hd.2 i j h1 h2 e
def rJ (ι:Nat->Nat) (M:Nat) (T:U):List (Nat × Ob)->Prop
 |[]=>True
 |p::l=>(∃ bf,T.get (ι p.1)=some bf/\IC ι M bf p.2)/\rJ ι M T l
def kU (o:Nat->Nat) (so:List (Nat × Ob)):List (Nat × Option Ob)->Prop
 |[]=>True
 |(k,none)::l=>kU o so l
 |(k,some cW)::l=>(∃ j p,o j=k/\fj so j=some p/\w9 o p cW)/\kU o so l
theorem rJ.mem {ι:Nat->Nat}{M:Nat}{T:U}:∀ {l:List (Nat × Ob)},rJ ι M T l->∀ p ∈ l,∃ bf,T.get (ι p.1)=some bf/\IC ι M bf p.2
 |[],_,p,h=>by cases h
 |q::l,hc,p,h=>by
  rcases List.mem_cons.1 h with rfl|h
  ·exact hc.1
  ·exact hc.2.mem p h
theorem kU.mem {o:Nat->Nat}{so:List (Nat × Ob)}:∀ {l:List (Nat × Option Ob)},kU o so l->∀ k cW,(k,some cW) ∈ l->∃ j p,o j=k/\fj so j=some p/\w9 o p cW
 |[],_,k,cW,h=>by cases h
 |(a,none)::l,hc,k,cW,h=>by
  rcases List.mem_cons.1 h with h|h
  ·cases h
  ·exact kU.mem (l:=l) hc k cW h
 |(a,some b)::l,hc,k,cW,h=>by
  rcases List.mem_cons.1 h with h|h
  ·injection h with h1 h2;injection h2 with h2;subst h1 h2;exact hc.1
  ·exact kU.mem (l:=l) hc.2 k cW h
def sD:List (Nat × Ob)->Bool
 |[]=>true
 |(_,.fo _)::_=>false
 |_::l=>sD l
theorem xl:∀ {l:List (Nat × Ob)}{j:Nat}{J:SA},sD l=true->fj l j ≠ some (.fo J)
 |[],j,J,_,h=>by cases h
 |(a,o)::l,j,J,hn,h=>by
  have hl:sD l=true:=by cases o<;>first|exact hn|cases hn
  simp only [fj] at h
  split at h
  ·obtain rfl:=Option.some.inj h;cases hn
  ·exact xl hl h
section
variable {P:Program}{w0:World}{rd:Bool}{n:Nat}{α:AA}{T:U}{Q:Exit->AA->U->Prop}{K:List ji}{l:List QI}
theorem HG {m:List (Nat × Nat)}{N N':Nat}{so so':List (Nat × Ob)}{to:List (Nat × Option Ob)}(hi:u4 (bh m) (List.range N)=true) (au:(List.range N).all (fun j=>Nat.blt (bh m j) T.nx)=true)
  (hS:rJ (bh m) N T so) (hT:kU (fy (bh m) N T.nx) so' to) (hc:(List.range N).all (fun j=>(to.map (·.1)).contains (bh m j))=true) (kL:to.all (fun p=>true)=true) (ll:∀ k o,T.get k=some o->k < T.nx)
  (hf:(∀ k J,T.get k=some (.fo J)->∃ j,j < N/\bh m j=k)\/sD so'=true):Fits (bh m) (bu so N) (bu so' N') T ⟨dU T.get to,T.nx+N'⟩:=by
 refine⟨fun i j h1 h2 e=>xh hi i j (List.mem_range.2 h1) (List.mem_range.2 h2) e,fun j hj=>dI (List.all_eq_true.1 au j (List.mem_range.2 hj)),fun j o ho=>hS.mem _ (gP ho),fun k cW hk=>?_,.inl rfl,?_⟩
 ·have hk:dU T.get to k=some cW:=hk
  have key:∀ {l:List (Nat × Option Ob)},dU T.get l k=some cW->(k,some cW) ∈ l\/(k ∉ l.map (·.1)/\T.get k=some cW):=by
   intro l
   induction l with
   |nil=>exact fun h=>.inr ⟨by simp,h⟩
   |cons p l ih =>
    intro h
    rw [dU] at h
    by_cases e:k=p.1
    ·rw [e,ah] at h
     exact .inl (by rw [e,<-h];simp)
    ·rw [aw _ _ e] at h
     rcases ih h with h1|⟨h1,h2⟩
     ·exact .inl (by simp [h1])
     ·exact .inr ⟨by simp only [List.map_cons,List.mem_cons,not_or];exact⟨e,h1⟩,h2⟩
  rcases key hk with h|⟨h1,h2⟩
  ·obtain⟨j,p,e1,e2,e3⟩:=hT.mem k cW h
   exact .inl ⟨j,p,e1,e2,e3⟩
  ·refine .inr ⟨ll k cW h2,fun j hj e=>h1 ?_,h2⟩
   have:=List.all_eq_true.1 hc j (List.mem_range.2 hj)
   rw [<-e]
   simpa using this
 ·rcases hf with h|h
  ·exact .inl h
  ·exact .inr fun j J=>xl h
theorem aa.Lf {f:QO}{aZ9:List QO}{g:FuncId}{args fA:List AV}{r oD:AV}{m:List (Nat × Nat)}{N N':Nat}{so so':List (Nat × Ob)}{to:List (Nat × Option Ob)}(dg:aR P w0 g args (bu so N) r (bu so' N'))
  (h:fh (f.ev α.tm) (aZ9.map (·.ev α.tm))=some (g,fA)) (ha:xg (bh m) N fA args) (hr:Rb (fy (bh m) N T.nx) r oD)
  (hi:u4 (bh m) (List.range N)=true) (au:(List.range N).all (fun j=>Nat.blt (bh m j) T.nx)=true) (hS:rJ (bh m) N T so) (hT:kU (fy (bh m) N T.nx) so' to) (hc:(List.range N).all (fun j=>(to.map (·.1)).contains (bh m j))=true)
  (ll:∀ k o,T.get k=some o->k < T.nx) (hf:(∀ k J,T.get k=some (.fo J)->∃ j,j < N/\bh m j=k)\/sD so'=true):aa P w0 false (.call f aZ9) α T oD ⟨dU T.get to,T.nx+N'⟩ :=
 aa.call h (dg.frame (HG hi au hS hT hc (by simp) ll hf) ha.at.1 (fun i a b h1 h2=>by
  obtain⟨a',h3,h4⟩:=ha.at.2 i b h2
  rw [h3] at h1
  rw [<-Option.some.inj h1];exact h4) hr) fun e=>by cases e
theorem Cv.canon {B N:Nat}{m:List (Nat × Nat)}{l:List (Nat × AV)}{ds:List Nat}{so:List (Nat × Ob)}(hn:Nat.ble T.nx B=true) (hC:Canon B N m α T l ds so):Cv w0 n α T (eh l ds) (bu so N):=by
 intro A g a w hS hA
 refine⟨_,hC.st hS,hC.DH hA,(Ext.refl A g w).dw (Nat.le_of_ble_eq_true hC.bn) fun k hk=>?_⟩
 exact Nat.lt_of_lt_of_le (hS.al k hk) (Nat.le_of_ble_eq_true hn)
end
section
variable {P:Program}{w0:World}{rd:Bool}{n:Nat}{α:AA}{S:U}{Q Q':Exit->AA->U->Prop}{K:List ji}{l:List QI}{dr:Bool}
theorem ey.mono {c:QC}(hm:∀ ex α S,Q ex α S->Q' ex α S) (h:ey P w0 rd n c Q α S):ey P w0 rd n c Q' α S:=by
 intro c0 hc hd
 obtain⟨ex,bD,bQ,h1,h2⟩:=h c0 hc hd
 exact⟨ex,bD,bQ,h1,hm _ _ _ h2⟩
theorem gC.mono (hm:∀ ex α S,Q ex α S->Q' ex α S):∀ (K:List ji) (ex:Exit) (α:AA) (S:U),gC P w0 rd n Q K ex α S->gC P w0 rd n Q' K ex α S
 |[],ex,α,S,h=>hm _ _ _ h
 |.seq b::K,ex,α,S,h=>by
  cases ex with
  |normal=>exact ey.mono (gC.mono hm K) h
  |_=>exact gC.mono hm K _ _ _ h
 |.nT id::K,ex,α,S,h=>by
  cases ex with
  |exit j =>
   simp only [gC] at h ⊢
   cases hj:Nat.beq j id with
   |true=>rw [hj] at h;exact gC.mono hm K _ _ _ h
   |false=>rw [hj] at h;exact gC.mono hm K _ _ _ h
  |_=>exact gC.mono hm K _ _ _ h
 |.rq::K,ex,α,S,h=>by
  cases ex with
  |goto l=>exact h
  |_=>exact gC.mono hm K _ _ _ h
theorem dH.mono {Q Q':AA->U->Prop}{E E':List PanicEntry->AA->U->Prop}(hm:∀ α S,Q α S->Q' α S) (he:∀ ch α S,E ch α S->E' ch α S) (h:dH P w0 n dr l Q E α S):dH P w0 n dr l Q' E' α S:=by
 intro ops rest hr
 have h:=h ops rest hr
 cases dr with
 |false=>exact fun j hj=>(h j hj).imp (fun ⟨bD,bQ,h1,h2⟩=>⟨bD,bQ,h1,hm _ _ h2⟩) fun ⟨ch,bD,bQ,h1,h2⟩=>⟨ch,bD,bQ,h1,he _ _ _ h2⟩
 |true =>
  intro j hj
  obtain⟨bD,bQ,h1,h2⟩:=h j hj
  exact⟨bD,bQ,h1,hm _ _ h2⟩
end
def eY:List Nat->(Nat->AV)->Nat->AV
 |[],f=>fun _=>.u
 |t::G,f=>match f t with|.u=>eY G f|a=>a6 (eY G f) t a
theorem oJ:∀ (G:List Nat) (f:Nat->AV) (s:Nat),eY G f s=f s\/eY G f s=.u
 |[],f,s=>.inr rfl
 |t::G,f,s=>by
  have ih:=oJ G f s
  have key:eY (t::G) f=eY G f\/eY (t::G) f=a6 (eY G f) t (f t):=by
   rw [eY]
   cases f t with
   |u=>exact .inl rfl
   |_=>exact .inr rfl
  rcases key with h|h<;>rw [h]
  ·exact ih
  ·by_cases h:s=t
   ·subst h;rw [ah];exact .inl rfl
   ·rw [aw _ _ h];exact ih
def qF (G:List Nat):Nat->QF->AA->U->QF × AA × U
 |0,c,α,S=>(c,α,S)
 |m+1,c,α,S=>match c with
  |.out .normal (.seq b::K)=>match α with|⟨f,d⟩=>qF G m (.run b K) ⟨eY G f,d⟩ S
  |c=>match oy c α S with
   |some (c',af,S')=>qF G m c' af S'
   |none=>(c,α,S)
section
variable {P:Program}{w0:World}{rd:Bool}{n:Nat}{Q:Exit->AA->U->Prop}
theorem Cv.prune (G:List Nat) {α:AA}{S:U}:Cv w0 n α S ⟨eY G α.tm,α.df⟩ S:=by
 intro A g a w hS hA
 refine⟨g,hS,?_,Ext.refl A g w⟩
 refine⟨hA.size,fun t ht=>?_,fun t ht=>?_,hA.df,hA.nU⟩
 ·rcases oJ G α.tm t with h|h
  ·show ao g w (eY G α.tm t) _
   rw [h];exact hA.tm t ht
  ·show ao g w (eY G α.tm t) _
   rw [h];exact .u
 ·show eY G α.tm t=.u
  rcases oJ G α.tm t with h|h
  ·rw [h];exact hA.out t ht
  ·exact h
theorem nu (G:List Nat):∀ {m:Nat}{cf lx:QF}{α af:AA}{S S':U},qF G m cf α S=(lx,af,S')->ab P w0 rd n Q lx af S'->ab P w0 rd n Q cf α S
 |0,cf,lx,α,af,S,S',h,k=>by
  simp only [qF,Prod.mk.injEq] at h
  obtain⟨rfl,rfl,rfl⟩:=h
  exact k
 |m+1,cf,lx,α,af,S,S',h,k=>by
  unfold qF at h
  split at h
  ·rename_i b K
   cases α
   exact ab.cv (c:=b) (K:=K) (Cv.prune G) (nu (m:=m) G h k)
  ·split at h
   ·rename_i c1 a1 s1 hm
    exact Cm hm (nu G h k)
   ·simp only [Prod.mk.injEq] at h
    obtain⟨rfl,rfl,rfl⟩:=h
    exact k
theorem ab.SB (G:List Nat) (m:Nat) {cf lx:QF}{α af:AA}{S S':U}(h:qF G m cf α S=(lx,af,S')) (k:ab P w0 rd n Q lx af S'):ab P w0 rd n Q cf α S:=nu G h k
end
end Go.Proofs.YtbofilglphfceaaGreat
