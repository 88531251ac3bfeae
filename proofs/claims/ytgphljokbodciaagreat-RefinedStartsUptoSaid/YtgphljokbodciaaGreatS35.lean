import Derived.ChangeArms
import Derived.OpenShut
import Derived.ProofKit
import Derived.RecoverIn
import Derived.TacticsIn
import Derived.TacticsInMore
import Derived.Test.YtgphljokbodciaaGreatProg
import Derived.Test.YtgphljokbodciaaGreatRows
import Derived.Test.YtgphljokbodciaaGreatS34
namespace Go.Proofs.YtgphljokbodciaaGreat
set_option linter.unusedVariables false
set_option linter.unusedSimpArgs false
open Go.RowKit
def g0 (w:World):Gh:=⟨fun _=>0,fun _=>0,fun _=>False,fun b _=>b < w.heap.size,fun _ _=>False⟩
def bE (P:Program) (n:Nat) (t:TypeId) (sz:Nat) {α:Type}(lay:α->List AV) (μ:α->Nat):Prop :=
 ∀ (H:Type) (enc:TypeId × Value->H) (w:World) (sp:Nat->Bool) (held:Bool) (m:Nat),m < n->∀ (cs:List Value) (d:DataW H × List MemPlace),cs.length=sz->DataW.trod enc P w 0 sp held m t cs=some d ->
  ∃ x,μ x<=Rows.uptoBulk d.1/\(lay x).length=sz/\∀ (j:Nat) (a:AV) (v:Value),(lay x)[j]?=some a->cs[j]?=some v->aL (g0 w) w a v
def cJ {α:Type}(μ:α->Nat):List α->Nat
 |[]=>0
 |x::l=>μ x+cJ μ l
theorem Gd {α H:Type}{μ:α->Nat}:∀ {l:List α}{ds:List (DataW H × List MemPlace)},l.length=ds.length->(∀ (i:Nat) (x:α) (e:DataW H × List MemPlace),l[i]?=some x->ds[i]?=some e->μ x<=Rows.uptoBulk e.1)->cJ μ l<=Rows.uptoBulkAll (ds.map (·.1))
 |[],ds,_,_=>Nat.zero_le _
 |x::l,[],h,_=>by simp at h
 |x::l,e::ds,h,hk=>by
  rw [cJ,List.map_cons,Rows.uptoBulkAll]
  have h1:=hk 0 x e rfl rfl
  have h2:=Gd (l:=l) (ds:=ds) (by simpa using h) fun i y z hy hz=>hk (i+1) y z (by simpa using hy) (by simpa using hz)
  omega
section
variable {P:Program}{n:Nat}{t:TypeId}{sz:Nat}
theorem bE.less {α:Type}{lay:α->List AV}{μ:α->Nat}{m:Nat}(h:bE P n t sz lay μ) (hm:m<=n):bE P m t sz lay μ:=fun H enc w sp held k hk=>h H enc w sp held k (by omega)
theorem bE.int (ht:P.underlying t=some (.int .i64)):bE P n t 1 bJ (fun _=>1):=by
 intro H enc w sp held m _ cs d hl h
 obtain⟨z,rfl,rfl,hw⟩:=DataW.trod_int ht h
 refine⟨z,by simp only [Rows.uptoBulk];exact Nat.le_refl _,rfl,fun j a v ha hv=>?_⟩
 cases j with
 |zero=>simp [bJ] at ha hv;subst ha hv;exact .v
 |succ j=>simp [bJ] at ha
theorem bE.str (ht:P.underlying t=some .string):bE P n t 1 (fun s:ByteArray=>[AV.v (.string s)]) (fun s=>s.size+1):=by
 intro H enc w sp held m _ cs d hl h
 obtain⟨z,rfl,rfl,hw⟩:=DataW.trod_string ht h
 refine⟨z,by simp only [Rows.uptoBulk];exact Nat.le_refl _,rfl,fun j a v ha hv=>?_⟩
 cases j with
 |zero=>simp at ha hv;subst ha hv;exact .v
 |succ j=>simp at ha
theorem bE.bool (ht:P.underlying t=some .bool):bE P n t 1 (fun b:Bool=>[AV.v (.bool b)]) (fun _=>1):=by
 intro H enc w sp held m _ cs d hl h
 obtain⟨z,rfl,rfl⟩:=DataW.trod_bool ht h
 refine⟨z,by simp only [Rows.uptoBulk];exact Nat.le_refl _,rfl,fun j a v ha hv=>?_⟩
 cases j with
 |zero=>simp at ha hv;subst ha hv;exact .v
 |succ j=>simp at ha
theorem bE.slice {α:Type}{lay:α->List AV}{μ:α->Nat}{e:TypeId}(ht:P.underlying t=some (.slice e)) (bI:P.cellsOf e=sz) (CV:0 < sz) (xp:bE P n e sz lay μ) :
  bE P (n+1) t 1 (fun l:List α=>[bY .plain lay false l]) (fun l=>cJ μ l+1):=by
 have afY:∀ l:List α,bY .plain lay false l=.sl false (l.map lay):=fun l=>dE
 simp only [afY]
 intro H enc w sp held m hm cs d hl h
 rcases DataW.trod_slice ht h with ⟨hv,hd⟩|⟨a,len,cap,elems,rest,k,hk,hv,hd,_,Lk,V2,hlen,hi,_⟩
 ·subst hv
  refine⟨[],by rw [hd];simp only [Rows.uptoBulk,cJ];exact Nat.le_refl _,rfl,fun j b v hb hv=>?_⟩
  cases j with
  |zero=>simp at hb hv;subst hb hv;exact .nil (fun h=>by cases h)
  |succ j=>simp at hb
 ·have RF:0 < len->a.spot=none:=by
   intro h0
   have h3:=hi 0 h0
   rw [bI] at h3
   have h4:elems[0]?=some (elems[0]'(by omega)):=List.getElem?_eq_getElem (by omega)
   rw [h4] at h3
   obtain⟨cs',oz,_⟩:=Option.bind_eq_some_iff.1 h3
   obtain⟨_,aiH,W1⟩:=World.cells?_some oz
   have h5:=W1 0 CV
   have h6:cs'[0]?=some (cs'[0]'(by omega)):=List.getElem?_eq_getElem (by omega)
   rw [h6] at h5
   simp only [Nat.zero_mul,Addr.add,if_true] at h5
   unfold World.cell? at h5
   split at h5
   ·split at h5
    ·cases h5
    ·rename_i hs;simpa using hs
   ·cases h5
  have key:∀ i,i < len->∃ x,(∀ e,elems[i]?=some e->μ x<=Rows.uptoBulk e.1)/\(lay x).length=sz/\∀ (j:Nat) (b:AV),(lay x)[j]?=some b->∃ v,w.cell? ⟨a.block,a.off+i*sz+j,none⟩=some v/\aL (g0 w) w b v:=by
   intro i hil
   have h1:=hi i hil
   rw [bI] at h1
   have h2:elems[i]?=some (elems[i]'(by omega)):=List.getElem?_eq_getElem (by omega)
   rw [h2] at h1
   obtain⟨cs,BM,htr⟩:=Option.bind_eq_some_iff.1 h1
   obtain⟨_,hcl,lN⟩:=World.cells?_some BM
   obtain⟨x,hx,pa,hr⟩:=xp H enc w sp held k (by omega) cs _ hcl htr
   refine⟨x,fun e he=>by rw [h2] at he;rw [<-Option.some.inj he];exact hx,pa,fun j b hb=>?_⟩
   have hj:j < sz:=by rw [<-pa];exact (List.getElem?_eq_some_iff.1 hb).1
   have hv:cs[j]?=some (cs[j]'(by omega)):=List.getElem?_eq_getElem (by omega)
   have h5:=lN j hj
   have hs:=RF (by omega)
   have afZ:(a.add (i*sz)).add j=⟨a.block,a.off+i*sz+j,none⟩:=by
    obtain⟨b',off,spot⟩:=a
    simp only at hs
    subst hs
    unfold Addr.add
    by_cases hz:i*sz=0<;>by_cases hj:j=0<;>simp [hz,hj]
   rw [afZ,hv] at h5
   exact⟨_,h5,hr j b _ hb hv⟩
  obtain⟨l,KD,ef⟩:∃ l:List α,l.length=len/\∀ i x,l[i]?=some x->(∀ e,elems[i]?=some e->μ x<=Rows.uptoBulk e.1)/\(lay x).length=sz/\∀ (j:Nat) (b:AV),(lay x)[j]?=some b->∃ v,w.cell? ⟨a.block,a.off+i*sz+j,none⟩=some v/\aL (g0 w) w b v:=by
   refine⟨(List.range len).attach.map (fun i=>Classical.choose (key i.1 (by simpa using i.2))),by simp,fun i x hx=>?_⟩
   simp only [List.getElem?_map,Option.map_eq_some_iff] at hx
   obtain⟨q,hq,rfl⟩:=hx
   have hik:q.1=i:=by
    have h1:((List.range len).attach.map Subtype.val)[i]?=some q.1:=by simp only [List.getElem?_map,hq,Option.map_some]
    rw [List.attach_map_subtype_val] at h1
    obtain⟨_,h2⟩:=List.getElem?_eq_some_iff.1 h1
    simpa using h2.symm
   rw [<-hik]
   exact Classical.choose_spec (key q.1 (by simpa using q.2))
  have hv':cs=[.slice (some a) len cap]:=by simpa using hv
  subst hv'
  refine⟨l,?_,rfl,fun j b v hb hv=>?_⟩
  ·rw [hd]
   have:=Gd (μ:=μ) (l:=l) (ds:=elems) (by omega) fun i x e hx he=>(ef i x hx).1 e he
   simp only [Rows.uptoBulk]
   omega
  ·cases j with
   |succ j=>simp at hb
   |zero =>
    simp at hb hv
    subst hb hv
    by_cases h0:l=[]
    ·subst h0
     simp at KD
     subst KD
     exact .nil (fun h=>by cases h)
    ·have hs:=RF (by rw [<-KD];exact List.length_pos_iff.2 h0)
     obtain⟨b',off,spot⟩:=a
     simp only at hs
     subst hs
     have Wt:len=(l.map lay).length:=by simp [KD]
     have row:∀ (i:Nat) (row:List AV),(l.map lay)[i]?=some row->row.length=sz/\∀ (j:Nat) (b:AV),row[j]?=some b->∃ v,w.cell? ⟨b',off+i*sz+j,none⟩=some v/\aL (g0 w) w b v:=by
      intro i row hr
      simp only [List.getElem?_map,Option.map_eq_some_iff] at hr
      obtain⟨x,hx,rfl⟩:=hr
      exact (ef i x hx).2
     rw [Wt]
     refine .sl (sz:=sz) (val:=fun i j=>(w.cell? ⟨b',off+(i*sz+j),none⟩).getD undef) (by simpa using h0) (fun h=>by cases h) (by rw [<-Wt];exact Lk) (fun i r hr=>(row i r hr).1) (fun i j r b hr hb=>?_) (fun i j r b hr hb=>?_)
     ·obtain⟨v,h1,h2⟩:=(row i r hr).2 j b hb
      rw [Nat.add_assoc] at h1
      exact⟨block_lt_of_cell h1,by rw [h1];rfl⟩
     ·obtain⟨v,h1,h2⟩:=(row i r hr).2 j b hb
      rw [Nat.add_assoc] at h1
      rw [h1]
      exact h2
theorem bE.fields {H:Type}{enc:TypeId × Value->H}{w:World}{sp:Nat->Bool}{held:Bool}{fs:Array Field}(ht:P.underlying t=some (.struct fs)) {fuel:Nat}{cs:List Value}{d:DataW H × List MemPlace}(h:DataW.trod enc P w 0 sp held fuel t cs=some d) :
  ∃ (n:Nat) (xs:List (DataW H × List MemPlace)),fuel=n+1/\xs.length=fs.size/\Rows.uptoBulk d.1=Rows.uptoBulkAll (xs.map (·.1))+1/\∀ (i ty off:Nat),(fs[i]?).map (fun f=>(f.type,f.offset))=some (ty,off)->∃ y,xs[i]?=some y/\DataW.trod enc P w 0 sp held n ty ((cs.drop off).take (P.cellsOf ty))=some y:=by
 obtain⟨xs,n,hn,hd,_,hl,hf⟩:=DataW.trod_struct ht h
 refine⟨n,xs,hn,hl,by rw [hd];simp only [Rows.uptoBulk],fun i ty off hi=>?_⟩
 obtain⟨f,gY,fC⟩:=Option.map_eq_some_iff.1 hi
 simp only [Prod.mk.injEq] at fC
 obtain⟨rfl,rfl⟩:=fC
 have au:i < fs.size:=(Array.getElem?_eq_some_iff.1 gY).1
 exact⟨xs[i]'(by omega),List.getElem?_eq_getElem (by omega),(hf i f gY).trans (List.getElem?_eq_getElem (by omega))⟩
theorem bE.part {α:Type}{H:Type}{enc:TypeId × Value->H}{w:World}{sp:Nat->Bool}{held:Bool}{lay:α->List AV}{μ:α->Nat}{m ty k off i:Nat}{cs:List Value}{xs:List (DataW H × List MemPlace)}(hR:bE P n ty k lay μ) (hm:m < n) (hk:P.cellsOf ty=k) (hlen:off+k<=cs.length)
  (h:∃ y,xs[i]?=some y/\DataW.trod enc P w 0 sp held m ty ((cs.drop off).take (P.cellsOf ty))=some y):∃ x,μ x<=((xs[i]?).map fun y=>Rows.uptoBulk y.1).getD 0/\(lay x).length=k/\∀ (j:Nat) (a:AV) (v:Value),(lay x)[j]?=some a->cs[off+j]?=some v->aL (g0 w) w a v:=by
 obtain⟨y,hy,h⟩:=h
 rw [hk] at h
 obtain⟨x,h1,h2,h3⟩:=hR H enc w sp held m hm _ y (by simp;omega) h
 refine⟨x,by rw [hy];exact h1,h2,fun j a v ha hv=>h3 j a v ha ?_⟩
 have hj:j < k:=by rw [<-h2];exact (List.getElem?_eq_some_iff.1 ha).1
 rw [List.getElem?_take,if_pos hj,List.getElem?_drop]
 exact hv
def ij {H:Type}(xs:List (DataW H × List MemPlace)):Nat->Nat
 |0=>0
 |k+1=>ij xs k+((xs[k]?).map fun y=>Rows.uptoBulk y.1).getD 0
theorem zC {H:Type}{y:DataW H × List MemPlace}{xs:List (DataW H × List MemPlace)}:∀ k,ij (y::xs) (k+1)=Rows.uptoBulk y.1+ij xs k
 |0=>by simp [ij]
 |k+1=>by
  rw [ij,zC k,ij]
  simp only [List.getElem?_cons_succ]
  omega
theorem eT {H:Type}:∀ {xs:List (DataW H × List MemPlace)},ij xs xs.length=Rows.uptoBulkAll (xs.map (·.1))
 |[]=>rfl
 |y::xs=>by
  rw [List.length_cons,zC,eT,List.map_cons,Rows.uptoBulkAll]
end
section
set_option maxRecDepth 100000
attribute [local irreducible] ah aV ad ab
def RG:CF Tryz.f123:=⟨_,by conv=>lhs;cbv⟩
theorem aa7:aD Tryz.prog 123 RG.1 Tryz.f123.ntmps:=aO Tryz.func123 RG.2 Tryz.call123
def du:List Nat:=[5,0,17,58,66,4,3,2,16,18,15,50,57,59,56,7,65,67,64,9,11,76]
def fU (_:Unit):AV:=.agg []
theorem jC {B:Nat}{ρ:Hd}{kv:List (Int × Unit)}:jF B (.mp (ρ.h (kX fU) kv)):=by
 rw [ρ.eq]
 intro e he
 obtain⟨p,_,rfl⟩:=List.mem_map.1 he
 exact .agg fun a ha=>by cases ha
def jh (kv:List (Int × Unit)) (v:Int):Bool:=(j5 kv v).isSome
theorem yp (kv:List (Int × Unit)) (i v:Int):jh (qA kv i ()) v=(jh kv v || i == v):=by
 unfold jh
 rw [Kt]
 by_cases h:i=v
 ·rw [if_pos h];simp [h]
 ·rw [if_neg h];simp [h]
section
variable {w0:World}{ρ:Hd}
theorem LA (b:List Bd) (hl:b.length<=1099511627776) (ga:∀ x ∈ b,x.ok):ah Tryz.prog w0 123 [eL ρ b] (.v (.bool (jn b))):=by
 obtain⟨R,hR⟩:∃ R,R=jn b:=⟨_,rfl⟩
 rw [<-hR]
 unfold jn at hR
 obtain⟨AP,KY⟩:∃ AP,AP=nE b:=⟨_,rfl⟩
 rw [<-KY] at hR
 refine aa7.aH (by simp [Tryz.ntmps123]) (.v) ?_
 refine gq du ?_
 refine ab.int rfl (ad.len rfl) fun m hm=>?_;rw [af] at hm
 refine gq du ?_
 refine ab.yD ρ fU rfl rfl fun RH AS=>?_
 refine gq du ?_
 refine ab.int rfl (ad.len rfl) fun m1 Lb=>?_;rw [af] at Lb
 refine gq du ?_
 refine ab.aP (σ:=Int × List (Int × Unit)) 1 1 [] (fun p=>[(0,eL ρ b),(3,.mp 0),(15,eL ρ b),(16,.v (.int .i64 m1)),(17,.v (.int .i64 p.1))]) [] (fun p=>[(0,.mp (ρ.h (kX fU) p.2))])
  (fun p=>∃ (k:Nat) (pr:Option Bd),p.1=k/\k<=b.length/\R=(iL Dk Dl pr (b.drop k) && AP)/\ta b k pr/\∀ v,jh p.2 v=gz (b.take k) v) (fun p=>b.length - p.1.toNat) (0,RH) ⟨0,none,rfl,by simp,by simpa using hR,.inl ⟨rfl,rfl⟩,fun v=>by rw [AS];rfl⟩ rfl (by exact⟨sq,rfl,⟨.inl ⟨_,rfl,.same jC⟩,trivial⟩,rfl,rfl,rfl⟩) ?_
 rintro⟨i,kv⟩ ⟨k,pr,hi,dD,hp,ju,jG⟩
 simp only at hi jG
 clear hR
 refine gq du ?_
 by_cases au:k < b.length
 ·obtain⟨x,hx,aQ⟩:=aA au
  obtain⟨l0,tc⟩:=ga x (aZ hx)
  have zD:∀ v,(gz (b.take k) v || x.v == v)=gz (b.take (k+1)) v:=fun v=>by
   unfold gz
   rw [List.take_add_one,hx]
   simp
  rw [aQ,jx] at hp
  have hV:=TI (w0:=w0) (ρ:=ρ) x.t l0
  obtain⟨xv,xk,xi,xn,xa⟩:=x
  dsimp only at hV zD
  rw [Dk] at hp
  dsimp only at hp
  obtain⟨V,Dm⟩:∃ V,V=gX ⟨xk,xi,xn,xa⟩:=⟨_,rfl⟩
  rw [<-Dm] at hV hp
  rcases ju with ⟨rfl,rfl⟩|⟨⟨yv,yk,yi,yn,ya⟩,VQ,hy,rfl⟩
  ·simp only [r8,Bool.and_true] at hp
   repeat' (first
    |(refine ab.op rfl (ad.ind rfl rfl (ay (l:=b) hi hx) (aw fun _=>rfl)) ?_;refine gq du ?_)
    |(refine ab.bif rfl (ad.ag rfl hV ⟨bf (ρ:=ρ) ⟨xk,xi,xn,xa⟩,trivial⟩) (fun _=>?_) (fun _=>?_)<;>refine gq du ?_)
    |((refine ab.j6 (v:=()) rfl rfl rfl rfl rfl (fun sY vl=>?_);refine gq du ?_))
    |(refine bq (fun hb=>?_) (fun hb=>?_)<;>(try simp only [aq] at hb)<;>(first|refine gq du ?_))
    |(refine az fun m hm=>?_;(try rw [af] at hm);refine gq du ?_)
    |(refine aS fun _ _=>?_;refine gq du ?_)
    |(refine ab.ao ?_;refine gq du ?_)
    |(refine ab.bK ?_;refine gq du ?_)
    |(refine fq ?_))
   all_goals first
    |(exfalso;omega)
    |(refine aI ?_;rw [hp,decide_eq_false (show ¬ 0<=xv by omega)];rfl)
    |(refine aI ?_;rw [hp,decide_eq_false (show ¬ xv<=1048576 by omega)];simp;done)
    |(refine aI ?_;rw [hp,show V=false by assumption];simp;done)
    |(refine ab.aK (σ:=Int × List (Int × Unit)) (_,sY) [] ?_ ?_ (by exact⟨sq,rfl,⟨.inl ⟨_,rfl,.same jC⟩,trivial⟩,rfl,rfl,rfl⟩)
      ·refine⟨0+1,some _,by simp only;omega,by omega,?_,eX hx,fun v=>by simp only;rw [vl,yp,jG,zD]⟩
       rw [hp,show V=true by assumption,decide_eq_true (show 0<=xv by omega),decide_eq_true (show xv<=1048576 by omega)];rfl
      ·simp only;omega)
  ·simp only [r8,Dl] at hp
   repeat' (first
    |(refine ab.op rfl (ad.ind rfl rfl (ay (l:=b) hi hx) (aw fun _=>rfl)) ?_;refine gq du ?_)
    |(refine ab.op rfl (ad.ind rfl rfl (ay (l:=b) (k:=k - 1) (by omega) hy) (aw fun _=>rfl)) ?_;refine gq du ?_)
    |(refine ab.bif rfl (ad.ag rfl hV ⟨bf (ρ:=ρ) ⟨xk,xi,xn,xa⟩,trivial⟩) (fun _=>?_) (fun _=>?_)<;>refine gq du ?_)
    |((refine ab.j6 (v:=()) rfl rfl rfl rfl rfl (fun sY vl=>?_);refine gq du ?_))
    |(refine bq (fun hb=>?_) (fun hb=>?_)<;>(try simp only [aq] at hb)<;>(first|refine gq du ?_))
    |(refine az fun m hm=>?_;(try rw [af] at hm);refine gq du ?_)
    |(refine aS fun _ _=>?_;refine gq du ?_)
    |(refine ab.ao ?_;refine gq du ?_)
    |(refine ab.bK ?_;refine gq du ?_)
    |(refine fq ?_))
   all_goals first
    |(exfalso;omega)
    |(refine aI ?_;rw [hp,decide_eq_false (show ¬ 0<=xv by omega)];rfl)
    |(refine aI ?_;rw [hp,decide_eq_false (show ¬ xv<=1048576 by omega)];simp;done)
    |(refine aI ?_;rw [hp,decide_eq_false (show ¬ yv < xv by omega)];simp;done)
    |(refine aI ?_;rw [hp,show V=false by assumption];simp;done)
    |(refine ab.aK (σ:=Int × List (Int × Unit)) (_,sY) [] ?_ ?_ (by exact⟨sq,rfl,⟨.inl ⟨_,rfl,.same jC⟩,trivial⟩,rfl,rfl,rfl⟩)
      ·refine⟨k+1,some _,by simp only;omega,by omega,?_,eX hx,fun v=>by simp only;rw [vl,yp,jG,zD]⟩
       rw [hp,show V=true by assumption,decide_eq_true (show 0<=xv by omega),decide_eq_true (show xv<=1048576 by omega),decide_eq_true (show yv < xv by omega)];rfl
      ·simp only;omega)
 rw [List.drop_eq_nil_of_le (by omega),lT,Bool.true_and,KY,nE] at hp
 have s5:∀ v,jh kv v=gz b v:=fun v=>by rw [jG,List.take_of_length_le (by omega)]
 clear KY jG AS
 repeat' (first
  |(refine ab.int rfl (ad.len rfl) fun m2 g7=>?_;rw [af] at g7;refine gq du ?_)
  |(refine bq (fun hb=>?_) (fun hb=>?_)<;>(try simp only [aq] at hb)<;>(first|refine gq du ?_))
  |(refine ab.ao ?_;refine gq du ?_)
  )
 all_goals first
  |(exfalso;omega)
  |skip
 refine ab.aP (σ:=Int) 1 1 [] (fun j=>[(3,.mp 0),(56,eL ρ b),(57,.v (.int .i64 m2)),(58,.v (.int .i64 j))]) [] (fun _=>[(0,.mp (ρ.h (kX fU) kv))])
  (fun j=>∃ q:Nat,j=q/\q<=b.length/\R=(b.drop q).all fun x=>(varsOf [x.t]).all fun v=>!gz b v) (fun j=>b.length - j.toNat) 0 ⟨0,rfl,by simp,by simpa using hp⟩ rfl (by exact⟨sq,rfl,⟨.inl ⟨_,rfl,.same jC⟩,trivial⟩,rfl,rfl,rfl⟩) ?_
 rintro j ⟨q,hj,hq,ca⟩
 clear hp
 refine gq du ?_
 by_cases iM:q < b.length
 ·obtain⟨x,hx,aQ⟩:=aA iM
  obtain⟨l0,tc⟩:=ga x (aZ hx)
  rw [aQ,List.all_cons] at ca
  have RI:(aY [x.t]).length<=1099511627776:=by
   rw [aY,aY,List.append_nil]
   exact Nat.le_trans (kp _) tc
  have hV:=KL (w0:=w0) (ρ:=ρ) x.t l0 (by first|exact Nat.le_trans (kp _) tc)
  have s9:(varsOf [x.t]).length<=1099511627776:=Nat.le_trans (gp _ _) RI
  obtain⟨vs,jH⟩:∃ vs,vs=varsOf [x.t]:=⟨_,rfl⟩
  rw [<-jH] at ca hV s9
  obtain⟨xv,xk,xi,xn,xa⟩:=x
  repeat' (first
   |(refine ab.op rfl (ad.ind rfl rfl (ay (l:=b) hj hx) (aw fun _=>rfl)) ?_;refine gq du ?_)
   |(refine ab.op rfl (ad.ag rfl hV ⟨bf (ρ:=ρ) ⟨xk,xi,xn,xa⟩,trivial⟩) ?_;refine gq du ?_)
   |(refine ab.int rfl (ad.len rfl) fun m3 F8=>?_;rw [af] at F8;refine gq du ?_)
   |(refine bq (fun hb=>?_) (fun hb=>?_)<;>(try simp only [aq] at hb)<;>(first|refine gq du ?_))
   |(refine ab.ao ?_;refine gq du ?_)
   |(refine fq ?_))
  all_goals first
   |(exfalso;omega)
   |skip
  refine ab.aP (σ:=Int) 2 2 [] (fun t=>[(3,.mp 0),(56,eL ρ b),(57,.v (.int .i64 m2)),(58,.v (.int .i64 j)),(64,bY ρ bJ false vs),(65,.v (.int .i64 m3)),(66,.v (.int .i64 t))]) [] (fun _=>[(0,.mp (ρ.h (kX fU) kv))])
   (fun t=>∃ k:Nat,t=k/\k<=vs.length/\R=(((vs.drop k).all fun v=>!gz b v) && (b.drop (q+1)).all fun x=>(varsOf [x.t]).all fun v=>!gz b v)) (fun t=>vs.length - t.toNat) 0 ⟨0,rfl,by simp,by simpa using ca⟩ rfl (by exact⟨sq,rfl,⟨.inl ⟨_,rfl,.same jC⟩,trivial⟩,rfl,rfl,rfl⟩) ?_
  rintro t ⟨k,ht,hk,D1⟩
  clear ca
  refine gq du ?_
  by_cases kU:k < vs.length
  ·obtain⟨v,hv,KW⟩:=aA kU
   rw [KW,List.all_cons,<-s5 v] at D1
   repeat' (first
    |(refine ab.op rfl (ad.ind rfl rfl (ay (l:=vs) ht hv) (aw fun _=>rfl)) ?_;refine gq du ?_)
    |((refine ab.look rfl rfl rfl rfl (fun u hu=>?_) (fun hu=>?_)<;>refine gq du ?_))
    |(refine bq (fun hb=>?_) (fun hb=>?_)<;>(try simp only [aq] at hb)<;>(first|refine gq du ?_))
    |(refine aS fun _ _=>?_;refine gq du ?_)
    |(refine ab.ao ?_;refine gq du ?_)
    |(refine ab.bK ?_;refine gq du ?_)
    |(refine fq ?_))
   all_goals first
    |(exfalso;omega)
    |(refine aI ?_;rw [D1,show jh kv v=true by rw [jh,hu];rfl];rfl)
    |(refine ab.aK (σ:=Int) _ [] ?_ ?_ (by exact⟨sq,rfl,⟨.inl ⟨_,rfl,.same jC⟩,trivial⟩,rfl,rfl,rfl⟩)
      ·exact⟨k+1,by omega,by omega,by rw [D1,show jh kv v=false by rw [jh,hu];rfl];rfl⟩
      ·omega)
  ·rw [List.drop_eq_nil_of_le (by omega),List.all_nil,Bool.true_and] at D1
   repeat' (first
    |(refine bq (fun hb=>?_) (fun hb=>?_)<;>(try simp only [aq] at hb)<;>(first|refine gq du ?_))
    |(refine aS fun _ _=>?_;refine gq du ?_)
    |(refine ab.ao ?_;refine gq du ?_)
    )
   all_goals first
    |(exfalso;omega)
    |(refine ab.aK (σ:=Int) _ [] ?_ ?_ (by exact⟨sq,rfl,⟨.inl ⟨_,rfl,.same jC⟩,trivial⟩,rfl,rfl,rfl⟩)
      ·exact⟨q+1,by omega,by omega,D1⟩
      ·omega)
 ·skip
  repeat' (first
   |(refine bq (fun hb=>?_) (fun hb=>?_)<;>(try simp only [aq] at hb)<;>(first|refine gq du ?_))
   |(refine ab.ao ?_;refine gq du ?_)
   |(refine fq ?_))
  all_goals first
   |(exfalso;omega)
   |(rw [ca,List.drop_eq_nil_of_le (by omega)];exact aI rfl)
end
end
section
set_option maxRecDepth 100000
def RJ:List UInt8->List UInt8->Bool
 |[],[]=>true
 |a::l,b::m=>match Nat.beq a.toNat b.toNat with|true=>RJ l m|false=>false
 |_,_=>false
theorem LB:∀ {a b:List UInt8},RJ a b=(a == b)
 |[],[]=>rfl
 |[],_::_=>rfl
 |_::_,[]=>rfl
 |a::l,b::m=>by
  simp only [RJ,List.cons_beq_cons]
  rw [LB (a:=l)]
  cases h:Nat.beq a.toNat b.toNat with
  |true =>
   have:a=b:=UInt8.toNat_inj.1 (Nat.eq_of_beq_eq_true h)
   simp [this]
  |false =>
   have:¬ a=b:=fun e=>by rw [e,Nat.beq_refl] at h;cases h
   simp [this]
def D_ (m n:ByteArray) (i j:Int):Bool:=match RJ m.data.toList n.data.toList with|true=>decide (i=j)|false=>false
theorem Ug {m n:ByteArray}{i j:Int}:D_ m n i j=(m.toList == n.toList && i == j):=by
 unfold D_
 rw [LB,<-ByteArray.toList_eq,<-ByteArray.toList_eq]
 cases m.toList == n.toList with
 |true=>by_cases h:i=j<;>simp [h]
 |false=>rfl
def uq:Value->Option (ByteArray × Int)
 |.agg a=>match a.toList with
  |[.string m,.int .i64 i]=>some (m,i)
  |_=>none
 |_=>none
theorem wP {v:Value}{p:ByteArray × Int}(h:uq v=some p):v=.agg #[.string p.1,.int .i64 p.2]:=by
 unfold uq at h
 split at h
 ·rename_i a
  split at h
  ·rename_i m i e
   obtain rfl:=Option.some.inj h
   rw [<-Array.toArray_toList (xs:=a),e]
  ·cases h
 ·cases h
def NY (kt:Nat) (v:Value):Bool:=match Nat.beq kt 108,uq v with
 |true,some _=>true
 |_,_=>false
def W2 (v w:Value):Bool:=match uq v,uq w with
 |some p,some q=>D_ p.1 q.1 p.2 q.2
 |_,_=>false
def NZ (t:Nat) (v w:Value):Option Bool:=match Nat.beq t 108,uq v,uq w with
 |true,some p,some q=>some (D_ p.1 q.1 p.2 q.2)
 |_,_,_=>none
section
variable {w0:World}
theorem Ea (n n':ByteArray) (i i':Int):KE Tryz.prog 108 (.agg #[.string n,.int .i64 i]) (.agg #[.string n',.int .i64 i']) (D_ n n' i i'):=by
 rw [Ug]
 refine⟨⟨_,_,rfl,rfl⟩,by kernel_rfl,fun w=>?_⟩
 have hS:Tryz.prog.underlying 108=some (.struct (Tryz.prog.fieldsOf 108)):=by kernel_rfl
 have hp:Tryz.prog.stoodInHeld 108=false:=by kernel_rfl
 have u3:=Tryz.underlying3
 have u9:=Tryz.underlying9
 have a3:=Tryz.isAgg3
 have a9:=Tryz.isAgg9
 rw [run_eql_struct,show (10000:Nat)=9998+1+1 from rfl,run_equalIn_agg w _ 108 _ _ hS hp]
 simp only [Program.fieldsOf,Tryz.underlying108]
 have e1:∀ w,(Op.equalIn (9998+1) 9 (.string n) (.string n')).run Tryz.prog w=.ok (n.toList == n'.toList) w:=fun w=>run_equalIn_string w _ _ _ _ u9
 have e2:∀ w,(Op.equalIn (9998+1) 3 (.int .i64 i) (.int .i64 i')).run Tryz.prog w=.ok (i == i') w:=fun w=>run_equalIn_int w _ _ _ _ _ _ u3
 cases h1:(n.toList == n'.toList)<;>cases h2:(i == i')<;>simp [Op.eqFields,part,a3,a9,e1,e2,h1,h2]
theorem Uh {X:Result Bool}{e:Bool}{w:World}(h:(X.andThen fun b w'=>Result.ok (Value.bool b) w')=.ok (.bool e) w):X=.ok e w:=by
 cases X with
 |ok b w' =>
  simp only [Result.andThen,Result.ok.injEq,Value.bool.injEq] at h
  rw [h.1,h.2]
 |_=>cases h
theorem LC (n:ByteArray) (i:Int) (es:List (Value × AV)) (hes:∀ p ∈ es,∃ q,uq p.1=some q):vo Tryz.prog 108 (.agg #[.string n,.int .i64 i]) es (W2 (.agg #[.string n,.int .i64 i])):=by
 have hS:Tryz.prog.underlying 108=some (.struct (Tryz.prog.fieldsOf 108)):=by kernel_rfl
 have u3:=Tryz.underlying3
 have u9:=Tryz.underlying9
 have a3:=Tryz.isAgg3
 have a9:=Tryz.isAgg9
 refine⟨fun b w=>?_,⟨_,hS⟩,fun p hp w=>?_⟩
 ·have key:∀ q:Nat,(Instr.checkKey b (q+1+1) 108 (.agg #[.string n,.int .i64 i])).run Tryz.prog w=.ok () w:=by
   intro q
   have e1:∀ w,(Instr.checkKey b (q+1) 9 (.string n)).run Tryz.prog w=.ok () w:=fun w=>by
    rw [Instr.checkKey]
    simp only [Sem.run_bind,run_underlying u9,Result.andThen_ok,Sem.run_pure]
   have e2:∀ w,(Instr.checkKey b (q+1) 3 (.int .i64 i)).run Tryz.prog w=.ok () w:=fun w=>by
    rw [Instr.checkKey]
    simp only [Sem.run_bind,run_underlying u3,Result.andThen_ok,Sem.run_pure]
   rw [Instr.checkKey]
   simp only [Sem.run_bind,run_underlying hS,Result.andThen_ok]
   simp only [Program.fieldsOf,Tryz.underlying108]
   simp [part,a3,a9,e1,e2]
  exact key 9998
 ·obtain⟨⟨n',i'⟩,hq⟩:=hes p hp
  have e:=wP hq
  have h:=(Ea n n' i i').2.2 w
  rw [run_eql_struct] at h
  have h2:=Uh h
  rw [e]
  exact h2
theorem Ui {F:Fence}(hF:iF F) (n:Nat) (p:Addr) (w:World):CallsDIn F.plain n Tryz.prog 280 #[.pointer (some p)] .returning w fun e u' w'=>e=.returned (.tuple #[])/\u'=.returning/\w'=w:=by
 refine callsDIn_of_wpSIn Tryz.func280 rfl (hF.1 _) fun HT cs hu=>?_
 simp only [Tryz.ntmps280,List.size_toArray,List.length_cons,List.length_nil,Nat.reduceAdd,Nat.reduceSub,Array.replicate_succ,Array.replicate_zero,List.push_toArray,List.append_toArray,List.nil_append,List.cons_append]
 apply wpSIn_seq
 apply wpSIn_region
 simp [wpOpsSIn,go_sem,recoverD,hu,Exit.thenS,hF.1]
 refine wpSIn_of_wpIn rfl ?_
 refine wpIn_block (wpIn_seq (wpIn_region ?_))
 simp [wpOpsIn,go_sem]
 refine wpIn_cond (t:=true) (by simp [Act.eval]) ?_
 simp only [if_true]
 refine wpIn_region ?_
 simp [wpOpsIn,go_sem,bodyPostS,results,Tryz.results280,Exit.inBlock]
 cases HT
 simp_all
def W3 (a e:Int):ae:=(iH ae.none_ [AV.v (.int .i64 a)]).2.set 0 (some (.arr 1 [[AV.v (.int .i64 e)]] 0 true))
theorem LD {A:Nat->Prop}{g2:Gh}{S:ae}{w2:World}{a e:Int}{b:Nat}(l8:St w0 A g2 S w2) (h0:S.get 0=some (.arr 1 [[AV.v (.int .i64 a)]] 0 true)) (hk:g2.al 0) (gU:g2.ob 0=b) :
  w2.cell? ⟨b,0,none⟩=some (.int .i64 a)/\w2.frozen? ⟨b,0,none⟩=false/\b < w2.heap.size/\Ext A g2 w2 g2 (w2.setCell ⟨b,0,none⟩ (.int .i64 e))/\St w0 A g2 (S.set 0 (some (.arr 1 [[AV.v (.int .i64 e)]] 0 true))) (w2.setCell ⟨b,0,none⟩ (.int .i64 e)):=by
 obtain⟨k2,k3,cells,ty,p1,p2,p3,p4,p5,p6,p7⟩:=l8.cH 0 _ h0 hk
 rw [gU] at k2 k3 p1
 obtain⟨x,fO,aQ⟩:=(p5 0 _ rfl).2 0 _ rfl
 have aQ:=cd aQ
 subst aQ
 have hc:w2.cell? ⟨b,0,none⟩=some (.int .i64 a):=by rw [cell_of_row w2 b _ cells ty (0,0) p1];simpa using fO
 have hz:w2.frozen? ⟨b,0,none⟩=false:=by simp [World.frozen?,p1]
 have jI:lv Tryz.prog S 29 (AV.v (.int .i64 e)) (.pt 0 1 0 0)=some (S.set 0 (some (.arr 1 [[AV.v (.int .i64 e)]] 0 true))):=by
  have:cS Tryz.prog 29=some 1:=by kernel_rfl
  simp only [lv,h0,this]
  rfl
 have WH:aL g2 w2 (.pt 0 1 0 0) (.pointer (some ⟨b,0,none⟩)):=by
  have:=aL.pt (g:=g2) (w:=w2) (k:=0) (sz:=1) (i:=0) (j:=0) hk
  rw [gU] at this
  exact this
 obtain⟨c,o,w',e1,e2,_,e4,e5⟩:=qU l8 jI WH (x:=.int .i64 e) .v
 simp only [Value.pointer.injEq,Option.some.injEq,Addr.mk.injEq,and_true] at e1
 obtain⟨rfl,rfl⟩:=e1
 have cu:(storeVar 29 ⟨b,0,none⟩ (.int .i64 e)).run Tryz.prog w2=.ok () (w2.setCell ⟨b,0,none⟩ (.int .i64 e)):=by simp [go_sem,hc,hz]
 rw [cu] at e2
 injection e2 with _ e2
 subst e2
 exact⟨hc,hz,k3,e4,e5⟩
theorem N0 {g:FuncId}{fs cs:List AV}(hp:c_ (fs++cs)) (h:ah Tryz.prog w0 g (fs++cs) (.bc [])):ah Tryz.prog w0 152 [.fn (.func g) fs cs] (AV.v (.int .i64 0)):=by
 refine⟨.v,W3 0 0,Tryz.call152,fun F m A gh bO w hF hS hA=>?_⟩
 obtain⟨bI,xp⟩:=hA
 obtain⟨fv,rfl⟩:∃ fv,bO=#[fv]:=by
  obtain⟨l⟩:=bO
  match l,bI with
  |[x],_=>exact⟨x,rfl⟩
 obtain⟨us,bs,rfl,db,eH⟩:=uY (xp 0 _ _ rfl rfl)
 clear xp bI
 have vO:=tp (w0:=w0) (A:=A) (cs:=[AV.v (.int .i64 0)]) (cells:=#[.int .i64 0]) (ty:=29) hS ⟨rfl,fun i a x h1 h2=>by
  match i,h1,h2 with
  |0,h1,h2=>obtain rfl:=Option.some.inj h1;obtain rfl:=Option.some.inj h2;exact .v⟩
 obtain⟨w1,se⟩:∃ w1:World,w1=w.alloc (.cells #[.int .i64 0] 29):=⟨_,rfl⟩
 rw [<-se] at vO
 obtain⟨g1,BC,fm,kK⟩:=vO
 have Lq:jL g1 w1 (fs++cs) (us++bs):=by
  have:=fY db eH
  exact⟨this.1,fun i a x h1 h2=>(this.2 i a x h1 h2).later kK.toLater⟩
 have bL:=(h.AM hp (iH ae.none_ [AV.v (.int .i64 0)]).2).2 F.plain (m - 1) A g1 (us++bs) w1 hF.plain fm Lq
 have key:CallsIn F.plain m Tryz.prog 152 #[.func (.func g) us bs] w fun e w'=>∃ v g',e=.returned v/\aL g' w' (AV.v (.int .i64 0)) v/\St w0 A g' (W3 0 0) w'/\Ext A gh w g' w':=by
  refine callsIn_of_wp_defers Tryz.func152 rfl (hF.1 _) ?_ rfl
  simp only [Tryz.ntmps152,List.size_toArray,List.length_cons,List.length_nil,Nat.reduceAdd,Nat.reduceSub,Array.replicate_succ,Array.replicate_zero,List.push_toArray,List.append_toArray,List.nil_append,List.cons_append]
  refine wpIn_seq (wpIn_region ?_)
  simp [wpOpsIn,go_sem]
  rw [<-se]
  have Lr:∀ (fn:Fn) (first cap:Array Value) (w:World),(Instr.makeFunc fn first cap).run Tryz.prog w=.ok (.func fn first cap) w:=fun _ _ _ _=>rfl
  refine wpIn_seq (wpIn_region ?_)
  simp [wpOpsIn,go_sem,Lr]
  refine wpIn_seq (wpIn_region ?_)
  simp [wpOpsIn,go_sem]
  refine⟨hF.1 g,?_⟩
  rw [(h.AM hp ae.none_).1 (us++bs) w1,Oper.uponIn_enter]
  refine⟨fun hd=>(by rw [show F.plain.depth=F.depth from rfl,hF.2.1] at hd;cases hd),bL.mono ?_⟩
  rintro e w2 ⟨v,g2,rfl,_,l8,rC⟩
  simp only
  obtain⟨ez,jw⟩:g1.al 0/\g1.ob 0=w.heap.size:=by
   generalize hv:Value.pointer (some ⟨w.heap.size,0,none⟩)=y at BC
   cases BC with
   |pt hk=>simp [iH,ae.none_] at hv;exact⟨hk,hv.symm⟩
  have dD:=rC.al 0 ez
  have vP:g2.ob 0=w.heap.size:=(rC.ob 0 ez).trans jw
  obtain⟨hc,hz,au,pM,pN⟩:=LD (e:=0) l8 rfl dD vP
  refine wpIn_seq (wpIn_region ?_)
  simp [wpOpsIn,go_sem,hc,hz]
  refine wpIn_ret ?_
  refine leavesIn_cons (f:=280) (args:=#[.pointer (some ⟨w.heap.size,0,none⟩)]) (by simp) (fun hd=>(by rw [show F.plain.depth=F.depth from rfl,hF.2.1] at hd;cases hd)) (by simp [go_sem]) (fun g hg=>hF.1 g) ?_
  refine (Ui hF _ _ _).mono ?_
  rintro e u' rB ⟨rfl,rfl,rfl⟩
  have zl:(w2.setCell ⟨w.heap.size,0,none⟩ (.int .i64 0)).cell? ⟨w.heap.size,0,none⟩=some (.int .i64 0):=(LD (e:=0) pN rfl dD vP).1
  simp [LeavesIn,settle,results,Tryz.results152,go_sem,zl]
  exact⟨g2,.v,pN,(kK.trans rC).trans pM⟩
 exact key
def N1 (cl:List Nat) (g:Nat) (l:List AV):Option AV:=match jV g cl with
 |true=>match l with
  |[.sl _ []]=>some (.sl true [])
  |_=>none
 |false=>none
def W4 (t:Tr ((QC × List QR) × Nat)) (cl wm:List Nat):Env:=⟨fun g=>fj t g,
 N1 cl,
 fun _ _=>none,fun g=>match Nat.beq g 152 with|true=>some (.v (.int .i64 0))|false=>none,fun g=>jV g wm,NY,W2,NZ⟩
theorem LF {t:Tr ((QC × List QR) × Nat)}{cl wm:List Nat}(ht:∀ g c n,fj t g=some (c,n)->aF Tryz.prog g c n) (hc:∀ g,jV g cl=true->∀ A c,ah Tryz.prog w0 g [.v (.slice A 0 c)] (.sl true [])):iU Tryz.prog w0 (W4 t cl wm) where
 seq:=fun t a b e h=>by
  have h:NZ t a b=some e:=h
  unfold NZ at h
  split at h
  ·rename_i p q ht ha hb
   rw [wP ha,wP hb,Nat.eq_of_beq_eq_true ht,<-Option.some.inj h]
   exact Ea _ _ _ _
  ·cases h
 key:=fun kt v es h he=>by
  have key:∀ kt v,NY kt v=true->kt=108/\∃ q,uq v=some q:=fun kt v h=>by
   unfold NY at h
   split at h
   ·rename_i p ht hv
    exact⟨Nat.eq_of_beq_eq_true ht,_,hv⟩
   ·cases h
  obtain⟨rfl,p,hp⟩:=key kt v h
  rw [wP hp]
  exact LC _ _ _ fun q hq=>(key _ _ (he q hq)).2
 Ls:=fun g v h hh first cap hp hk=>by
  have h:(match Nat.beq g 152 with|true=>some (AV.v (.int .i64 0))|false=>none)=some v:=h
  split at h
  ·rename_i e
   obtain rfl:=Option.some.inj h
   rw [Nat.eq_of_beq_eq_true e]
   exact N0 hp hk
  ·cases h
 zn:=ht
 ext:=fun g l r h=>by
  have h:N1 cl g l=some r:=h
  unfold N1 at h
  split at h
  ·rename_i hm
   split at h
   ·obtain rfl:=Option.some.inj h
    exact⟨ah.emp (hc g hm),.sl (fun row h=>by cases h),trivial⟩
   ·cases h
  ·cases h
 nat:=fun g l v h=>by cases h
end
end
section
set_option maxRecDepth 100000
noncomputable def N2:{q:QC × List QR // aR Tryz.progTables Tryz.f40=some q}:=⟨_,by conv=>lhs;cbv⟩
theorem af0:aF Tryz.prog 40 N2.1 Tryz.f40.ntmps:=aF.of Tryz.func40 N2.2 rfl rfl (by kernel_rfl) Tryz.call40
noncomputable def N3:{q:QC × List QR // aR Tryz.progTables Tryz.f73=some q}:=⟨_,by conv=>lhs;cbv⟩
theorem af1:aF Tryz.prog 73 N3.1 Tryz.f73.ntmps:=aF.of Tryz.func73 N3.2 rfl rfl (by kernel_rfl) Tryz.call73
noncomputable def Ib:{q:QC × List QR // aR Tryz.progTables Tryz.f123=some q}:=⟨_,by conv=>lhs;cbv⟩
theorem aa8:aF Tryz.prog 123 Ib.1 Tryz.f123.ntmps:=aF.of Tryz.func123 Ib.2 rfl rfl (by kernel_rfl) Tryz.call123
noncomputable def Ic:{q:QC × List QR // aR Tryz.progTables Tryz.f128=some q}:=⟨_,by conv=>lhs;cbv⟩
theorem aa9:aF Tryz.prog 128 Ic.1 Tryz.f128.ntmps:=aF.of Tryz.func128 Ic.2 rfl rfl (by kernel_rfl) Tryz.call128
noncomputable def Ie:{q:QC × List QR // aR Tryz.progTables Tryz.f155=some q}:=⟨_,by conv=>lhs;cbv⟩
theorem aa_:aF Tryz.prog 155 Ie.1 Tryz.f155.ntmps:=aF.of Tryz.func155 Ie.2 rfl rfl (by kernel_rfl) Tryz.call155
noncomputable def Ig:{q:QC × List QR // aR Tryz.progTables Tryz.f203=some q}:=⟨_,by conv=>lhs;cbv⟩
theorem aba:aF Tryz.prog 203 Ig.1 Tryz.f203.ntmps:=aF.of Tryz.func203 Ig.2 rfl rfl (by kernel_rfl) Tryz.call203
noncomputable def Ih:{q:QC × List QR // aR Tryz.progTables Tryz.f209=some q}:=⟨_,by conv=>lhs;cbv⟩
theorem abb:aF Tryz.prog 209 Ih.1 Tryz.f209.ntmps:=aF.of Tryz.func209 Ih.2 rfl rfl (by kernel_rfl) Tryz.call209
noncomputable def Ii:{q:QC × List QR // aR Tryz.progTables Tryz.f229=some q}:=⟨_,by conv=>lhs;cbv⟩
theorem abc:aF Tryz.prog 229 Ii.1 Tryz.f229.ntmps:=aF.of Tryz.func229 Ii.2 rfl rfl (by kernel_rfl) Tryz.call229
noncomputable def Ij:{q:QC × List QR // aR Tryz.progTables Tryz.f242=some q}:=⟨_,by conv=>lhs;cbv⟩
theorem abd:aF Tryz.prog 242 Ij.1 Tryz.f242.ntmps:=aF.of Tryz.func242 Ij.2 rfl rfl (by kernel_rfl) Tryz.call242
noncomputable def Ik:{q:QC × List QR // aR Tryz.progTables Tryz.f248=some q}:=⟨_,by conv=>lhs;cbv⟩
theorem abe:aF Tryz.prog 248 Ik.1 Tryz.f248.ntmps:=aF.of Tryz.func248 Ik.2 rfl rfl (by kernel_rfl) Tryz.call248
noncomputable def Il:{q:QC × List QR // aR Tryz.progTables Tryz.f256=some q}:=⟨_,by conv=>lhs;cbv⟩
theorem abf:aF Tryz.prog 256 Il.1 Tryz.f256.ntmps:=aF.of Tryz.func256 Il.2 rfl rfl (by kernel_rfl) Tryz.call256
noncomputable def Io:{q:QC × List QR // aR Tryz.progTables Tryz.f284=some q}:=⟨_,by conv=>lhs;cbv⟩
theorem abg:aF Tryz.prog 284 Io.1 Tryz.f284.ntmps:=aF.of Tryz.func284 Io.2 rfl rfl (by kernel_rfl) Tryz.call284
noncomputable def Ip:{q:QC × List QR // aR Tryz.progTables Tryz.f319=some q}:=⟨_,by conv=>lhs;cbv⟩
theorem abh:aF Tryz.prog 319 Ip.1 Tryz.f319.ntmps:=aF.of Tryz.func319 Ip.2 rfl rfl (by kernel_rfl) Tryz.call319
noncomputable def Iq:{q:QC × List QR // aR Tryz.progTables Tryz.f344=some q}:=⟨_,by conv=>lhs;cbv⟩
theorem abi:aF Tryz.prog 344 Iq.1 Tryz.f344.ntmps:=aF.of Tryz.func344 Iq.2 rfl rfl (by kernel_rfl) Tryz.call344
noncomputable def Ir:{q:QC × List QR // aR Tryz.progTables Tryz.f354=some q}:=⟨_,by conv=>lhs;cbv⟩
theorem abj:aF Tryz.prog 354 Ir.1 Tryz.f354.ntmps:=aF.of Tryz.func354 Ir.2 rfl rfl (by kernel_rfl) Tryz.call354
noncomputable def Is:{q:QC × List QR // aR Tryz.progTables Tryz.f364=some q}:=⟨_,by conv=>lhs;cbv⟩
theorem abk:aF Tryz.prog 364 Is.1 Tryz.f364.ntmps:=aF.of Tryz.func364 Is.2 rfl rfl (by kernel_rfl) Tryz.call364
noncomputable def Iu:{q:QC × List QR // aR Tryz.progTables Tryz.f418=some q}:=⟨_,by conv=>lhs;cbv⟩
theorem abl:aF Tryz.prog 418 Iu.1 Tryz.f418.ntmps:=aF.of Tryz.func418 Iu.2 rfl rfl (by kernel_rfl) Tryz.call418
noncomputable def Iv:{q:QC × List QR // aR Tryz.progTables Tryz.f442=some q}:=⟨_,by conv=>lhs;cbv⟩
theorem abm:aF Tryz.prog 442 Iv.1 Tryz.f442.ntmps:=aF.of Tryz.func442 Iv.2 rfl rfl (by kernel_rfl) Tryz.call442
noncomputable def Iw:{q:QC × List QR // aR Tryz.progTables Tryz.f451=some q}:=⟨_,by conv=>lhs;cbv⟩
theorem abn:aF Tryz.prog 451 Iw.1 Tryz.f451.ntmps:=aF.of Tryz.func451 Iw.2 rfl rfl (by kernel_rfl) Tryz.call451
noncomputable def Ix:{q:QC × List QR // aR Tryz.progTables Tryz.f487=some q}:=⟨_,by conv=>lhs;cbv⟩
theorem abo:aF Tryz.prog 487 Ix.1 Tryz.f487.ntmps:=aF.of Tryz.func487 Ix.2 rfl rfl (by kernel_rfl) Tryz.call487
noncomputable def Iy:{q:QC × List QR // aR Tryz.progTables Tryz.f518=some q}:=⟨_,by conv=>lhs;cbv⟩
theorem abp:aF Tryz.prog 518 Iy.1 Tryz.f518.ntmps:=aF.of Tryz.func518 Iy.2 rfl rfl (by kernel_rfl) Tryz.call518
noncomputable def Iz:{q:QC × List QR // aR Tryz.progTables Tryz.f559=some q}:=⟨_,by conv=>lhs;cbv⟩
theorem abq:aF Tryz.prog 559 Iz.1 Tryz.f559.ntmps:=aF.of Tryz.func559 Iz.2 rfl rfl (by kernel_rfl) Tryz.call559
end
end Go.Proofs.YtgphljokbodciaaGreat
