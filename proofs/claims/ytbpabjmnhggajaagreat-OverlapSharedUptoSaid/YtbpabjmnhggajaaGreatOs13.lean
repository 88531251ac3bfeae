import Derived.ChangeArms
import Derived.OpenShut
import Derived.ProofKit
import Derived.Test.YtbpabjmnhggajaaGreatRows
import Derived.Test.YtbpabjmnhggajaaGreatOs12
namespace Go.Proofs.YtbpabjmnhggajaaGreat
set_option linter.unusedVariables false
set_option linter.unusedSimpArgs false
open Go.RowKit
def g0 (w:World):Gh:=⟨fun _=>0,fun _=>0,fun _=>False,fun b _=>b < w.heap.size,fun _ _=>False⟩
def dg (P:Program) (n:Nat) (t:TypeId) (sz:Nat) {α:Type}(lay:α->List AV) (μ:α->Nat):Prop :=
 ∀ (H:Type) (enc:TypeId × Value->H) (w:World) (sp:Nat->Bool) (held:Bool) (m:Nat),m < n->∀ (cs:List Value) (d:DataW H × List MemPlace),cs.length=sz->DataW.trod enc P w 0 sp held m t cs=some d ->
  ∃ x,μ x<=Rows.uptoBulk d.1/\(lay x).length=sz/\∀ (j:Nat) (a:AV) (v:Value),(lay x)[j]?=some a->cs[j]?=some v->aF (g0 w) w a v
def eT {α:Type}(μ:α->Nat):List α->Nat
 |[]=>0
 |x::l=>μ x+eT μ l
theorem K_ {α H:Type}{μ:α->Nat}:∀ {l:List α}{ds:List (DataW H × List MemPlace)},l.length=ds.length->(∀ (i:Nat) (x:α) (e:DataW H × List MemPlace),l[i]?=some x->ds[i]?=some e->μ x<=Rows.uptoBulk e.1)->eT μ l<=Rows.uptoBulkAll (ds.map (·.1))
 |[],ds,_,_=>Nat.zero_le _
 |x::l,[],h,_=>by grind
 |x::l,e::ds,h,hk=>by
  rw[eT,List.map_cons,Rows.uptoBulkAll];have h1:=hk 0 x e rfl rfl;have h2:=K_ (l:=l) (ds:=ds) (by grind) fun i y z hy hz=>hk (i+1) y z (by grind) (by grind);omega
section
variable {P:Program}{n:Nat}{t:TypeId}{sz:Nat}
theorem dg.less {α:Type}{lay:α->List AV}{μ:α->Nat}{m:Nat}(h:dg P n t sz lay μ) (hm:m<=n):dg P m t sz lay μ:=fun H enc w sp held k hk=>h H enc w sp held k (by omega)
theorem dg.int (ht:P.underlying t=some (.int .i64)):dg P n t 1 aP (fun _=>1):=by
 intro H enc w sp held m _ cs d hl h;obtain⟨z,rfl,rfl,hw⟩:=DataW.trod_int ht h;refine⟨z,by simp only[Rows.uptoBulk];exact Nat.le_refl _,rfl,fun j a v ha hv=>?_⟩;cases j with
 |zero=>simp[aP] at ha hv;subst ha hv;exact .v
 |succ j=>simp[aP] at ha
theorem dg.str (ht:P.underlying t=some .string):dg P n t 1 (fun s:ByteArray=>[AV.v (.string s)]) (fun s=>s.size+1):=by
 intro H enc w sp held m _ cs d hl h;obtain⟨z,rfl,rfl,hw⟩:=DataW.trod_string ht h;refine⟨z,by simp only[Rows.uptoBulk];exact Nat.le_refl _,rfl,fun j a v ha hv=>?_⟩;cases j with
 |zero=>simp at ha hv;subst ha hv;exact .v
 |succ j=>simp at ha
theorem dg.slice {α:Type}{lay:α->List AV}{μ:α->Nat}{e:TypeId}(ht:P.underlying t=some (.slice e)) (bS:P.cellsOf e=sz) (Yr:0 < sz) (Bh:dg P n e sz lay μ) :
  dg P (n+1) t 1 (fun l:List α=>[aX .plain lay false l]) (fun l=>eT μ l+1):=by
 have agS:∀ l:List α,aX .plain lay false l=.sl false (l.map lay):=fun l=>bQ;simp only[agS];intro H enc w sp held m hm cs d hl h;rcases DataW.trod_slice ht h with ⟨hv,hd⟩|⟨a,len,cap,elems,rest,k,hk,hv,hd,_,UW,Yt,hlen,hi,_⟩
 ·subst hv;refine⟨[],by rw[hd];simp only[Rows.uptoBulk,eT];exact Nat.le_refl _,rfl,fun j b v hb hv=>?_⟩;cases j with
  |zero=>simp at hb hv;subst hb hv;exact .nil (fun h=>by grind)
  |succ j=>simp at hb
 ·have UX:0 < len->a.spot=none:=by
   intro h0;have h3:=hi 0 h0;rw[bS] at h3;have h4:elems[0]?=some (elems[0]'(by omega)):=List.getElem?_eq_getElem (by omega);rw[h4] at h3;obtain⟨cs',yK,_⟩:=Option.bind_eq_some_iff.1 h3;obtain⟨_,amd,Yu⟩:=World.cells?_some yK;have h5:=Yu 0 Yr;have h6:cs'[0]?=some (cs'[0]'(by omega)):=List.getElem?_eq_getElem (by omega);rw[h6] at h5;simp only[Nat.zero_mul,Addr.add,if_true] at h5;unfold World.cell? at h5;split at h5
   ·split at h5
    ·grind
    ·rename_i hs;simpa using hs
   ·grind
  have key:∀ i,i < len->∃ x,(∀ e,elems[i]?=some e->μ x<=Rows.uptoBulk e.1)/\(lay x).length=sz/\∀ (j:Nat) (b:AV),(lay x)[j]?=some b->∃ v,w.cell? ⟨a.block,a.off+i*sz+j,none⟩=some v/\aF (g0 w) w b v:=by
   intro i hil;have h1:=hi i hil;rw[bS] at h1;have h2:elems[i]?=some (elems[i]'(by omega)):=List.getElem?_eq_getElem (by omega);rw[h2] at h1;obtain⟨cs,Bg,htr⟩:=Option.bind_eq_some_iff.1 h1;obtain⟨_,jz,lS⟩:=World.cells?_some Bg;obtain⟨x,hx,Bi,hr⟩:=Bh H enc w sp held k (by omega) cs _ jz htr;refine⟨x,fun e he=>by grind,Bi,fun j b hb=>?_⟩;have hj:j < sz:=by grind
   have hv:cs[j]?=some (cs[j]'(by omega)):=List.getElem?_eq_getElem (by omega);have h5:=lS j hj;have hs:=UX (by omega);have agU:(a.add (i*sz)).add j=⟨a.block,a.off+i*sz+j,none⟩:=by
    obtain⟨b',off,spot⟩:=a;simp only at hs;subst hs;unfold Addr.add;by_cases hz:i*sz=0<;>by_cases hj:j=0<;>simp[hz,hj]
   rw[agU,hv] at h5;exact⟨_,h5,hr j b _ hb hv⟩
  obtain⟨l,qd,lj⟩:∃ l:List α,l.length=len/\∀ i x,l[i]?=some x->(∀ e,elems[i]?=some e->μ x<=Rows.uptoBulk e.1)/\(lay x).length=sz/\∀ (j:Nat) (b:AV),(lay x)[j]?=some b->∃ v,w.cell? ⟨a.block,a.off+i*sz+j,none⟩=some v/\aF (g0 w) w b v:=by
   refine⟨(List.range len).attach.map (fun i=>Classical.choose (key i.1 (by grind))),by simp,fun i x hx=>?_⟩;simp only[List.getElem?_map,Option.map_eq_some_iff] at hx;obtain⟨q,hq,rfl⟩:=hx;have hik:q.1=i:=by grind
   rw[<-hik];exact Classical.choose_spec (key q.1 (by grind))
  have hv':cs=[.slice (some a) len cap]:=by grind
  subst hv';refine⟨l,?_,rfl,fun j b v hb hv=>?_⟩
  ·rw[hd];have:=K_ (μ:=μ) (l:=l) (ds:=elems) (by omega) fun i x e hx he=>(lj i x hx).1 e he;simp only[Rows.uptoBulk];omega
  ·cases j with
   |succ j=>simp at hb
   |zero =>
    simp at hb hv;subst hb hv;by_cases h0:l=[]
    ·subst h0;simp at qd;subst qd;exact .nil (fun h=>by grind)
    ·have hs:=UX (by grind);obtain⟨b',off,spot⟩:=a;simp only at hs;subst hs;have hlm:len=(l.map lay).length:=by grind
     have row:∀ (i:Nat) (row:List AV),(l.map lay)[i]?=some row->row.length=sz/\∀ (j:Nat) (b:AV),row[j]?=some b->∃ v,w.cell? ⟨b',off+i*sz+j,none⟩=some v/\aF (g0 w) w b v:=by grind
     rw[hlm];refine .sl (sz:=sz) (val:=fun i j=>(w.cell? ⟨b',off+(i*sz+j),none⟩).getD undef) (by grind) (fun h=>by grind) (by grind) (fun i r hr=>(row i r hr).1) (fun i j r b hr hb=>?_) (fun i j r b hr hb=>?_)
     ·obtain⟨v,h1,h2⟩:=(row i r hr).2 j b hb;rw[Nat.add_assoc] at h1;exact⟨block_lt_of_cell h1,by grind⟩
     ·grind
theorem dg.fields {H:Type}{enc:TypeId × Value->H}{w:World}{sp:Nat->Bool}{held:Bool}{fs:Array Field}(ht:P.underlying t=some (.struct fs)) {fuel:Nat}{cs:List Value}{d:DataW H × List MemPlace}(h:DataW.trod enc P w 0 sp held fuel t cs=some d) :
  ∃ (n:Nat) (xs:List (DataW H × List MemPlace)),fuel=n+1/\xs.length=fs.size/\Rows.uptoBulk d.1=Rows.uptoBulkAll (xs.map (·.1))+1/\∀ (i ty off:Nat),(fs[i]?).map (fun f=>(f.type,f.offset))=some (ty,off)->∃ y,xs[i]?=some y/\DataW.trod enc P w 0 sp held n ty ((cs.drop off).take (P.cellsOf ty))=some y:=by
 obtain⟨xs,n,hn,hd,_,hl,hf⟩:=DataW.trod_struct ht h;refine⟨n,xs,hn,hl,by rw[hd];simp only[Rows.uptoBulk],fun i ty off hi=>?_⟩;obtain⟨f,jV,gG⟩:=Option.map_eq_some_iff.1 hi;simp only[pI_] at gG;obtain⟨rfl,rfl⟩:=gG;have aA:i < fs.size:=(Array.getElem?_eq_some_iff.1 jV).1;exact⟨xs[i]'(by omega),List.getElem?_eq_getElem (by omega),(hf i f jV).trans (List.getElem?_eq_getElem (by omega))⟩
theorem dg.part {α:Type}{H:Type}{enc:TypeId × Value->H}{w:World}{sp:Nat->Bool}{held:Bool}{lay:α->List AV}{μ:α->Nat}{m ty k off i:Nat}{cs:List Value}{xs:List (DataW H × List MemPlace)}(hR:dg P n ty k lay μ) (hm:m < n) (hk:P.cellsOf ty=k) (hlen:off+k<=cs.length)
  (h:∃ y,xs[i]?=some y/\DataW.trod enc P w 0 sp held m ty ((cs.drop off).take (P.cellsOf ty))=some y):∃ x,μ x<=((xs[i]?).map fun y=>Rows.uptoBulk y.1).getD 0/\(lay x).length=k/\∀ (j:Nat) (a:AV) (v:Value),(lay x)[j]?=some a->cs[off+j]?=some v->aF (g0 w) w a v:=by
 obtain⟨y,hy,h⟩:=h;rw[hk] at h;obtain⟨x,h1,h2,h3⟩:=hR H enc w sp held m hm _ y (by grind) h;refine⟨x,by grind,h2,fun j a v ha hv=>h3 j a v ha ?_⟩;have hj:j < k:=by grind
 rw[List.getElem?_take,if_pos hj,List.getElem?_drop];exact hv
def nz {H:Type}(xs:List (DataW H × List MemPlace)):Nat->Nat
 |0=>0
 |k+1=>nz xs k+((xs[k]?).map fun y=>Rows.uptoBulk y.1).getD 0
theorem CY {H:Type}{y:DataW H × List MemPlace}{xs:List (DataW H × List MemPlace)}:∀ k,nz (y::xs) (k+1)=Rows.uptoBulk y.1+nz xs k
 |0=>by simp[nz]
 |k+1=>by
  rw[nz,CY k,nz];simp only[List.getElem?_cons_succ];omega
theorem mW {H:Type}:∀ {xs:List (DataW H × List MemPlace)},nz xs xs.length=Rows.uptoBulkAll (xs.map (·.1))
 |[]=>rfl
 |y::xs=>by
  rw[List.length_cons,CY,mW,List.map_cons,Rows.uptoBulkAll]
end
abbrev eP:=Nat->(Nat->Nat->Prop)->(Nat->Prop)->World->Prop
inductive Ys (P:Program) (w0:World):eP->List (List AV)->Bool->eP->Prop where
 |nil (J:eP):Ys P w0 J [] true J
 |cons {J J1 J':eP}{x:List AV}{xs:List (List AV)}{b:Bool}(h:∀ (T:ae) (k:Nat),T.get k=some (.fo J)->qU P w0 k x T (.v (.bool true)) (T.set k (some (.fo J1)))) (t:Ys P w0 J1 xs b J'):Ys P w0 J (x::xs) b J'
 |stop {J J':eP}{x:List AV}{xs:List (List AV)}(h:∀ (T:ae) (k:Nat),T.get k=some (.fo J)->qU P w0 k x T (.v (.bool false)) (T.set k (some (.fo J')))):Ys P w0 J (x::xs) false J'
def Iter (P:Program) (w0:World) (gid:FuncId) (first cap:List AV) (xs:List (List AV)):Prop :=
 ∀ (J:eP) (b:Bool) (J':eP),Ys P w0 J xs b J'->∃ r S1,aC P w0 gid (first++[.yl 0]++cap) (aq [(0,.fo J)] 1) r S1/\S1.get 0=some (.fo J')
section
variable {P:Program}{w0:World}
theorem Ys.split {xs ys:List (List AV)}{b:Bool}{J J':eP}(h:Ys P w0 J (xs++ys) b J'):(b=false/\Ys P w0 J xs false J')\/∃ J1,Ys P w0 J xs true J1/\Ys P w0 J1 ys b J':=by
 induction xs generalizing J with
 |nil=>exact .inr ⟨J,.nil J,h⟩
 |cons x xs ih =>
  cases h with
  |cons h t =>
   rcases ih t with ⟨h1,h2⟩|⟨J1,h1,h2⟩
   ·exact .inl ⟨h1,.cons h h2⟩
   ·exact .inr ⟨J1,.cons h h1,h2⟩
  |stop h=>exact .inl ⟨rfl,.stop h⟩
theorem Ys.one {x:List AV}{b:Bool}{J J':eP}(h:Ys P w0 J [x] b J'):∀ (T:ae) (k:Nat),T.get k=some (.fo J)->qU P w0 k x T (.v (.bool b)) (T.set k (some (.fo J'))):=by
 cases h with
 |cons h t=>cases t;exact h
 |stop h=>exact h
theorem Ys.MK {b:Bool}{J J':eP}(h:Ys P w0 J [] b J'):b=true/\J'=J:=by cases h;exact⟨rfl,rfl⟩
end
section
variable {P:Program}{w0:World}{α:AA}{S S':ae}{r:AV}
theorem af.yl {f:QO}{aZ9:List QO}{k:Nat}{args:List AV}{b:Bool}{J1:Ob}(h:f.ev α.tm=.yl k) (ha:aZ9.map (·.ev α.tm)=args) (hr:qU P w0 k args S (.v (.bool b)) (S.set k (some J1))):af P w0 false (.call f aZ9) α S (.v (.bool b)) (S.set k (some J1)):=by
 intro n o f_;obtain⟨c,u,ho,hu,rfl,rfl⟩:=kF f_;rw[iF] at ha;rw[aI] at h;subst ha;exact Ey ho hu h hr
end
def Yv:QC->Option (Bool × List QI)
 |.skip=>some (false,[])
 |.aN dr l=>some (dr,l)
 |_=>none
theorem B4 {B:Nat}:∀ {l:List (Nat × AV)},(∀ p ∈ l,dz B p.2)->∀ t,dz B (kW (fun _=>.u) l t)
 |[],_,_=>.u
 |p::l,h,t=>by
  show dz B (a7 (kW (fun _=>.u) l) p.1 p.2 t);by_cases e:t=p.1
  ·grind[az]
  ·rw[aD _ _ e];exact B4 (fun q hq=>h q (by grind)) t
section
variable {P:Program}{w0:World}{n:Nat}{α au:AA}{S S':ae}{Q:Exit->AA->ae->Prop}{ex:Exit}{K:List ff}
def ML {σ T:Type}(P:Program) (w0:World) (n B N:Nat) (st0:List (Nat × AV)) (ds:List DE) (so:σ->List (Nat × Ob)) (I:List T->σ->Prop) (Q:Exit->AA->ae->Prop) (K:List ff) (rest:List T):Exit->AA->ae->Prop :=
 fun ex α S=>match ex with
  |.normal=>∃ s' m,I rest s'/\Canon B N m α S [] [] (so s')
  |.ret=>∃ so' m,Canon B N m α S [] [] so'/\ad P w0 false n Q (.out .ret K) (eJ st0 ds) (aq so' N)
  |.exit id=>∃ so' m,Canon B N m α S [] [] so'/\ad P w0 false n Q (.out (.exit id) K) (eJ st0 ds) (aq so' N)
  |_=>False
theorem ad.range {σ T:Type}{x:QO}{ps:List Nat}{qa qb:QC}{dr:Bool}{l:List QI}{gid:FuncId}{first cap:List AV}(enc:T->List AV) (L:List T) (B N:Nat) (m0:List (Nat × Nat)) (st0:List (Nat × AV)) (so:σ->List (Nat × Ob)) (I:List T->σ->Prop) (s0:σ)
  (hx:x.ev α.tm=.fn (.func gid) first cap) (Yn:∀ a ∈ first,Pure a) (Yo:∀ a ∈ cap,Pure a) (yL:Iter P w0 gid first cap (L.map enc)) (hq:Yv qa=some (dr,l))
  (h0:I L s0) (hB:Nat.ble (S.nx+1) B=true) (hk:∀ p ∈ st0,dz B p.2) (CR:ps.all (Nat.blt · n)=true) (hen:∀ x,(enc x).length=ps.length/\∀ a ∈ enc x,Pure a)
  (hC:Canon B N m0 ⟨α.tm,S.nx::α.df⟩ (S.new .df) st0 (S.nx::α.df) (so s0))
  (ab8:∀ (x:T) (rest:List T) (s:σ),I (x::rest) s->ad P w0 true n (ML P w0 n B N st0 (S.nx::α.df) so I Q K rest) (.aN dr l [.seq qb]) ⟨uu (kW (fun _=>.u) st0) (ps.zip (enc x)),[]⟩ (aq (so s) N))
  (rH:∀ s,I [] s->ad P w0 false n Q (.out .normal K) (eJ st0 (S.nx::α.df)) (aq (so s) N)):ad P w0 false n Q (.run (.wM x ps qa qb) K) α S:=by
 intro c hc hd;obtain⟨y,pt,c1,c2,rfl,rfl,rfl,iw,c_⟩:=O1 hc;simp only[cU,Bool.and_eq_true] at hd;rw[aI] at hx;have yH:∀ t,dz B ((eJ st0 []).tm t):=fun t=>B4 hk t;have agV:∀ t ∈ pt,t < n:=fun t ht=>by
  have:=List.all_eq_true.1 CR t (by grind);exact dM this
 have agW:∀ (R:AA->ae->Prop) (E:List PanicEntry->AA->ae->Prop) (β:AA) (T:ae),(∀ ch α S,¬ E ch α S)->eX P w0 n dr l R E β T->∃ bF bW,cC P w0 true n c1 β T .normal bF bW/\R bF bW:=by
  intro R E β T hE h;unfold Yv at hq;split at hq
  ·injection hq with hq;injection hq with h1 h2;subst h1 h2;obtain⟨bF,bW,h3,h4⟩:=(h [] [] rfl 0 rfl).resolve_right fun ⟨ch,au,S',_,h6⟩=>hE _ _ _ h6;refine⟨bF,bW,?_,h4⟩;intro F m A g a w hF hR hS hA;exact (sF.1 iw).wp (h3 F m A g a w (nv w0 n A g w .normal bF bW) hF hS hA fun a' w' g' h1 h2 h3=>⟨rfl,g',h1,h2,h3⟩)
  ·injection hq with hq;injection hq with h1 h2;subst h1 h2;rename_i dr' l';obtain⟨id,ops,rfl,h3,jA⟩:=HK iw;have h4:=h _ _ h3;cases dr' with
   |false =>
    obtain⟨au,S',h5,h6⟩:=(h4 0 rfl).resolve_right fun ⟨ch,au,S',_,h6⟩=>hE _ _ _ h6;rw[Array.length_toList,<-List.range_eq_range'] at h5;exact⟨au,S',cC.region h5,h6⟩
   |true =>
    obtain⟨au,S',h5,h6⟩:=h4 0 rfl;rw[Array.length_toList,<-List.range_eq_range'] at h5;have eQ:=hd.1;simp only[cU,Bool.and_eq_true] at eQ;exact⟨au,S',cC.draw eQ.1 ((Bool.and_eq_true _ _).mp ((Bool.and_eq_true _ _).mp (jA rfl)).1).1 h5,h6⟩
  ·grind
 have key:∀ (L:List T) (s:σ),I L s->∃ ex j so',vL ex=some j/\ad P w0 false n Q (.out ex K) (eJ st0 (S.nx::α.df)) (aq so' N) /\
   ∀ (A:Nat->Prop) (gs:Gh) (T0:Array Value),(∀ k,gs.al k->k < B)->Ys P w0 (LJ w0.heap.size A gs n T0 .ready none pt c1 c2 (eJ st0 []).tm (aq (so s) N)) (L.map enc) j.isNone (LJ w0.heap.size A gs n T0 (mB j) j pt c1 c2 (eJ st0 []).tm (aq so' N)):=by
  intro L
  induction L with
  |nil=>exact fun s hs=>⟨.normal,none,so s,rfl,rH s hs,fun A gs T0 _=>.nil _⟩
  |cons x rest ih =>
   intro s hs;have h1:=ab8 x rest s hs;obtain⟨bF,bW,h2,h3⟩:=agW _ _ _ _ (fun ch α S h=>h) h1;obtain⟨ex,AG,Ev,h4,h5⟩:Wp P w0 true n c2 _ bF bW:=h3 c2 c_ hd.2
   have rn:∀ {j:Option Code}{so':List (Nat × Ob)}{m:List (Nat × Nat)},vL ex=some j->Canon B N m AG Ev [] [] so'->∀ (A:Nat->Prop) (gs:Gh) (T0:Array Value),(∀ k,gs.al k->k < B)->∀ (T:ae) (k:Nat),T.get k=some (.fo (LJ w0.heap.size A gs n T0 .ready none pt c1 c2 (eJ st0 []).tm (aq (so s) N))) ->
     qU P w0 k (enc x) T (.v (.bool j.isNone)) (T.set k (some (.fo (LJ w0.heap.size A gs n T0 (mB j) j pt c1 c2 (eJ st0 []).tm (aq so' N))))):=fun hj hC A gs T0 hB T k hT =>
    qU.rnd h2 h4 hC hj (by grind) (hen x).2 agV yH hB hT
   cases ex with
   |normal =>
    obtain⟨s',m,h6,h7⟩:=h5;obtain⟨ex,j,so',k1,k2,k3⟩:=ih s' h6;exact⟨ex,j,so',k1,k2,fun A gs T0 hB=>.cons (rn rfl h7 A gs T0 hB) (k3 A gs T0 hB)⟩
   |ret =>
    obtain⟨so',m,h6,h7⟩:=h5;exact⟨.ret,_,so',rfl,h7,fun A gs T0 hB=>.stop (rn rfl h6 A gs T0 hB)⟩
   |exit id =>
    obtain⟨so',m,h6,h7⟩:=h5;exact⟨.exit id,_,so',rfl,h7,fun A gs T0 hB=>.stop (rn rfl h6 A gs T0 hB)⟩
   |_=>exact h5.elim
 obtain⟨ex,j,so',k1,k2,k3⟩:=key L s0 h0;refine⟨ex,_,_,cC.range (ex:=ex) (so1:=so') hx Yn Yo hC (Nat.le_of_ble_eq_true hB) k1 (fun A gs T0 hB=>yL _ _ _ (k3 A gs T0 hB)),k2⟩
end
section
variable {P:Program}{w0:World}{rd:Bool}{n B:Nat}{α au:AA}{S S':ae}{Q:Exit->AA->ae->Prop}{r:AV}{i:QI}{l:List QI}{K:List ff}{V:List (Nat × Nat)}{lg:List (List Nat × List Nat × Bool)}{rs:List Nat}{d:Dt}{q:ee}
theorem ad.iJ (hw:bm α.tm i.g=some true) (h:a6 P w0 B i.q α S r d) (k:ad P w0 rd n Q (.dN B V (lg++[d.ns]) rs l K) (bC i.d α r) (dm S d.W d.m)):ad P w0 rd n Q (.dN B V lg rs (i::l) K) α S :=
 fun mL hB=>nT.op hB hw h (k mL (by grind[dT]))
def isB:ee->Bool
 |.bin ..|.conv ..|.sD ..|.neg _|.ox ..|.ph ..|.yv ..|.oJ ..|.slice ..|.len ..|.min ..|.max ..|.call ..|.mv ..|.pick ..|.build ..|.rows ..|.not _|.AH ..|.field ..|.extract ..|.HL ..|.AI _=>true
 |_=>false
theorem a6.pure (h:∀ T,af P w0 true q α T r T):a6 P w0 B q α S r ⟨[],[],false⟩:=by
 refine fun n o hr=>⟨fun _=>rfl,(show fC S [] from fun p hp=>by grind),fun T _ _ _=>?_⟩;rw[show dm T [] false=T from cQ];exact (h T n o hr).1
theorem ad.fe (hw:bm α.tm i.g=some true) (h:∀ T,af P w0 true i.q α T r T) (k:ad P w0 rd n Q (.dN B V (lg++[([],[],false)]) rs l K) (bC i.d α r) S):ad P w0 rd n Q (.dN B V lg rs (i::l) K) α S :=
 ad.iJ hw (a6.pure h) (by rw[show dm S [] false=S from cQ];exact k)
theorem ad.R3 {ik:IntKind}{e:Int}(hw:bm α.tm i.g=some true) (h:∀ T,af P w0 true i.q α T (.v (.int ik e)) T) (k:∀ d,d=e->ad P w0 rd n Q (.dN B V (lg++[([],[],false)]) rs l K) (bC i.d α (.v (.int ik d))) S):ad P w0 rd n Q (.dN B V lg rs (i::l) K) α S:=ad.fe hw h (k e rfl)
def Cv (w0:World) (n:Nat) (α:AA) (S:ae) (au:AA) (S':ae):Prop :=
 ∀ (A:Nat->Prop) (g:Gh) (a:Act) (w:World),St w0 A g S w->bR g w n α a->∃ g',St w0 A g' S' w/\bR g' w n au a/\Ext A g w g' w
theorem cC.cv {c:Code}{ex:Exit}{bF:AA}{bW:ae}(h:Cv w0 n α S au S') (k:cC P w0 rd n c au S' ex bF bW):cC P w0 rd n c α S ex bF bW:=by
 intro F m A g a w hF hR hS hA;obtain⟨g',h1,h2,h3⟩:=h A g a w hS hA;exact wpIn_mono (k F m A g' a w hF hR h1 h2) fun e a w hq=>nv.ext h3 hq
theorem ad.cv {c:QC}(h:Cv w0 n α S au S') (k:ad P w0 rd n Q (.run c K) au S'):ad P w0 rd n Q (.run c K) α S:=by
 intro c0 hc hd;obtain⟨ex,bF,bW,h1,h2⟩:=k c0 hc hd;exact⟨ex,bF,bW,h1.cv h,h2⟩
theorem ad.La (h:Cv w0 n α S au S') (k:ad P w0 rd n Q (.aN false l K) au S'):ad P w0 rd n Q (.aN false l K) α S:=by
 intro ops rest hr j hj;refine (k ops rest hr j hj).imp (fun ⟨bF,bW,h1,h2⟩=>⟨bF,bW,fun F m A g a w R hF hS hA hR=>?_,h2⟩) fun ⟨ch,bF,bW,h1,h2⟩=>⟨ch,bF,bW,fun F m A g a w R hF hS hA hR=>?_,h2⟩
 ·obtain⟨g',k1,k2,k3⟩:=h A g a w hS hA;exact h1 F m A g' a w R hF k1 k2 fun a' w' vP q1 q2 q3=>hR a' w' vP q1 q2 (k3.trans q3)
 ·obtain⟨g',k1,k2,k3⟩:=h A g a w hS hA;exact h1 F m A g' a w R hF k1 k2 fun a' w' vP q1 q2 q3=>hR a' w' vP q1 q2 (k3.trans q3)
theorem ad.Yw {b:QC}(h:Cv w0 n α S au S') (k:ad P w0 rd n Q (.out .normal (.seq b::K)) au S'):ad P w0 rd n Q (.out .normal (.seq b::K)) α S:=ad.cv (c:=b) h k
theorem Cv.freeze {t k sz fz m:Nat}{rows:List (List AV)}{ex:Bool}{a:AV}(hk:S.get k=some (.arr sz rows fz ex)) (ht:α.tm t=a) (ha:a=.gr k sz m\/∃ c,a=.ob k sz 0 m c) (hm:m=rows.length) (Bj:fz<=m) :
  Cv w0 n α S ⟨a7 α.tm t (.sl false rows),α.df⟩ (S.set k none):=by
 subst hm;intro A g q w hS hA;have agX:∀ {g':Gh}{o:Option Ob},St w0 A g' (S.set k o) w->St w0 A g' (S.set k none) w:=fun {_ o} h=>h.forget (Nat.le_refl _) fun j p hj _=>by
  have hj:a7 S.get k none j=some p:=hj;by_cases e:j=k
  ·grind[az]
  ·rw[aD _ _ e] at hj;show a7 S.get k o j=some p;rw[aD _ _ e];exact hj
 have put:∀ {g':Gh},Later g w g' w->(t < n->aF g' w (.sl false rows) (q.tmps.getD t undef))->bR g' w n ⟨a7 α.tm t (.sl false rows),α.df⟩ q:=by
  intro g' hL hr;have h1:=hA.later hL;refine⟨h1.size,fun s hs=>?_,fun s hs=>?_,h1.df,h1.rY⟩
  ·show aF g' w (a7 α.tm t _ s) _;by_cases e:s=t
   ·grind[az]
   ·rw[aD _ _ e];exact h1.tm s hs
  ·show a7 α.tm t _ s=.u;by_cases e:s=t
   ·subst e;have h2:=hA.out s hs;rw[ht] at h2;rcases ha with h|⟨c,h⟩<;>(rw[h] at h2;cases h2)
   ·rw[aD _ _ e];exact h1.out s hs
 by_cases aA:t < n
 ·have hr:=hA.tm t aA;rw[ht] at hr;by_cases aK:g.al k
  ·obtain⟨h1,h2⟩:=hS.freeze hk aK Bj (by omega);refine⟨_,agX h2,put h1.toLater fun _=>?_,h1⟩;have Yx:=hr.later h1.toLater;obtain⟨k2,k3,cs,ty,p1,p2,p3,p4,p5,p6,p7⟩:=h2.bT k (.arr sz rows rows.length ex) (az _ _ _) (h1.al k aK);have key:∀ c,rows.length<=c->aF (g.OQ (g.ob k) (rows.length*sz)) w (.sl false rows) (.slice (some ⟨g.ob k,0,none⟩) rows.length c):=by
    intro c hc;by_cases hn:rows=[]
    ·subst hn;exact .nil (fun h=>by grind)
    ·refine .sl (sz:=sz) (val:=fun i j=>cs.getD (i*sz+j) undef) hn (fun h=>by grind) (by omega) (fun i row hi=>(p5 i row hi).1) (fun i j row a hi hj=>?_) (fun i j row a hi hj=>?_)
     ·obtain⟨q1,q2⟩:=p5 i row hi;obtain⟨x,hx,dR⟩:=q2 j a hj;have Bl:j < sz:=by grind
      have mX:=(List.getElem?_eq_some_iff.1 hi).1;refine⟨.inr ⟨rfl,?_⟩,?_⟩
      ·rw[Nat.zero_add];exact mf mX Bl
      ·rw[Nat.zero_add];rw[cell_of_row w (g.ob k) _ cs ty (0,0) p1,hx];simp[Array.getD_eq_getD_getElem?,hx]
     ·obtain⟨q1,q2⟩:=p5 i row hi;obtain⟨x,hx,dR⟩:=q2 j a hj;simp only[Array.getD_eq_getD_getElem?,hx,Option.getD_some];exact dR
   obtain⟨v,hv⟩:∃ v,q.tmps.getD t undef=v:=⟨_,rfl⟩;rw[hv] at hr ⊢;rcases ha with rfl|⟨c,rfl⟩
   ·rcases pj hr with ⟨h,A',rfl⟩|⟨gT,c,rfl,hx,hle⟩
    ·have:rows=[]:=List.length_eq_zero_iff.1 h;subst this;exact .nil (fun h=>by grind)
    ·grind
   ·cases hr with
    |ob gT hc hp hx hle=>rw[Nat.zero_mul];exact key _ hle
  ·refine⟨g,hS.forget (Nat.le_refl _) fun j p hj _=>?_,put (Later.refl g w) fun _=>?_,Ext.refl ..⟩
   ·have hj:a7 S.get k none j=some p:=hj;by_cases e:j=k
    ·grind
    ·grind[aD]
   ·obtain⟨v,hv⟩:∃ v,q.tmps.getD t undef=v:=⟨_,rfl⟩;rw[hv] at hr ⊢;rcases ha with rfl|⟨c,rfl⟩
    ·rcases pj hr with ⟨h,A',rfl⟩|⟨gT,c,rfl,hx,hle⟩
     ·have:rows=[]:=List.length_eq_zero_iff.1 h;subst this;exact .nil (fun h=>by grind)
     ·grind
    ·cases hr with
     |ob gT hc hp hx hle=>exact absurd gT aK
 ·refine⟨g,hS.forget (Nat.le_refl _) fun j p hj _=>?_,put (Later.refl g w) fun h=>absurd h aA,Ext.refl ..⟩;have hj:a7 S.get k none j=some p:=hj;by_cases e:j=k
  ·grind[az]
  ·grind[aD]
def Rv (w0:World) (r:AV) (S:ae) (r':AV) (S':ae):Prop:=∀ (A:Nat->Prop) (g0 g:Gh) (UY w:World) (v:Value),St w0 A g S w->aF g w r v->∃ g',St w0 A g' S' w/\aF g' w r' v/\Ext A g w g' w
theorem af.rv {r':AV}{S1:ae}(h:af P w0 false q α S r S') (k:Rv w0 r S' r' S1):af P w0 false q α S r' S1:=by
 intro n o hr F m A g a w nx R hF hS hA hn;refine h n o hr F m A g a w nx R hF hS hA fun v w' g' h1 h2 h3=>?_;obtain⟨g2,k1,k2,k3⟩:=k A g g' w w' v h2 h1;exact hn v w' g2 k2 k1 (h3.trans k3)
theorem bR.slot {g:Gh}{w:World}{a:Act}{t:Nat}{b:AV}(h:bR g w n α a) (ht:α.tm t ≠ .u) (hr:aF g w b (a.tmps.getD t undef)):bR g w n ⟨a7 α.tm t b,α.df⟩ a:=by
 have aA:t < n:=by
  rcases Nat.lt_or_ge t n with h1|h1
  ·grind
  ·exact absurd (h.out t h1) ht
 refine⟨h.size,fun s hs=>?_,fun s hs=>?_,h.df,h.rY⟩
 ·show aF g w (a7 α.tm t b s) _;by_cases e:s=t
  ·grind[az]
  ·rw[aD _ _ e];exact h.tm s hs
 ·show a7 α.tm t b s=.u;rw[aD _ _ (by omega)];exact h.out s hs
theorem HM {t k sz by_ len:Nat}{ex:Bool}{b:QO}{rows more:List (List AV)}{x:List AV}{o:Oper}(ho:res P.toTables o.op=some (.append sz by_ (.t t) b)) (h1:α.tm t=.gr k sz len) (hk:S.get k=some (.arr sz rows 0 ex)) (hn:len=rows.length)
  (hb:∀ c,b.ev (a7 α.tm t c)=b.ev α.tm) (hm:dF S (b.ev α.tm)=some (x::more)) (gH:dF (S.set k none) (b.ev α.tm)=some (x::more)) (h3:∀ row ∈ x::more,row.length=sz/\row.all bO=true) (h4:(len+(x::more).length)*by_<=35184372088832) :
  ez P w0 n o α S (.gr S.nx sz (len+(x::more).length)) ((S.set k none).new (.arr sz (rows++x::more) 0 false)):=by
 intro F mm A g a w nx R hF hS hA nY;have aA:t < n:=by
  rcases Nat.lt_or_ge t n with h|h
  ·grind
  ·have:=hA.out t h;rw[h1] at this;cases this
 have hr:=hA.tm t aA;rw[h1] at hr;obtain⟨v,hv⟩:∃ v,a.tmps.getD t undef=v:=⟨_,rfl⟩;have bU:α.tm t ≠ .u:=by grind
 rw[hv] at hr;rcases pj hr with ⟨h,A',rfl⟩|⟨gT,c,rfl,hx,hle⟩
 ·have uy:rows=[]:=List.length_eq_zero_iff.1 (by omega);subst uy;have CZ:bR g w n ⟨a7 α.tm t (.sl true []),α.df⟩ a:=hA.slot bU (by rw[hv];exact .nil fun _=>rfl);have mM:St w0 A g (S.set k none) w:=hS.forget (Nat.le_refl _) fun j p hj _=>by
   have hj:a7 S.get k none j=some p:=hj;by_cases e:j=k
   ·grind[az]
   ·grind[aD]
  have h5:=af.Et (P:=P) (w0:=w0) (dr:=false) (α:=⟨a7 α.tm t (.sl true []),α.df⟩) (S:=S.set k none) (sz:=sz) (by_:=by_) (a:=.t t) (b:=b) (rows:=[]) (az _ _ _) (by grind) (by simp) (fun row hr=>(h3 row hr).1) (by grind) n o ho;refine h5 F mm A g a w nx R hF mM CZ fun v w' g' k1 k2 k3=>nY v w' g' ?_ k2 k3;subst h;cases k1 with
  |ob q1 q2 q3 q4 q5=>rw[Nat.zero_mul];exact .gr q1 (by have h:=q4 rfl;rw[Nat.zero_add] at h;exact h) q5
 ·have CZ:bR g w n ⟨a7 α.tm t (.ob k sz 0 len none),α.df⟩ a:=hA.slot bU (by
   rw[hv];have:=aF.ob (g:=g) (w:=w) (k:=k) (sz:=sz) (off:=0) (len:=len) (c:=c) (cx:=none) gT (fun m h=>by grind) (by omega) (fun _=>by omega) hle
   rwa [Nat.zero_mul] at this)
  have h5:=af.MH (P:=P) (w0:=w0) (dr:=false) (α:=⟨a7 α.tm t (.ob k sz 0 len none),α.df⟩) (S:=S) (sz:=sz) (by_:=by_) (a:=.t t) (b:=b) (k:=k) (fz:=0) (ex:=ex) (rows:=rows) (az _ _ _) hk (by grind) (Nat.zero_le _) (by omega) h3 h4 n o ho;rw[List.take_of_length_le (by omega)] at h5;refine h5 F mm A g a w nx R hF hS CZ fun v w' g' k1 k2 k3=>nY v w' g' ?_ k2 k3;cases k1 with
  |ob q1 q2 q3 q4 q5=>rw[Nat.zero_mul];exact .gr q1 (by grind) q5
theorem af.lT {t k sz by_ len:Nat}{ex:Bool}{b:QO}{rows more:List (List AV)}{x:List AV}(h1:α.tm t=.gr k sz len) (hk:S.get k=some (.arr sz rows 0 ex)) (hn:len=rows.length) (hb:∀ c,b.ev (a7 α.tm t c)=b.ev α.tm) (hm:dF S (b.ev α.tm)=some (x::more)) (gH:dF (S.set k none) (b.ev α.tm)=some (x::more))
  (h3:∀ row ∈ x::more,row.length=sz/\row.all bO=true) (h4:(len+(x::more).length)*by_<=35184372088832):af P w0 false (.append sz by_ (.t t) b) α S (.gr S.nx sz (len+(x::more).length)) ((S.set k none).new (.arr sz (rows++x::more) 0 false)) :=
 fun n o ho=>HM ho h1 hk hn hb hm gH h3 h4
section
variable {ρ:Hd}{T:Type}{f:T->List AV}{acc:List T}{x:T}
theorem ad.app {dd:Option Nat}{gg:Option (Nat × Bool)}{t:Nat}{b:QO}{sz by_ k len:Nat}{ex:Bool}(hw:bm α.tm gg=some true) (h1:α.tm t=.gr k sz len) (hk:S.get k=some (.arr sz (ρ.h (List.map f) acc) 0 ex)) (hn:len=acc.length) (iK:∀ c,b.ev (a7 α.tm t c)=b.ev α.tm)
  (hb:dF S (b.ev α.tm)=some [f x]) (cy:dF (S.set k none) (b.ev α.tm)=some [f x]) (hl:(f x).length=sz) (hc:(f x).all bO=true) (hy:(len+1)*by_<=35184372088832)
  (kk:∀ dp eK,dp=acc++[x]->eK=dp.length->ad P w0 rd n Q (.aN false l K) (bC dd α (.gr S.nx sz eK)) ((S.set k none).new (.arr sz (ρ.h (List.map f) dp) 0 false))):ad P w0 rd n Q (.aN false (⟨dd,gg,.append sz by_ (.t t) b⟩::l) K) α S:=by
 have hlen:(ρ.h (List.map f) acc).length=acc.length:=aE;have h:=kk _ _ rfl rfl;have e:ρ.h (List.map f) acc++[f x]=ρ.h (List.map f) (acc++[x]):=by rw[ρ.eq,ρ.eq,List.map_append];rfl
 rw[<-e,show (acc++[x]).length=len+[f x].length by grind] at h;exact ad.op (i:=⟨dd,gg,.append sz by_ (.t t) b⟩) hw (af.lT h1 hk (by omega) iK hb cy (by grind) (by grind)) h
theorem aR.grow {S:ae}{k sz len:Nat}{ex:Bool}(hk:S.get k=some (.arr sz (ρ.h (List.map f) acc) 0 ex)) (hn:len=acc.length):aR S (.gr k sz len) (aX ρ f false acc):=by
 rw[bQ];rw[ρ.eq] at hk;refine .gr hk (by grind) (by grind) (fun i row bw h1 h2=>?_) (fun i j row bw a a' h1 h2 h3 h4=>?_)
 ·grind
 ·rw[h2] at h1;rw[oJ_ h1,h3] at h4;rw[oJ_ h4];exact .refl _
end
end
def dh {T:Type}(f:T->AV) (l:List (Int × T)):List (Value × AV):=l.map fun p=>(cE p.1,f p.2)
def aB {T:Type}:List (Int × T)->Int->Option T
 |[],_=>none
 |p::l,i=>if p.1=i then some p.2 else aB l i
def fl {T:Type}:List (Int × T)->Int->T->List (Int × T)
 |[],i,v=>[(i,v)]
 |p::l,i,v=>if p.1=i then (i,v)::l else p::fl l i v
theorem cd {T:Type}{l:List (Int × T)}{i j:Int}{v:T}:aB (fl l i v) j=if i=j then some v else aB l j:=by
 induction l with
 |nil=>simp[fl,aB]
 |cons p l ih =>
  simp only[fl];by_cases h:p.1=i
  ·grind[aB]
  ·grind[aB]
section
variable {T:Type}{f:T->AV}{l:List (Int × T)}
theorem oV:lU (dh f l):=fun p hp=>by
 obtain⟨q,_,rfl⟩:=List.mem_map.1 hp;exact⟨_,rfl⟩
theorem uz (i:Int):oy (dh f l) i=(aB l i).map f:=by
 induction l with
 |nil=>rfl
 |cons p l ih =>
  simp only[dh,List.map_cons,oy,jB,cE,aB] at ih ⊢;by_cases h:p.1=i
  ·grind
  ·grind
theorem B5 (i:Int) (v:T):vp (dh f l) i (f v)=dh f (fl l i v):=by
 induction l with
 |nil=>rfl
 |cons p l ih =>
  simp only[dh,List.map_cons,vp,jB,cE,fl] at ih ⊢;by_cases h:p.1=i
  ·grind
  ·grind
end
section
variable {P:Program}{w0:World}{rd:Bool}{n B:Nat}{α:AA}{S S':ae}{Q:Exit->AA->ae->Prop}{r:AV}{l:List QI}{K:List ff}{V:List (Nat × Nat)}{lg:List (List Nat × List Nat × Bool)}{rs:List Nat}
theorem yM {o:Op}{x:Option QO}(h:res P.toTables o=some (.gj x)):∃ t y kt et,o=.makeMap t y/\x=y.map qo/\P.underlying t=some (.map kt et):=by
 cases o with
 |makeMap t y =>
  simp only[res,bE] at h;split at h
  ·grind
  ·grind
 |_ =>
  simp only[res] at h
  repeat' split at h
  all_goals cases h
theorem af.gj:af P w0 false (.gj none) α S (.mp S.nx) (S.new (.mp [])):=af.run fun n o hr=>by
 obtain⟨t,y,kt,et,ho,hy,hu⟩:=yM hr;cases y with
 |some y=>cases hy
 |none=>exact O2 ho
theorem af.Yy {x:QO}{kk:IntKind}{m:Int}(hx:x.ev α.tm=.v (.int kk m)):af P w0 false (.gj (some x)) α S (.mp S.nx) (S.new (.mp [])):=af.run fun n o hr=>by
 obtain⟨t,y,kt,et,ho,hy,hu⟩:=yM hr;cases y with
 |none=>cases hy
 |some y =>
  obtain rfl:=oJ_ hy;rw[aI] at hx;exact MM ho hu hx
theorem B6 {o:Op}{z:AV}{c:Bool}{x i:QO}(h:res P.toTables o=some (.look z c x i)):∃ t u v kt et kk zv,o=.lookup t u v c/\x=qo u/\i=qo v/\P.underlying t=some (.map kt et)/\P.underlying kt=some (.int kk)/\de P et=some zv/\z=lift zv:=by
 cases o with
 |lookup t u v c' =>
  simp only[res,bE,gU] at h;split at h
  ·rename_i kt et hu;split at h
   ·rename_i kk zv hk hz;simp only[oI_,ee.look.injEq] at h;obtain⟨rfl,rfl,rfl,rfl⟩:=h;exact⟨_,_,_,_,_,_,_,rfl,rfl,rfl,hu,hk,hz,rfl⟩
   all_goals cases h
  ·grind
 |_ =>
  simp only[res] at h
  repeat' split at h
  all_goals cases h
theorem af.look {z:AV}{c:Bool}{x i:QO}{k:Nat}{es:List (Value × AV)}{m:Int}(hx:x.ev α.tm=.mp k) (hS:S.get k=some (.mp es)) (hk:lU es) (hi:i.ev α.tm=.v (.int .i64 m)) :
  af P w0 false (.look z c x i) α S (match oy es m with|some a=>(if c then .aG [a,.v (.bool true)] else a)|none=>(if c then .aG [z,.v (.bool false)] else z)) S:=af.run fun n o hr=>by
 obtain⟨t,u,v,kt,et,kk,zv,ho,rfl,rfl,h1,h2,h3,rfl⟩:=B6 hr;rw[aI] at hx hi;exact R4 ho h1 h2 h3 hx hS hk hi
theorem B7 {o:Op}{x i b:QO}(h:res P.toTables o=some (.j7 x i b)):∃ t u v y kt et kk,o=.mapUpdate t u v y/\x=qo u/\i=qo v/\b=qo y/\P.underlying t=some (.map kt et)/\P.underlying kt=some (.int kk):=by
 cases o with
 |mapUpdate t u v y =>
  simp only[res,bE] at h;split at h
  ·grind
  ·grind
 |_ =>
  simp only[res] at h
  repeat' split at h
  all_goals cases h
theorem af.j7 {x i b:QO}{k:Nat}{es:List (Value × AV)}{m:Int}{a:AV}(hx:x.ev α.tm=.mp k) (hS:S.get k=some (.mp es)) (hk:lU es) (hi:i.ev α.tm=.v (.int .i64 m)) (hb:b.ev α.tm=a) :
  af P w0 false (.j7 x i b) α S (.v undef) (S.set k (some (.mp (vp es m a)))):=af.run fun n o hr=>by
 obtain⟨t,u,v,y,kt,et,kk,ho,rfl,rfl,rfl,h1,h2⟩:=B7 hr;rw[aI] at hx hi hb;exact HN ho h1 h2 hx hS hk hi hb
variable {ρ:Hd}{T:Type}{f:T->AV}{kv:List (Int × T)}
theorem ad.look {d:Option Nat}{g:Option (Nat × Bool)}{z:AV}{c:Bool}{x i:QO}{k:Nat}{m:Int}(hw:bm α.tm g=some true) (hx:x.ev α.tm=.mp k) (hS:S.get k=some (.mp (ρ.h (dh f) kv))) (hi:i.ev α.tm=.v (.int .i64 m))
  (k1:∀ v,aB kv m=some v->ad P w0 rd n Q (.aN false l K) (bC d α (if c then .aG [f v,.v (.bool true)] else f v)) S) (k2:aB kv m=none->ad P w0 rd n Q (.aN false l K) (bC d α (if c then .aG [z,.v (.bool false)] else z)) S) :
  ad P w0 rd n Q (.aN false (⟨d,g,.look z c x i⟩::l) K) α S:=by
 have h:=af.look (P:=P) (w0:=w0) (z:=z) (c:=c) hx hS (by rw[ρ.eq];exact oV) hi;rw[ρ.eq,uz] at h;refine ad.op (i:=⟨d,g,.look z c x i⟩) hw h ?_;cases hl:aB kv m with
 |some v=>exact k1 v hl
 |none=>exact k2 hl
theorem ad.j7 {d:Option Nat}{g:Option (Nat × Bool)}{x i b:QO}{k:Nat}{m:Int}{v:T}(hw:bm α.tm g=some true) (hx:x.ev α.tm=.mp k) (hS:S.get k=some (.mp (ρ.h (dh f) kv))) (hi:i.ev α.tm=.v (.int .i64 m)) (hb:b.ev α.tm=f v)
  (k1:∀ r5,r5=fl kv m v->ad P w0 rd n Q (.aN false l K) (bC d α (.v undef)) (S.set k (some (.mp (ρ.h (dh f) r5))))):ad P w0 rd n Q (.aN false (⟨d,g,.j7 x i b⟩::l) K) α S:=by
 have h:=af.j7 (P:=P) (w0:=w0) hx hS (by rw[ρ.eq];exact oV) hi hb;rw[ρ.eq,B5,<-ρ.eq (dh f)] at h;exact ad.op (i:=⟨d,g,.j7 x i b⟩) hw h (k1 _ rfl)
theorem ad.gj {d:Option Nat}{g:Option (Nat × Bool)}(ρ:Hd) (f:T->AV) (hw:bm α.tm g=some true) (k1:∀ kv:List (Int × T),kv=[]->ad P w0 rd n Q (.aN false l K) (bC d α (.mp S.nx)) (S.new (.mp (ρ.h (dh f) kv)))):ad P w0 rd n Q (.aN false (⟨d,g,.gj none⟩::l) K) α S:=by
 have h:=k1 [] rfl;rw[ρ.eq] at h;exact ad.op (i:=⟨d,g,.gj none⟩) hw af.gj h
end
end Go.Proofs.YtbpabjmnhggajaaGreat
