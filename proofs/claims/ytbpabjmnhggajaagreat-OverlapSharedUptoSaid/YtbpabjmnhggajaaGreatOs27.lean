import Derived.Laws.Cover3
import Derived.RecoverIn
import Derived.TacticsIn
import Derived.TacticsInMore
import Derived.Test.YtbpabjmnhggajaaGreatOs26
namespace Go.Proofs.YtbpabjmnhggajaaGreat
set_option linter.unusedVariables false
set_option linter.unusedSimpArgs false
open Go.RowKit
section
set_option maxRecDepth 100000
attribute [local irreducible] ah aC af ad
def Im.ok (x:Im):Prop:=vU x.a/\x.n.size<=1099511627776
end
section
set_option maxRecDepth 100000
attribute [local irreducible] ah aC af ad
section
variable {w0:World}{ρ:Hd}
def Ij (ρ:Hd) (acc:List Int):Ob:=.arr 1 (ρ.h (List.map aP) acc) 0 false
theorem PG {s:List Int}:∀ row ∈ ρ.h (List.map aP) s,∀ a ∈ row,Pure a:=by
 rw[ρ.eq];intro row hr a ha;obtain⟨x,_,rfl⟩:=List.mem_map.1 hr;obtain rfl:=List.mem_singleton.1 ha;exact .v
end
end
section
variable {P:Program}{w0:World}{dr:Bool}{N:Nat}{so:List (Nat × Ob)}{S T:ae}{α:AA}{f:FuncId}{args:List AV}{r:AV}
theorem Rn.aV {a:AV}(h:dz N a):Rn id N a a:=fun g w x hr=>aF.aV (B:=N) (g:=g) (g':=g.pre id N) (fun k hk ha=>⟨hk,ha⟩) (fun _ _=>rfl) (fun _ _=>rfl) (fun _ _ h=>h) hr h
theorem dJ.aV {g g':Gh}{w:World}{B b cp:Nat}{o:Ob}(aK:∀ k,k < B->g.al k->g'.al k) (jm:∀ k,k < B->g.al k->g'.ob k=g.ob k) (cw:∀ k,k < B->g.al k->g'.cp k=g.cp k) (hf:g'.fz=g.fz) (hk:fR B o) (hn:∀ J,o ≠ .fo J)
  (hr:∀ {a:AV}{x:Value},dz B a->aF g w a x->aF g' w a x) (h:dJ g w b cp o):dJ g' w b cp o:=by
 cases o with
 |arr sz rows fz ex =>
  obtain⟨cs,ty,h1,h2,h3,h4,h5,h6,h7⟩:=h;refine⟨cs,ty,h1,h2,h3,h4,fun i row f_=>⟨(h5 i row f_).1,fun j a ha=>?_⟩,h6,by rw[hf];exact h7⟩;obtain⟨x,hx,dR⟩:=(h5 i row f_).2 j a ha;exact⟨x,hx,hr (hk _ (List.mem_of_getElem? f_) _ (List.mem_of_getElem? ha)) dR⟩
 |mp es =>
  obtain⟨entries,clock,h1,h2,h3⟩:=h;refine⟨entries,clock,h1,h2,fun i k a ha=>?_⟩;obtain⟨e,he,gT,Zw⟩:=h3 i k a ha;exact⟨e,he,gT,hr (hk _ (List.mem_of_getElem? ha)) Zw⟩
 |mb es =>
  obtain⟨entries,h1,h2,h3,h4⟩:=h;refine⟨entries,h1,h2,fun i k a ha=>?_,h4⟩;obtain⟨e,he,gT,Zw⟩:=h3 i k a ha;exact⟨e,he,gT,hr (hk _ (List.mem_of_getElem? ha)) Zw⟩
 |lp st mP tm ps assign body =>
  obtain⟨L,h1,h2,h3,h4,h5,h6,h7,h8⟩:=h;exact⟨L,h1,h2,h3,h4,h5,h6,fun t ht=>hr (hk t) (h7 t ht),h8⟩
 |df=>exact h
 |si s pos=>exact h
 |fo J=>exact absurd rfl (hn J)
 |un=>exact h.elim
theorem kP.aV {o:Ob}(hk:fR N o) (hn:∀ J,o ≠ .fo J):kP id N o o:=by
 refine⟨fun g w b cp h=>?_,fun J h=>h⟩;exact dJ.aV (B:=N) (g:=g) (g':=g.pre id N) (fun k hk ha=>⟨hk,ha⟩) (fun _ _ _=>rfl) (fun _ _ _=>rfl) rfl hk hn (fun hk h=>Rn.aV hk g w _ h) h
theorem aF.back {gc g:Gh}{w:World}{o:Nat->Nat}(ho:∀ k,k < N->o k=k) (hB:Bk o gc g):∀ {a:AV}{x:Value},dz N a->aF gc w a x->aF g w a x:=by
 have aK:∀ k,k < N->gc.al k->g.al k:=fun k hk ha=>by have:=hB.al k ha;rwa [ho k hk] at this
 have jm:∀ k,k < N->gc.al k->g.ob k=gc.ob k:=fun k hk ha=>by have:=hB.ob k ha;rwa [ho k hk] at this
 have cw:∀ k,k < N->gc.al k->g.cp k=gc.cp k:=fun k hk ha=>by have:=hB.cp k ha;rwa [ho k hk] at this
 have Bj:=hB.fz;intro a x hp h
 induction h with
 |u=>exact .u
 |v=>exact .v
 |agg hs h ih=>cases hp with|agg hp=>exact .agg hs fun i a x h1 h2=>ih i a x h1 h2 (hp _ (List.mem_of_getElem? h1))
 |aG hs h ih=>cases hp with|aG hp=>exact .aG hs fun i a x h1 h2=>ih i a x h1 h2 (hp _ (List.mem_of_getElem? h1))
 |nil hc=>exact .nil hc
 |sl hn nH hle hl h hr ih =>
  cases hp with
  |sl hp=>exact .sl hn nH hle hl (fun i j row a h1 h2=>⟨by grind,(h i j row a h1 h2).2⟩) (fun i j row a h1 h2=>ih i j row a h1 h2 (hp _ (List.mem_of_getElem? h1) _ (List.mem_of_getElem? h2)))
 |ip h hr ih =>
  cases hp with
  |ip hp=>exact .ip (fun i a h1=>⟨by grind,(h i a h1).2⟩) (fun i a h1=>ih i a h1 (hp _ (List.mem_of_getElem? h1)))
 |ob hk hc UP hx hle =>
  cases hp with
  |ob aA =>
   rw[<-jm _ aA hk];exact .ob (aK _ aA hk) hc (by grind) (by grind) hle
 |pt hk =>
  cases hp with
  |pt aA=>rw[<-jm _ aA hk];exact .pt (aK _ aA hk)
 |mp hk =>
  cases hp with
  |mp aA=>rw[<-jm _ aA hk];exact .mp (aK _ aA hk)
 |yl hk =>
  cases hp with
  |yl aA=>rw[<-jm _ aA hk];exact .yl (aK _ aA hk)
 |jw=>exact .jw
 |gr hk hx hle =>
  cases hp with
  |gr aA=>rw[<-jm _ aA hk];exact .gr (aK _ aA hk) (by grind) hle
 |fn h1 h2 h3 h4 OR HA =>
  cases hp with
  |fn p1 p2=>exact .fn h1 h2 (fun i a x e1 e2=>OR i a x e1 e2 (p1 _ (List.mem_of_getElem? e1))) (fun i a x e1 e2=>HA i a x e1 e2 (p2 _ (List.mem_of_getElem? e1)))
structure Dk (so:List (Nat × Ob)) (N:Nat) (T:ae):Prop where
 le:N<=T.nx
 get:∀ j o,dL so j=some o->j < N/\T.get j=some o/\fR N o/\∀ J,o ≠ .fo J
 all:∀ j,j < N->∃ o,dL so j=some o
theorem aC.same (h:aC P w0 f args (aq so N) r (aq so N)) (hT:Dk so N T) (ha:∀ a ∈ args,dz N a) (hr:dz N r):aC P w0 f args T r T:=by
 obtain⟨T',zj⟩:∃ T':ae,T'=⟨fun k=>if k < T.nx then T.get k else none,T.nx⟩:=⟨_,rfl⟩;have get':∀ k o,T'.get k=some o->k < T.nx/\T.get k=some o:=fun k o hk=>by
  rw[zj] at hk;have hk:(if k < T.nx then T.get k else none)=some o:=hk;split at hk
  ·grind
  ·grind
 have Bz:T'.nx=T.nx:=by grind
 have tH:∀ k o,k < T.nx->T.get k=some o->T'.get k=some o:=fun k o hk h=>by
  rw[zj];show (if k < T.nx then T.get k else none)=some o;rw[if_pos hk];exact h
 have hle:=hT.le;have ho:∀ k,k < N->cT id N T'.nx k=k:=fun k hk=>ny hk;have hf:Fits id (aq so N) (aq so N) T' T':=by
  refine⟨fun i j _ _ e=>e,fun j hj=>by rw[Bz];exact Nat.lt_of_lt_of_le hj hle,fun j o hj=>?_,fun k o hk=>?_,.inr ⟨Nat.le_refl _,rfl⟩,.inr fun j J hj=>?_⟩
  ·obtain⟨h1,h2,h3,h4⟩:=hT.get j o hj;exact⟨o,tH j o (Nat.lt_of_lt_of_le h1 hle) h2,kP.aV h3 h4⟩
  ·obtain⟨h1,h2⟩:=get' k o hk;by_cases gT:k < N
   ·obtain⟨o',Zx⟩:=hT.all k gT;obtain⟨q1,q2,q3,q4⟩:=hT.get k o' Zx;obtain rfl:o'=o:=by grind
    refine .inl ⟨k,o',ho k gT,Zx,fun gc g w b cp hB _ oQ=>?_,fun J e=>e⟩;have tI:∀ k,k < N->cT id (aq so N).nx T'.nx k=k:=ho;exact dJ.aV (B:=N) (fun k hk ha=>by have:=hB.al k ha;rwa [tI k hk] at this) (fun k hk ha=>by have:=hB.ob k ha;rwa [tI k hk] at this) (fun k hk ha=>by have:=hB.cp k ha;rwa [tI k hk] at this) hB.fz q3 q4 (fun hk h=>aF.back tI hB hk h) oQ
   ·exact .inr ⟨by grind,fun j hj e=>gT (by rw[<-e];exact hj),hk⟩
  ·obtain⟨_,_,_,h4⟩:=hT.get j _ hj;exact absurd rfl (h4 J)
 have hc:=h.frame hf rfl (fun i a b h1 h2=>by
  rw[h1] at h2;obtain rfl:=oJ_ h2;exact Rn.aV (ha _ (List.mem_of_getElem? h1))) (fun gc g w x hB oQ=>aF.back (N:=N) (o:=cT id (aq so N).nx T'.nx) ho hB hr oQ)
 refine⟨hc.1,fun F m A g args' w hF hS hA=>(hc.2 F m A g args' w hF (hS.forget (by grind) fun j p hj _=>(get' j p hj).2) hA).mono ?_⟩;rintro e w' ⟨v,g',rfl,h1,h2,h3⟩;refine⟨v,g',rfl,h1,h2.forget (by grind) fun j p hj aK=>?_,h3⟩;have:=h2.al j aK;exact tH j p (by grind) hj
theorem af.acZ {f:QO}{fM:List QO}{g:FuncId}{args:List AV}(hc:aC P w0 g args (aq so N) r (aq so N)) (h:dW (f.ev α.tm) (fM.map (·.ev α.tm))=some (g,args)) (hT:Dk so N T) (ha:∀ a ∈ args,dz N a) (hr:dz N r):af P w0 dr (.call f fM) α T r T :=
 af.call h (hc.same hT ha hr) fun _=>rfl
end
section
variable {P:Program}{w0:World}{α:AA}{S:ae}
theorem af.Dl {x i b:QO}{k:Nat}{es:List (Value × AV)}{m:Int}{a:AV}(hx:x.ev α.tm=.mp k) (hS:S.get k=some (.mp es)) (hk:lU es) (hi:i.ev α.tm=.v (.int .i64 m)) (hb:b.ev α.tm=a) :
  af P w0 true (.j7 x i b) α S (.v undef) (S.set k (some (.mp (vp es m a)))):=by
 intro n o hr;obtain⟨t,u,v,y,kt,et,kk,ho,rfl,rfl,rfl,h1,h2⟩:=B7 hr;rw[aI] at hx hi hb;have e:∀ z ∈ [u,v,y],(α.only (cG o)).ev z=α.ev z:=fun z hz=>eH fun t ht=>en (by rw[ho];simp[Op.operands,<-ht];simpa using hz)
 exact⟨(HN ho h1 h2 (by grind) hS hk (by rw[e v (by simp)];exact hi) (by grind)).ops (fun c e=>by grind),
  fun hp=>(by rw[ho] at hp;cases hp),fun hw=>(by rw[ho] at hw;cases hw)⟩
theorem ad.Dl {rd:Bool}{n:Nat}{Q:Exit->AA->ae->Prop}{l:List QI}{K:List ff}{ρ:Hd}{T:Type}{f:T->AV}{kv:List (Int × T)}{d:Option Nat}{g:Option (Nat × Bool)}{x i b:QO}{k:Nat}{m:Int}{v:T}(hw:bm α.tm g=some true) (hx:x.ev α.tm=.mp k) (hS:S.get k=some (.mp (ρ.h (dh f) kv))) (hi:i.ev α.tm=.v (.int .i64 m)) (hb:b.ev α.tm=f v)
  (k1:∀ r5,r5=fl kv m v->ad P w0 rd n Q (.aN true l K) (bC d α (.v undef)) (S.set k (some (.mp (ρ.h (dh f) r5))))):ad P w0 rd n Q (.aN true (⟨d,g,.j7 x i b⟩::l) K) α S:=by
 have h:=af.Dl (P:=P) (w0:=w0) hx hS (by rw[ρ.eq];exact oV) hi hb;rw[ρ.eq,B5,<-ρ.eq (dh f)] at h;exact ad.op (i:=⟨d,g,.j7 x i b⟩) hw h (k1 _ rfl)
end
section
set_option maxRecDepth 100000
attribute [local irreducible] ah aC af ad
def ahi:FQ 30 Tryz.f30:=a_ Tryz.func30 Tryz.call30
def Vf:List Nat:=[0,5,1]
def M3 (e:Int):Value:=.iface 122 (.agg #[.int .i64 e])
def nE (e:Int):List PanicEntry:=[{ v:=M3 e,recovered:=false }]
section
variable {w0:World}{ρ:Hd}
theorem Zy (b:Bool) (e:Int):Hc Tryz.prog w0 30 [.v (.bool b),iv e] b (.aG []) (nE e):=by
 refine mK.U_ ahi.2 (by simp[Tryz.ntmps30]) (.aG fun a ha=>by grind) ?_;cases b
 ·refine gq Vf ?_;refine og Vf (af.EK rfl (by kernel_rfl)) ?_;refine ad.y9 rfl (tz.y9 rfl) ?_;refine gq Vf ?_;exact ad.Y9 rfl ⟨rfl,rfl⟩
 ·refine gq Vf ?_;exact ad.za rfl (by conv=>lhs;cbv) ⟨rfl,aR.of_eq rfl⟩
end
end
section
set_option maxRecDepth 100000
attribute [local irreducible] ah aC af ad
end
section
set_option maxRecDepth 100000
attribute [local irreducible] ah aC af ad
end
section
variable {P:Program}{w0:World}{α:AA}{S:ae}
theorem SF {v:Value}(h:lift v=.sl true []):v=.slice none 0 0:=by
 have h1:∀ v,bJ v=.sl true []->v=.slice none 0 0:=by grind[bJ]
 cases v with
 |agg cs=>cases h
 |_=>exact h1 _ h
theorem Zz {u:Operand}(h:.c (.sl true [])=qo u):u=.const (.slice none 0 0):=by
 cases u with
 |const v =>
  injection h with h;rw[SF h.symm]
 |_=>cases h
theorem Lx {o:Op}{op:BinOp}{x:QO}(h:res P.toTables o=some (.bin op .s x (.c (.sl true [])))):∃ t u s e,o=.binOp op t u (.const (.slice none 0 0)) s/\x=qo u/\P.underlying t=some (.slice e):=by
 cases o with
 |binOp UN t u v s =>
  simp only[res,bE] at h;split at h
  ·grind
  ·rename_i e hu;simp only[oI_,ee.bin.injEq] at h;obtain⟨rfl,_,rfl,h4⟩:=h;rw[Zz h4.symm];exact⟨_,_,_,_,rfl,rfl,hu⟩
  ·grind
  ·grind
  ·grind
  ·grind
 |_ =>
  simp only[res] at h
  repeat' split at h
  all_goals cases h
def xd:AV->Option Bool
 |.sl _ (_::_)=>some false
 |.ob ..=>some false
 |.gr _ _ (_+1)=>some false
 |.v (.slice A _ _)=>some A.isNone
 |_=>none
theorem SG {g:Gh}{w:World}{a:AV}{x:Value}{b:Bool}(h:xd a=some b) (hr:aF g w a x):∃ A l c,x=.slice A l c/\A.isNone=b:=by
 unfold xd at h;split at h
 ·cases hr with
  |sl=>obtain rfl:=oJ_ h;exact⟨_,_,_,rfl,rfl⟩
 ·cases hr with
  |ob=>obtain rfl:=oJ_ h;exact⟨_,_,_,rfl,rfl⟩
 ·cases hr with
  |gr=>obtain rfl:=oJ_ h;exact⟨_,_,_,rfl,rfl⟩
 ·cases hr with
  |v=>obtain rfl:=oJ_ h;exact⟨_,_,_,rfl,rfl⟩
 ·grind
def zk (op:BinOp) (b:Bool):Option Bool:=match op with
 |.eql=>some b
 |.neq=>some (!b)
 |_=>none
theorem Ly {op:BinOp}{x:QO}{b d:Bool}{n:Nat}{o:Oper}(hr:res P.toTables o.op=some (.bin op .s x (.c (.sl true [])))) (β:AA) (hx:xd (x.ev β.tm)=some b) (hd:zk op b=some d):ez P w0 n o β S (.v (.bool d)) S:=by
 obtain⟨t,u,s,e,ho,rfl,hu⟩:=Lx hr;rw[aI] at hx;refine aQ.ops (aQ.quiet fun A g c w hS hA=>⟨.bool d,?_,.v⟩) fun c e=>by grind
 obtain⟨B,l,cc,h1,rfl⟩:=SG hx (hA.ev u);have h2:c.eval (.const (.slice none 0 0))=.slice none 0 0:=rfl;cases op<;>cases hd
 ·simp[execOp,ho,h1,eqGuard,h2,binOp,run_equal_slice_nil w t e B l cc hu]
 ·simp[execOp,ho,h1,eqGuard,h2,binOp,run_equal_slice_nil w t e B l cc hu]
theorem af.nil {dr:Bool}{op:BinOp}{x:QO}{b d:Bool}(hx:xd (x.ev α.tm)=some b) (hd:zk op b=some d):af P w0 dr (.bin op .s x (.c (.sl true []))) α S (.v (.bool d)) S:=by
 cases dr with
 |false=>exact fun n o hr=>Ly hr α hx hd
 |true =>
  intro n o hr;obtain⟨t,u,s,e,ho,hu,_⟩:=Lx hr;have key:∀ z ∈ o.op.operands,(α.only (cG o)).ev z=α.ev z:=fun z hz=>eH fun t e=>en (by grind);have h1:(α.only (cG o)).ev u=α.ev u:=key u (by rw[ho];simp[Op.operands]);have h3:∀ T,ez P w0 n o (α.only (cG o)) T (.v (.bool d)) T:=fun T=>Ly hr _ (by grind[aI]) hd;exact⟨h3 S,fun _=>⟨rfl,h3⟩,fun _=>rfl⟩
theorem PH {v:Value}(h:lift v=.v (.pointer none)):v=.pointer none:=by
 have h1:∀ v,bJ v=.v (.pointer none)->v=.pointer none:=by
  intro v h;unfold bJ at h;split at h
  ·grind
  ·grind
 cases v with
 |agg cs=>cases h
 |_=>exact h1 _ h
theorem WV {u:Operand}(h:.c (.v (.pointer none))=qo u):u=.const (.pointer none):=by
 cases u with
 |const v =>
  injection h with h;rw[PH h.symm]
 |_=>cases h
theorem Ik {o:Op}{op:BinOp}{x:QO}(h:res P.toTables o=some (.bin op .p x (.c (.v (.pointer none))))):∃ t u s a,o=.binOp op t u (.const (.pointer none)) s/\x=qo u/\P.underlying t=some (.pointer a):=by
 cases o with
 |binOp UN t u v s =>
  simp only[res,bE] at h;split at h
  ·grind
  ·grind
  ·grind
  ·rename_i a hu;simp only[oI_,ee.bin.injEq] at h;obtain⟨rfl,_,rfl,h4⟩:=h;rw[WV h4.symm];exact⟨_,_,_,_,rfl,rfl,hu⟩
  ·grind
  ·grind
 |_ =>
  simp only[res] at h
  repeat' split at h
  all_goals cases h
def Il:AV->Option Bool
 |.pt ..=>some false
 |.ip ..=>some false
 |.v (.pointer A)=>some A.isNone
 |_=>none
theorem SI {g:Gh}{w:World}{a:AV}{x:Value}{b:Bool}(h:Il a=some b) (hr:aF g w a x):∃ A,x=.pointer A/\A.isNone=b:=by
 unfold Il at h;split at h
 ·cases hr with
  |pt=>obtain rfl:=oJ_ h;exact⟨_,rfl,rfl⟩
 ·cases hr with
  |ip=>obtain rfl:=oJ_ h;exact⟨_,rfl,rfl⟩
 ·cases hr with
  |v=>obtain rfl:=oJ_ h;exact⟨_,rfl,rfl⟩
 ·grind
theorem yt (w:World) (d:Nat) {t:TypeId}{a}(h:P.underlying t=some (.pointer a)) (A:Option Addr):(Op.equalIn (d+1) t (.pointer A) (.pointer none)).run P w=.ok A.isNone w:=by
 cases A<;>simp[Op.equalIn,run_underlying h]
theorem Be (w:World) {t:TypeId}{a}(h:P.underlying t=some (.pointer a)) (A:Option Addr):(Op.equal t (.pointer A) (.pointer none)).run P w=.ok A.isNone w:=yt w 9999 h A
theorem Io {op:BinOp}{x:QO}{b d:Bool}{n:Nat}{o:Oper}(hr:res P.toTables o.op=some (.bin op .p x (.c (.v (.pointer none))))) (β:AA) (hx:Il (x.ev β.tm)=some b) (hd:zk op b=some d):ez P w0 n o β S (.v (.bool d)) S:=by
 obtain⟨t,u,s,e1,ho,rfl,hu⟩:=Ik hr;rw[aI] at hx;refine aQ.ops (aQ.quiet fun A g c w hS hA=>⟨.bool d,?_,.v⟩) fun c e=>by grind
 have h2:c.eval (.const (.pointer none))=.pointer none:=rfl;obtain⟨B,h1,rfl⟩:=SI hx (hA.ev u);have hq:=Be w hu B;cases op<;>cases hd<;>simp[execOp,ho,h1,eqGuard,h2,binOp,hq]
theorem af.ahj {dr:Bool}{op:BinOp}{x:QO}{b d:Bool}(hx:Il (x.ev α.tm)=some b) (hd:zk op b=some d):af P w0 dr (.bin op .p x (.c (.v (.pointer none)))) α S (.v (.bool d)) S:=by
 cases dr with
 |false=>exact fun n o hr=>Io hr α hx hd
 |true =>
  intro n o hr;obtain⟨t,u,s,_,ho,hu,_⟩:=Ik hr;have key:∀ z ∈ o.op.operands,(α.only (cG o)).ev z=α.ev z:=fun z hz=>eH fun t e=>en (by grind);have h1:(α.only (cG o)).ev u=α.ev u:=key u (by rw[ho];simp[Op.operands]);have h3:∀ T,ez P w0 n o (α.only (cG o)) T (.v (.bool d)) T:=fun T=>Io hr _ (by grind[aI]) hd;exact⟨h3 S,fun _=>⟨rfl,h3⟩,fun _=>rfl⟩
end
inductive Tr (α:Type) where
 |nil
 |nd (l:Tr α) (v:Option α) (r:Tr α)
def gz {α:Type}:Tr α->Nat->Option α
 |.nil,_=>none
 |.nd l v r,k=>match Nat.beq k 0 with
  |true=>v
  |false=>match Nat.beq (k % 2) 1 with
   |true=>gz l (k / 2)
   |false=>gz r (k / 2 - 1)
def tJ {α:Type}:Nat->Tr α->Nat->α->Tr α
 |0,t,_,_=>t
 |m+1,.nil,k,a=>match Nat.beq k 0 with
  |true=>.nd .nil (some a) .nil
  |false=>match Nat.beq (k % 2) 1 with
   |true=>.nd (tJ m .nil (k / 2) a) none .nil
   |false=>.nd .nil none (tJ m .nil (k / 2 - 1) a)
 |m+1,.nd l v r,k,a=>match Nat.beq k 0 with
  |true=>.nd l (some a) r
  |false=>match Nat.beq (k % 2) 1 with
   |true=>.nd (tJ m l (k / 2) a) v r
   |false=>.nd l v (tJ m r (k / 2 - 1) a)
theorem AS {i j:Nat}(h:Nat.beq i j=false):i ≠ j:=fun e=>by rw[e,Nat.beq_refl] at h;cases h
theorem SJ {α:Type}{a:α}:∀ {m:Nat}{t:Tr α}{k j:Nat},k < m->gz (tJ m t k a) j=if j=k then some a else gz t j:=by
 have step:∀ (l:Tr α) (v:Option α) (r:Tr α) (j:Nat),gz (.nd l v r) j=if j=0 then v else if j % 2=1 then gz l (j / 2) else gz r (j / 2 - 1):=by
  intro l v r j;simp only[gz];cases h0:Nat.beq j 0 with
  |true=>rw[if_pos (Nat.eq_of_beq_eq_true h0)]
  |false =>
   rw[if_neg (AS h0)];cases h1:Nat.beq (j % 2) 1 with
   |true=>rw[if_pos (Nat.eq_of_beq_eq_true h1)]
   |false=>rw[if_neg (AS h1)]
 have nil:∀ j,gz (Tr.nil:Tr α) j=none:=fun j=>rfl;have ac0:∀ (m:Nat) (t:Tr α) (k:Nat),∃ l v r,(∀ j,gz t j=gz (.nd l v r) j)/\tJ (m+1) t k a=if k=0 then .nd l (some a) r else if k % 2=1 then .nd (tJ m l (k / 2) a) v r else .nd l v (tJ m r (k / 2 - 1) a):=by
  intro m t k;have key:∀ {X Y Z:Tr α},(match Nat.beq k 0 with|true=>X|false=>match Nat.beq (k % 2) 1 with|true=>Y|false=>Z)=if k=0 then X else if k % 2=1 then Y else Z:=by
   intro X Y Z;cases h0:Nat.beq k 0 with
   |true=>rw[if_pos (Nat.eq_of_beq_eq_true h0)]
   |false =>
    rw[if_neg (AS h0)];cases h1:Nat.beq (k % 2) 1 with
    |true=>rw[if_pos (Nat.eq_of_beq_eq_true h1)]
    |false=>rw[if_neg (AS h1)]
  cases t with
  |nil =>
   refine⟨.nil,none,.nil,fun j=>?_,by rw[tJ,key]⟩;rw[step,nil]
   repeat' split
   all_goals rfl
  |nd l v r=>exact⟨l,v,r,fun j=>rfl,by rw[tJ,key]⟩
 intro m
 induction m with
 |zero=>intro t k j h;omega
 |succ m ih =>
  intro t k j h;obtain⟨l,v,r,h1,h2⟩:=ac0 m t k;rw[h2,h1 j];by_cases k0:k=0
  ·grind
  ·grind
def put {α:Type}(t:Tr α) (k:Nat) (a:α):Tr α:=tJ (k+1) t k a
theorem lO {α:Type}{a:α}{t:Tr α}{k j:Nat}:gz (put t k a) j=if j=k then some a else gz t j:=SJ (Nat.lt_succ_self k)
def e_ (t:Tr AV):Nat->AV:=fun k=>match gz t k with|some a=>a|none=>.u
theorem xe {t:Tr AV}{d:Nat}{a:AV}:e_ (put t d a)=a7 (e_ t) d a:=by grind[e_,lO,az,aD]
def xf (d:Option Nat) (t:Tr AV) (a:AV):Tr AV:=match d with|some d=>put t d a|none=>t
theorem tK {d:Option Nat}{t:Tr AV}{a:AV}{l:List DE}:bC d ⟨e_ t,l⟩ a=⟨e_ (xf d t a),l⟩:=by
 cases d with
 |none=>rfl
 |some d=>show (⟨a7 (e_ t) d a,l⟩:AA)=⟨e_ (put t d a),l⟩;rw[xe]
def sK:List AV->Nat->Tr AV->Tr AV
 |[],_,t=>t
 |a::l,i,t=>sK l (i+1) (put t i a)
theorem Lz:∀ {l:List AV}{i:Nat}{t:Tr AV}{k:Nat},e_ (sK l i t) k=if i<=k/\k < i+l.length then (l[k - i]?).getD .u else e_ t k
 |[],i,t,k=>by grind[sK]
 |a::l,i,t,k=>by
  rw[sK,Lz,xe];by_cases h1:i+1<=k/\k < i+1+l.length
  ·grind
  ·grind[az,aD]
theorem SL {args:List AV}:e_ (sK args 0 .nil)=kG args:=by
 funext k;rw[Lz];by_cases h:0<=k/\k < 0+args.length
 ·rw[if_pos h];rfl
 ·rw[if_neg h];unfold kG;rw[List.getElem?_eq_none (by omega)]
  rfl
def AT (t:Tr AV):List (Nat × AV)->Tr AV
 |[]=>t
 |p::l=>AT (put t p.1 p.2) l
theorem F0:∀ {l:List (Nat × AV)}{t:Tr AV},e_ (AT t l)=uu (e_ t) l
 |[],t=>rfl
 |p::l,t=>by rw[AT,F0,xe];rfl
def toLk {α:Type}:Tr α->List (Nat × α)
 |.nil=>[]
 |.nd l v r=>(match v with|some a=>[(0,a)]|none=>[])++((toLk l).map (fun p=>(2*p.1+1,p.2))++(toLk r).map (fun p=>(2*p.1+2,p.2)))
theorem WW {α:Type}(l:Tr α) (v:Option α) (r:Tr α) (j:Nat):gz (.nd l v r) j=if j=0 then v else if j % 2=1 then gz l (j / 2) else gz r (j / 2 - 1):=by
 simp only[gz];cases h0:Nat.beq j 0 with
 |true=>rw[if_pos (Nat.eq_of_beq_eq_true h0)]
 |false =>
  rw[if_neg (AS h0)];cases h1:Nat.beq (j % 2) 1 with
  |true=>rw[if_pos (Nat.eq_of_beq_eq_true h1)]
  |false=>rw[if_neg (AS h1)]
theorem toLk_mem {α:Type}:∀ {t:Tr α}{k:Nat}{a:α},(k,a) ∈ toLk t ↔ gz t k=some a
 |.nil,k,a=>by simp[toLk,gz]
 |.nd l v r,k,a=>by
  rw[WW];simp only[toLk,List.mem_append,List.mem_map];constructor
  ·rintro (h|⟨⟨j,b⟩,h,e⟩|⟨⟨j,b⟩,h,e⟩)
   ·grind
   ·simp only[pI_] at e;obtain⟨rfl,rfl⟩:=e;rw[if_neg (by omega),if_pos (by omega),show (2*j+1) / 2=j by omega];exact toLk_mem.1 h
   ·simp only[pI_] at e;obtain⟨rfl,rfl⟩:=e;rw[if_neg (by omega),if_neg (by omega),show (2*j+2) / 2 - 1=j by omega];exact toLk_mem.1 h
  ·intro h;by_cases k0:k=0
   ·grind
   ·rw[if_neg k0] at h;by_cases k1:k % 2=1
    ·rw[if_pos k1] at h;exact .inr (.inl ⟨(k / 2,a),toLk_mem.2 h,by grind⟩)
    ·rw[if_neg k1] at h;exact .inr (.inr ⟨(k / 2 - 1,a),toLk_mem.2 h,by grind⟩)
abbrev FJ:=Nat->(Nat->Nat->Prop)->(Nat->Prop)->World->Prop
structure XS where
 m:Tr (Option Ob)
 nx:Nat
 lw:Nat
 yk:Option Nat
 an:Nat
 lg:List (List AV × Bool)
def eB (o:Option Nat) (k:Nat):Bool:=match o with|some j=>Nat.beq j k|none=>false
def fb (s:XS) (k:Nat):Option Ob:=match gz s.m k with|some o=>o|none=>none
def den (J:FJ) (s:XS):ae:=⟨fun k=>match eB s.yk k with|true=>some (.fo J)|false=>fb s k,s.nx⟩
def eW (s:XS):ae:=⟨fun k=>match eB s.yk k with|true=>none|false=>fb s k,s.nx⟩
def lP (s:XS) (k:Nat) (o:Option Ob):XS:=⟨put s.m k o,s.nx,Nat.min s.lw k,s.yk,s.an,s.lg⟩
def mo (s:XS) (o:Ob):XS:=⟨put s.m s.nx (some o),s.nx+1,Nat.min s.lw s.nx,s.yk,s.an,s.lg⟩
theorem Vg {o:Option Nat}{k:Nat}(h:eB o k=true):o=some k:=by
 cases o with
 |none=>cases h
 |some j=>rw[Nat.eq_of_beq_eq_true h]
theorem dB {J:FJ}{s:XS}{k:Nat}{o:Ob}(h:(eW s).get k=some o):(den J s).get k=some o/\eB s.yk k=false:=by
 have h:(match eB s.yk k with|true=>none|false=>fb s k)=some o:=h;show (match eB s.yk k with|true=>some (.fo J)|false=>fb s k)=some o/\_;cases e:eB s.yk k with
 |true=>rw[e] at h;cases h
 |false=>rw[e] at h;exact⟨h,rfl⟩
theorem jJ {J:FJ}{s:XS}{k:Nat}{o:Option Ob}(hk:eB s.yk k=false):den J (lP s k o)=(den J s).set k o:=by
 unfold den lP ae.set;simp only[ae.mk.injEq,and_true];funext j;unfold fb;simp only[lO];by_cases e:j=k
 ·grind[az]
 ·grind[aD]
theorem jK {J:FJ}{s:XS}{o:Ob}(hk:eB s.yk s.nx=false):den J (mo s o)=(den J s).new o:=by
 unfold den mo ae.new;simp only[ae.mk.injEq,and_true];funext j;unfold fb;simp only[lO];by_cases e:j=s.nx
 ·grind[az]
 ·grind[aD]
inductive zl (P:Program) (w0:World):FJ->List (List AV × Bool)->FJ->Prop where
 |nil (J:FJ):zl P w0 J [] J
 |cons {J J1 J':FJ}{x:List AV}{b:Bool}{l:List (List AV × Bool)}(h:∀ (T:ae) (k:Nat),T.get k=some (.fo J)->qU P w0 k x T (.v (.bool b)) (T.set k (some (.fo J1)))) (t:zl P w0 J1 l J'):zl P w0 J ((x,b)::l) J'
section
variable {P:Program}{w0:World}
theorem zl.app:∀ {l m:List (List AV × Bool)}{J J':FJ},zl P w0 J (l++m) J'->∃ J1,zl P w0 J l J1/\zl P w0 J1 m J'
 |[],m,J,J',h=>⟨J,.nil J,h⟩
 |(x,b)::l,m,J,J',h=>by
  cases h with
  |cons h t =>
   obtain⟨J1,h1,h2⟩:=t.app;exact⟨J1,.cons h h1,h2⟩
structure eC (s s':XS):Prop where
 lw:s'.lw<=s.lw
 nx:s.nx<=s'.nx
 yk:s'.yk=s.yk
 lg:∃ L,s'.lg=L++s.lg
 ao:∀ k,k < s'.lw->fb s' k=fb s k
theorem eC.refl (s:XS):eC s s:=⟨Nat.le_refl _,Nat.le_refl _,rfl,⟨[],rfl⟩,fun _ _=>rfl⟩
theorem eC.trans {s1 s2 s3:XS}(h:eC s1 s2) (k:eC s2 s3):eC s1 s3:=by
 obtain⟨L,hL⟩:=h.lg;obtain⟨M,hM⟩:=k.lg;exact⟨Nat.le_trans k.lw h.lw,Nat.le_trans h.nx k.nx,k.yk.trans h.yk,⟨M++L,by grind⟩,fun j hj=>(k.ao j hj).trans (h.ao j (Nat.lt_of_lt_of_le hj k.lw))⟩
theorem eC.wr {s:XS}{k:Nat}{o:Option Ob}:eC s (lP s k o):=by
 refine⟨Nat.min_le_left _ _,Nat.le_refl _,rfl,⟨[],rfl⟩,fun j hj=>?_⟩;have:j < k:=Nat.lt_of_lt_of_le hj (Nat.min_le_right _ _);unfold fb lP;simp only[lO];rw[if_neg (by omega)]
theorem eC.nw {s:XS}{o:Ob}:eC s (mo s o):=by
 refine⟨Nat.min_le_left _ _,Nat.le_succ _,rfl,⟨[],rfl⟩,fun j hj=>?_⟩;have:j < s.nx:=Nat.lt_of_lt_of_le hj (Nat.min_le_right _ _);unfold fb mo;simp only[lO];rw[if_neg (by omega)]
def jL (P:Program) (w0:World) (s s':XS) (J J':FJ):Prop:=∃ L,s'.lg=L++s.lg/\zl P w0 J L.reverse J'
theorem jL.same {s s':XS}{J J':FJ}(h:jL P w0 s s' J J') (e:s'.lg=s.lg):J'=J:=by
 obtain⟨L,h1,h2⟩:=h;rw[e] at h1;have:L=[]:=by
  have:=congrArg List.length h1;simp at this;exact this
 subst this;cases h2
 rfl
theorem jL.split {s1 s2 s3:XS}{J J':FJ}(h:eC s1 s2) (k:eC s2 s3) (hc:jL P w0 s1 s3 J J'):∃ J1,jL P w0 s1 s2 J J1/\jL P w0 s2 s3 J1 J':=by
 obtain⟨L,hL⟩:=h.lg;obtain⟨M,hM⟩:=k.lg;obtain⟨X,hX,hJ⟩:=hc;rw[hM,hL,<-List.append_assoc] at hX;obtain rfl:=List.append_cancel_right hX;rw[List.reverse_append] at hJ;obtain⟨J1,h1,h2⟩:=hJ.app;exact⟨J1,⟨L,hL,h1⟩,⟨M,hM,h2⟩⟩
end
def l4 (F:AV->Option AV):List AV->Option (List AV)
 |[]=>some []
 |a::l=>match F a with
  |some a'=>match l4 F l with
   |some l'=>some (a'::l')
   |none=>none
  |none=>none
def tL (F:AV->Option AV):List (List AV)->Option (List (List AV))
 |[]=>some []
 |a::l=>match l4 F a with
  |some a'=>match tL F l with
   |some l'=>some (a'::l')
   |none=>none
  |none=>none
def iz (S:ae):Nat->AV->Option AV
 |0,_=>none
 |m+1,a=>match a with
  |.v x=>some (.v x)
  |.agg l=>match l4 (iz S m) l with|some l'=>some (.agg l')|none=>none
  |.aG l=>match l4 (iz S m) l with|some l'=>some (.aG l')|none=>none
  |.sl _ rows=>match tL (iz S m) rows with|some l'=>some (.sl false l')|none=>none
  |.ip cs=>match l4 (iz S m) cs with|some l'=>some (.ip l')|none=>none
  |.fn f l c=>match l4 (iz S m) l,l4 (iz S m) c with|some l',some c'=>some (.fn f l' c')|_,_=>none
  |.ob k sz off len _=>match S.get k with
   |some (.arr sz' rows _ _)=>match Nat.beq sz' sz && Nat.ble (off+len) rows.length with
    |true=>match tL (iz S m) ((rows.drop off).take len) with|some l'=>some (.sl false l')|none=>none
    |false=>none
   |_=>none
  |.gr k sz len=>match S.get k with
   |some (.arr sz' rows _ _)=>match Nat.beq sz' sz && Nat.ble len rows.length with
    |true=>match tL (iz S m) (rows.take len) with|some l'=>some (.sl false l')|none=>none
    |false=>none
   |_=>none
  |.pt k sz i j=>match S.get k with
   |some (.arr sz' rows _ _)=>match Nat.beq sz' sz with
    |true=>match rows[i]? with
     |some row=>match Nat.ble j row.length with
      |true=>match l4 (iz S m) (row.drop j) with|some l'=>some (.ip l')|none=>none
      |false=>none
     |none=>none
    |false=>none
   |_=>none
  |_=>none
def g_ (F:AV->Bool):List AV->Bool
 |[]=>true
 |a::l=>match F a with|true=>g_ F l|false=>false
def tM (F:AV->Bool):List (List AV)->Bool
 |[]=>true
 |a::l=>match g_ F a with|true=>tM F l|false=>false
def jU:Nat->AV->Bool
 |0,_=>false
 |m+1,a=>match a with
  |.v _=>true
  |.agg l|.aG l|.ip l=>g_ (jU m) l
  |.sl _ rows=>tM (jU m) rows
  |.fn _ l c=>match g_ (jU m) l with|true=>g_ (jU m) c|false=>false
  |_=>false
theorem eu {F:AV->Bool}:∀ {l:List AV},g_ F l=true->∀ a ∈ l,F a=true
 |[],_,a,h=>by grind
 |b::l,hp,a,h=>by
  simp only[g_] at hp;split at hp
  ·rename_i hb;rcases List.mem_cons.1 h with rfl|h
   ·grind
   ·exact eu hp a h
  ·grind
theorem l5 {F:AV->Bool}:∀ {l:List (List AV)},tM F l=true->∀ r ∈ l,∀ a ∈ r,F a=true
 |[],_,a,h=>by grind
 |b::l,hp,a,h=>by
  simp only[tM] at hp;split at hp
  ·rename_i hb;rcases List.mem_cons.1 h with rfl|h
   ·exact eu hb
   ·exact l5 hp a h
  ·grind
theorem fy:∀ {m:Nat}{a:AV},jU m a=true->Pure a
 |0,a,h=>by cases h
 |m+1,a,h=>by
  cases a with
  |v x=>exact .v
  |agg l=>exact .agg fun a ha=>fy (eu h a ha)
  |aG l=>exact .aG fun a ha=>fy (eu h a ha)
  |ip l=>exact .ip fun a ha=>fy (eu h a ha)
  |sl ex rows=>exact .sl fun r hr a ha=>fy (l5 h r hr a ha)
  |fn f l c =>
   simp only[jU] at h;split at h
   ·rename_i h1;exact .fn (fun a ha=>fy (eu h1 a ha)) (fun a ha=>fy (eu h a ha))
   ·grind
  |_=>cases h
theorem xg {m:Nat}:∀ {l:List AV},g_ (jU m) l=true->dK l
 |[],_=>trivial
 |a::l,h=>by
  simp only[g_] at h;split at h
  ·rename_i h1;exact⟨fy h1,xg h⟩
  ·grind
theorem AU {F:AV->Option AV}:∀ {l l':List AV},l4 F l=some l'->l.length=l'.length/\∀ (i:Nat) (a a':AV),l[i]?=some a->l'[i]?=some a'->F a=some a'
 |[],l',h=>by obtain rfl:=oJ_ h;exact⟨rfl,fun i a a' h=>by grind⟩
 |b::l,l',h=>by
  simp only[l4] at h;split at h
  ·rename_i b' hb;split at h
   ·rename_i m hm;obtain rfl:=oJ_ h;obtain⟨h1,h2⟩:=AU hm;refine⟨by grind,fun i a a' ha cM=>?_⟩;cases i with
    |zero=>simp at ha cM;subst ha cM;exact hb
    |succ i=>simp at ha cM;exact h2 i a a' ha cM
   ·grind
  ·grind
theorem vZ {F:AV->Option AV}:∀ {l l':List (List AV)},tL F l=some l'->l.length=l'.length/\∀ (i:Nat) (a a':List AV),l[i]?=some a->l'[i]?=some a'->l4 F a=some a'
 |[],l',h=>by obtain rfl:=oJ_ h;exact⟨rfl,fun i a a' h=>by grind⟩
 |b::l,l',h=>by
  simp only[tL] at h;split at h
  ·rename_i b' hb;split at h
   ·rename_i m hm;obtain rfl:=oJ_ h;obtain⟨h1,h2⟩:=vZ hm;refine⟨by grind,fun i a a' ha cM=>?_⟩;cases i with
    |zero=>simp at ha cM;subst ha cM;exact hb
    |succ i=>simp at ha cM;exact h2 i a a' ha cM
   ·grind
  ·grind
section
variable {S:ae}
theorem sL:∀ {m:Nat}{a a':AV},iz S m a=some a'->aR S a a'/\Pure a'
 |0,a,a',h=>by cases h
 |m+1,a,a',h=>by
  have Ci:∀ {l l':List AV},l4 (iz S m) l=some l'->∀ b ∈ l',Pure b:=fun {l l'} hl b hb=>by
   obtain⟨h1,h2⟩:=AU hl;obtain⟨i,hi⟩:=List.getElem?_of_mem hb;have aA:i < l.length:=by grind
   exact (sL (h2 i _ b (List.getElem?_eq_getElem aA) hi)).2
  have v7:∀ {l l':List AV},l4 (iz S m) l=some l'->l.length=l'.length/\∀ (i:Nat) (a a':AV),l[i]?=some a->l'[i]?=some a'->aR S a a':=fun hl=>⟨(AU hl).1,fun i a a' h1 h2=>(sL ((AU hl).2 i a a' h1 h2)).1⟩;have SM:∀ {l l':List (List AV)},tL (iz S m) l=some l'->∀ r ∈ l',∀ b ∈ r,Pure b:=fun {l l'} hl r hr=>by
   obtain⟨h1,h2⟩:=vZ hl;obtain⟨i,hi⟩:=List.getElem?_of_mem hr;have aA:i < l.length:=by grind
   exact Ci (h2 i _ r (List.getElem?_eq_getElem aA) hi)
  have atR:∀ {l l':List (List AV)},tL (iz S m) l=some l'->l.length=l'.length/\(∀ (i:Nat) (r r':List AV),l[i]?=some r->l'[i]?=some r'->r.length=r'.length) /\
    ∀ (i j:Nat) (r r':List AV) (a a':AV),l[i]?=some r->l'[i]?=some r'->r[j]?=some a->r'[j]?=some a'->aR S a a':=fun hl =>
   ⟨(vZ hl).1,fun i r r' h1 h2=>(v7 ((vZ hl).2 i r r' h1 h2)).1,fun i j r r' a a' h1 h2 h3 h4=>(v7 ((vZ hl).2 i r r' h1 h2)).2 j a a' h3 h4⟩
  cases a with
  |v x=>obtain rfl:=oJ_ h;exact⟨.refl _,.v⟩
  |agg l =>
   simp only[iz] at h;split at h
   ·rename_i l' hl;obtain rfl:=oJ_ h;exact⟨.agg (v7 hl).1 (v7 hl).2,.agg (Ci hl)⟩
   ·grind
  |aG l =>
   simp only[iz] at h;split at h
   ·rename_i l' hl;obtain rfl:=oJ_ h;exact⟨.aG (v7 hl).1 (v7 hl).2,.aG (Ci hl)⟩
   ·grind
  |ip l =>
   simp only[iz] at h;split at h
   ·rename_i l' hl;obtain rfl:=oJ_ h;exact⟨.ip (Nat.le_of_eq (v7 hl).1.symm) (v7 hl).2,.ip (Ci hl)⟩
   ·grind
  |sl ex rows =>
   simp only[iz] at h;split at h
   ·rename_i l' hl;obtain rfl:=oJ_ h;exact⟨.sl (atR hl).1 (atR hl).2.1 (atR hl).2.2,.sl (SM hl)⟩
   ·grind
  |fn f l c =>
   simp only[iz] at h;split at h
   ·rename_i l' c' hl hc;obtain rfl:=oJ_ h;exact⟨.fn (v7 hl).1 (v7 hc).1 (v7 hl).2 (v7 hc).2,.fn (Ci hl) (Ci hc)⟩
   ·grind
  |ob k sz off len cx =>
   simp only[iz] at h;split at h
   ·rename_i sz' rows fz ex hk;split at h
    ·rename_i hb;simp only[Bool.and_eq_true] at hb;have e:=Nat.eq_of_beq_eq_true hb.1;have e2:=Nat.le_of_ble_eq_true hb.2;subst e;split at h
     ·rename_i l' hl;obtain rfl:=oJ_ h;obtain⟨q1,q2,q3⟩:=atR hl;have hlen:l'.length=len:=by grind
      have get:∀ (i:Nat) (row bw:List AV),rows[off+i]?=some row->l'[i]?=some bw->((rows.drop off).take len)[i]?=some row:=fun i row bw h1 h2=>by grind
      exact⟨.ob hk e2 hlen (fun i row bw h1 h2=>q2 i row bw (get i row bw h1 h2) h2) (fun i j row bw a a' h1 h2 h3 h4=>q3 i j row bw a a' (get i row bw h1 h2) h2 h3 h4),.sl (SM hl)⟩
     ·grind
    ·grind
   ·grind
  |gr k sz len =>
   simp only[iz] at h;split at h
   ·rename_i sz' rows fz ex hk;split at h
    ·rename_i hb;simp only[Bool.and_eq_true] at hb;have e:=Nat.eq_of_beq_eq_true hb.1;have e2:=Nat.le_of_ble_eq_true hb.2;subst e;split at h
     ·rename_i l' hl;obtain rfl:=oJ_ h;obtain⟨q1,q2,q3⟩:=atR hl;have hlen:l'.length=len:=by grind
      have get:∀ (i:Nat) (row bw:List AV),rows[i]?=some row->l'[i]?=some bw->(rows.take len)[i]?=some row:=fun i row bw h1 h2=>by grind
      exact⟨.gr hk e2 hlen (fun i row bw h1 h2=>q2 i row bw (get i row bw h1 h2) h2) (fun i j row bw a a' h1 h2 h3 h4=>q3 i j row bw a a' (get i row bw h1 h2) h2 h3 h4),.sl (SM hl)⟩
     ·grind
    ·grind
   ·grind
  |pt k sz i j =>
   simp only[iz] at h;split at h
   ·rename_i sz' rows fz ex hk;split at h
    ·rename_i hb;have e:=Nat.eq_of_beq_eq_true hb;subst e;split at h
     ·rename_i row hi;split at h
      ·rename_i hj;have hj:=Nat.le_of_ble_eq_true hj;split at h
       ·rename_i l' hl;obtain rfl:=oJ_ h;obtain⟨q1,q2⟩:=v7 hl;simp at q1;exact⟨.pt hk hi (by omega) (fun q a a' h1 h2=>q2 q a a' (by grind) h2),.ip (Ci hl)⟩
       ·grind
      ·grind
     ·grind
    ·grind
   ·grind
  |_=>cases h
theorem aR.mono {S T:ae}(h:∀ k sz rows fz ex,S.get k=some (.arr sz rows fz ex)->T.get k=some (.arr sz rows fz ex)) {a a':AV}(hf:aR S a a'):aR T a a':=by
 induction hf with
 |refl a=>exact .refl a
 |agg hl h ih=>exact .agg hl ih
 |aG hl h ih=>exact .aG hl ih
 |ob hk h1 h2 h3 h4 ih=>exact .ob (h _ _ _ _ _ hk) h1 h2 h3 ih
 |pt hk h1 h2 h3 ih=>exact .pt (h _ _ _ _ _ hk) h1 h2 ih
 |fn h1 h2 h3 h4 i1 i2=>exact .fn h1 h2 i1 i2
 |sl h1 h2 h3 ih=>exact .sl h1 h2 ih
 |ip h1 h2 ih=>exact .ip h1 ih
 |gr hk h1 h2 h3 h4 ih=>exact .gr (h _ _ _ _ _ hk) h1 h2 h3 ih
end
end Go.Proofs.YtbpabjmnhggajaaGreat
