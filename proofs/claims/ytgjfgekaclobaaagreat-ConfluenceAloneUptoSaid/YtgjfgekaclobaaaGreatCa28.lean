import Derived.Laws.CopyRow
import Derived.Laws.Cover3
import Derived.RecoverIn
import Derived.TacticsIn
import Derived.TacticsInMore
import Derived.Test.YtgjfgekaclobaaaGreatCa27
namespace Go.Proofs.YtgjfgekaclobaaaGreat
set_option linter.unusedVariables false
set_option linter.unusedSimpArgs false
open Go.RowKit
section
set_option maxRecDepth 100000
attribute [local irreducible] ah aK ae aa
def Im.ok (x:Im):Prop:=t_ x.a/\x.n.size<=1099511627776
end
section
set_option maxRecDepth 100000
attribute [local irreducible] ah aK ae aa
def Bd.ok (x:Bd):Prop:=x.t.ok/\dG x.t<=1099511627776
end
section
set_option maxRecDepth 100000
attribute [local irreducible] ah aK ae aa
section
variable {w0:World}{ρ:Hd}
def F3 (ρ:Hd) (acc:List Int):Ob:=.arr 1 (ρ.h (List.map cM) acc) 0 false
theorem ON {s:List Int}:∀ row ∈ ρ.h (List.map cM) s,∀ a ∈ row,Pure a:=by
 rw [ρ.eq]
 intro row hr a ha
 obtain⟨x,_,rfl⟩:=List.mem_map.1 hr
 obtain rfl:=List.mem_singleton.1 ha
 exact .v
end
end
section
set_option maxRecDepth 100000
attribute [local irreducible] ah aK ae aa
def UI:CF Tryz.f133:=⟨_,by conv=>lhs;cbv⟩
theorem adN:aT Tryz.prog 133 UI.1 Tryz.f133.ntmps:=bX Tryz.func133 UI.2 Tryz.call133
def Ka:List Nat:=[0,5,1]
def Kb (e:Int):Value:=.iface 245 (.agg #[.int .i64 e])
def mM (e:Int):List PanicEntry:=[{ v:=Kb e,recovered:=false }]
section
variable {w0:World}{ρ:Hd}
theorem aai (b:Bool) (e:Int):EU Tryz.prog w0 133 [.v (.bool b),iv e] b (.aE []) (mM e):=by
 refine aT.Ud adN (by simp [Tryz.ntmps133]) (.aE fun a ha=>by cases ha) ?_
 cases b
 ·refine gq Ka ?_
  refine aa.op rfl (ae.CG rfl (by kernel_rfl)) ?_
  refine gq Ka ?_
  refine aa.wB rfl (rD.wB rfl) ?_
  refine gq Ka ?_
  exact aa.ZX rfl ⟨rfl,rfl⟩
 ·refine gq Ka ?_
  exact aa.xc rfl (by conv=>lhs;cbv) ⟨rfl,bp.of_eq rfl⟩
end
end
section
variable {P:Program}{w0:World}{α:AA}{S:ad}
theorem Rh {v:Value}(h:lift v=.sl true []):v=.slice none 0 0:=by
 have h1:∀ v,bJ v=.sl true []->v=.slice none 0 0:=by
  intro v h
  unfold bJ at h
  split at h
  ·rfl
  ·cases h
 cases v with
 |agg cs=>cases h
 |_=>exact h1 _ h
theorem aaj {u:Operand}(h:.c (.sl true [])=qo u):u=.const (.slice none 0 0):=by
 cases u with
 |const v =>
  injection h with h
  rw [Rh h.symm]
 |_=>cases h
theorem IX {o:Op}{op:BinOp}{x:QO}(h:res P.toTables o=some (.bin op .s x (.c (.sl true [])))):∃ t u s e,o=.binOp op t u (.const (.slice none 0 0)) s/\x=qo u/\P.underlying t=some (.slice e):=by
 cases o with
 |binOp YX t u v s =>
  simp only [res,bF] at h
  split at h
  ·cases h
  ·rename_i e hu
   simp only [oI_,dp.bin.injEq] at h
   obtain⟨rfl,_,rfl,h4⟩:=h
   rw [aaj h4.symm]
   exact⟨_,_,_,_,rfl,rfl,hu⟩
  ·cases h
  ·cases h
  ·split at h<;>cases h
  ·cases h
 |_ =>
  simp only [res] at h
  repeat' split at h
  all_goals cases h
def xv:AV->Option Bool
 |.sl _ (_::_)=>some false
 |.ob ..=>some false
 |.gr _ _ (_+1)=>some false
 |.v (.slice A _ _)=>some A.isNone
 |_=>none
theorem Ri {g:Gh}{w:World}{a:AV}{x:Value}{b:Bool}(h:xv a=some b) (hr:aH g w a x):∃ A l c,x=.slice A l c/\A.isNone=b:=by
 unfold xv at h
 split at h
 ·cases hr with
  |sl=>obtain rfl:=oJ_ h;exact⟨_,_,_,rfl,rfl⟩
 ·cases hr with
  |ob=>obtain rfl:=oJ_ h;exact⟨_,_,_,rfl,rfl⟩
 ·cases hr with
  |gr=>obtain rfl:=oJ_ h;exact⟨_,_,_,rfl,rfl⟩
 ·cases hr with
  |v=>obtain rfl:=oJ_ h;exact⟨_,_,_,rfl,rfl⟩
 ·cases h
def CN (op:BinOp) (b:Bool):Option Bool:=match op with
 |.eql=>some b
 |.neq=>some (!b)
 |_=>none
theorem IY {op:BinOp}{x:QO}{b d:Bool}{n:Nat}{o:Oper}(hr:res P.toTables o.op=some (.bin op .s x (.c (.sl true [])))) (β:AA) (hx:xv (x.ev β.tm)=some b) (hd:CN op b=some d):ef P w0 n o β S (.v (.bool d)) S:=by
 obtain⟨t,u,s,e,ho,rfl,hu⟩:=IX hr
 rw [aJ] at hx
 refine aS.ops (aS.quiet fun A g c w hS hA=>⟨.bool d,?_,.v⟩) fun c e=>by rw [ho] at e;cases e
 obtain⟨B,l,cc,h1,rfl⟩:=Ri hx (hA.ev u)
 have h2:c.eval (.const (.slice none 0 0))=.slice none 0 0:=rfl
 cases op<;>cases hd
 ·simp [execOp,ho,h1,eqGuard,h2,binOp,run_equal_slice_nil w t e B l cc hu]
 ·simp [execOp,ho,h1,eqGuard,h2,binOp,run_equal_slice_nil w t e B l cc hu]
theorem ae.nil {dr:Bool}{op:BinOp}{x:QO}{b d:Bool}(hx:xv (x.ev α.tm)=some b) (hd:CN op b=some d):ae P w0 dr (.bin op .s x (.c (.sl true []))) α S (.v (.bool d)) S:=by
 cases dr with
 |false=>exact fun n o hr=>IY hr α hx hd
 |true =>
  intro n o hr
  obtain⟨t,u,s,e,ho,hu,_⟩:=IX hr
  have key:∀ z ∈ o.op.operands,(α.only (cB o)).ev z=α.ev z:=fun z hz=>ew fun t e=>ee (by rw [<-e];exact hz)
  have h1:(α.only (cB o)).ev u=α.ev u:=key u (by rw [ho];simp [Op.operands])
  have h3:∀ T,ef P w0 n o (α.only (cB o)) T (.v (.bool d)) T:=fun T=>IY hr _ (by rw [hu,aJ,h1,<-aJ,<-hu];exact hx) hd
  exact⟨h3 S,fun _=>⟨rfl,h3⟩,fun _=>rfl⟩
theorem OO {v:Value}(h:lift v=.v (.pointer none)):v=.pointer none:=by
 have h1:∀ v,bJ v=.v (.pointer none)->v=.pointer none:=by
  intro v h
  unfold bJ at h
  split at h
  ·cases h
  ·injection h
 cases v with
 |agg cs=>cases h
 |_=>exact h1 _ h
theorem X_ {u:Operand}(h:.c (.v (.pointer none))=qo u):u=.const (.pointer none):=by
 cases u with
 |const v =>
  injection h with h
  rw [OO h.symm]
 |_=>cases h
theorem F4 {o:Op}{op:BinOp}{x:QO}(h:res P.toTables o=some (.bin op .p x (.c (.v (.pointer none))))):∃ t u s a,o=.binOp op t u (.const (.pointer none)) s/\x=qo u/\P.underlying t=some (.pointer a):=by
 cases o with
 |binOp YX t u v s =>
  simp only [res,bF] at h
  split at h
  ·cases h
  ·cases h
  ·cases h
  ·rename_i a hu
   simp only [oI_,dp.bin.injEq] at h
   obtain⟨rfl,_,rfl,h4⟩:=h
   rw [X_ h4.symm]
   exact⟨_,_,_,_,rfl,rfl,hu⟩
  ·split at h<;>cases h
  ·cases h
 |_ =>
  simp only [res] at h
  repeat' split at h
  all_goals cases h
def F5:AV->Option Bool
 |.pt ..=>some false
 |.ip ..=>some false
 |.v (.pointer A)=>some A.isNone
 |_=>none
theorem Rj {g:Gh}{w:World}{a:AV}{x:Value}{b:Bool}(h:F5 a=some b) (hr:aH g w a x):∃ A,x=.pointer A/\A.isNone=b:=by
 unfold F5 at h
 split at h
 ·cases hr with
  |pt=>obtain rfl:=oJ_ h;exact⟨_,rfl,rfl⟩
 ·cases hr with
  |ip=>obtain rfl:=oJ_ h;exact⟨_,rfl,rfl⟩
 ·cases hr with
  |v=>obtain rfl:=oJ_ h;exact⟨_,rfl,rfl⟩
 ·cases h
theorem wh (w:World) (d:Nat) {t:TypeId}{a}(h:P.underlying t=some (.pointer a)) (A:Option Addr):(Op.equalIn (d+1) t (.pointer A) (.pointer none)).run P w=.ok A.isNone w:=by
 cases A<;>simp [Op.equalIn,run_underlying h]
theorem zf (w:World) {t:TypeId}{a}(h:P.underlying t=some (.pointer a)) (A:Option Addr):(Op.equal t (.pointer A) (.pointer none)).run P w=.ok A.isNone w:=wh w 9999 h A
theorem F6 {op:BinOp}{x:QO}{b d:Bool}{n:Nat}{o:Oper}(hr:res P.toTables o.op=some (.bin op .p x (.c (.v (.pointer none))))) (β:AA) (hx:F5 (x.ev β.tm)=some b) (hd:CN op b=some d):ef P w0 n o β S (.v (.bool d)) S:=by
 obtain⟨t,u,s,e1,ho,rfl,hu⟩:=F4 hr
 rw [aJ] at hx
 refine aS.ops (aS.quiet fun A g c w hS hA=>⟨.bool d,?_,.v⟩) fun c e=>by rw [ho] at e;cases e
 have h2:c.eval (.const (.pointer none))=.pointer none:=rfl
 obtain⟨B,h1,rfl⟩:=Rj hx (hA.ev u)
 have hq:=zf w hu B
 cases op<;>cases hd<;>simp [execOp,ho,h1,eqGuard,h2,binOp,hq]
theorem ae.ajU {dr:Bool}{op:BinOp}{x:QO}{b d:Bool}(hx:F5 (x.ev α.tm)=some b) (hd:CN op b=some d):ae P w0 dr (.bin op .p x (.c (.v (.pointer none)))) α S (.v (.bool d)) S:=by
 cases dr with
 |false=>exact fun n o hr=>F6 hr α hx hd
 |true =>
  intro n o hr
  obtain⟨t,u,s,_,ho,hu,_⟩:=F4 hr
  have key:∀ z ∈ o.op.operands,(α.only (cB o)).ev z=α.ev z:=fun z hz=>ew fun t e=>ee (by rw [<-e];exact hz)
  have h1:(α.only (cB o)).ev u=α.ev u:=key u (by rw [ho];simp [Op.operands])
  have h3:∀ T,ef P w0 n o (α.only (cB o)) T (.v (.bool d)) T:=fun T=>F6 hr _ (by rw [hu,aJ,h1,<-aJ,<-hu];exact hx) hd
  exact⟨h3 S,fun _=>⟨rfl,h3⟩,fun _=>rfl⟩
end
inductive Tr (α:Type) where
 |nil
 |nd (l:Tr α) (v:Option α) (r:Tr α)
def ft {α:Type}:Tr α->Nat->Option α
 |.nil,_=>none
 |.nd l v r,k=>match Nat.beq k 0 with
  |true=>v
  |false=>match Nat.beq (k % 2) 1 with
   |true=>ft l (k / 2)
   |false=>ft r (k / 2 - 1)
def rX {α:Type}:Nat->Tr α->Nat->α->Tr α
 |0,t,_,_=>t
 |m+1,.nil,k,a=>match Nat.beq k 0 with
  |true=>.nd .nil (some a) .nil
  |false=>match Nat.beq (k % 2) 1 with
   |true=>.nd (rX m .nil (k / 2) a) none .nil
   |false=>.nd .nil none (rX m .nil (k / 2 - 1) a)
 |m+1,.nd l v r,k,a=>match Nat.beq k 0 with
  |true=>.nd l (some a) r
  |false=>match Nat.beq (k % 2) 1 with
   |true=>.nd (rX m l (k / 2) a) v r
   |false=>.nd l v (rX m r (k / 2 - 1) a)
theorem yR {i j:Nat}(h:Nat.beq i j=false):i ≠ j:=fun e=>by rw [e,Nat.beq_refl] at h;cases h
theorem Rk {α:Type}{a:α}:∀ {m:Nat}{t:Tr α}{k j:Nat},k < m->ft (rX m t k a) j=if j=k then some a else ft t j:=by
 have step:∀ (l:Tr α) (v:Option α) (r:Tr α) (j:Nat),ft (.nd l v r) j=if j=0 then v else if j % 2=1 then ft l (j / 2) else ft r (j / 2 - 1):=by
  intro l v r j
  simp only [ft]
  cases h0:Nat.beq j 0 with
  |true=>rw [if_pos (Nat.eq_of_beq_eq_true h0)]
  |false =>
   rw [if_neg (yR h0)]
   cases h1:Nat.beq (j % 2) 1 with
   |true=>rw [if_pos (Nat.eq_of_beq_eq_true h1)]
   |false=>rw [if_neg (yR h1)]
 have nil:∀ j,ft (Tr.nil:Tr α) j=none:=fun j=>rfl
 have adO:∀ (m:Nat) (t:Tr α) (k:Nat),∃ l v r,(∀ j,ft t j=ft (.nd l v r) j)/\rX (m+1) t k a=if k=0 then .nd l (some a) r else if k % 2=1 then .nd (rX m l (k / 2) a) v r else .nd l v (rX m r (k / 2 - 1) a):=by
  intro m t k
  have key:∀ {X Y Z:Tr α},(match Nat.beq k 0 with|true=>X|false=>match Nat.beq (k % 2) 1 with|true=>Y|false=>Z)=if k=0 then X else if k % 2=1 then Y else Z:=by
   intro X Y Z
   cases h0:Nat.beq k 0 with
   |true=>rw [if_pos (Nat.eq_of_beq_eq_true h0)]
   |false =>
    rw [if_neg (yR h0)]
    cases h1:Nat.beq (k % 2) 1 with
    |true=>rw [if_pos (Nat.eq_of_beq_eq_true h1)]
    |false=>rw [if_neg (yR h1)]
  cases t with
  |nil =>
   refine⟨.nil,none,.nil,fun j=>?_,by rw [rX,key]⟩
   rw [step,nil]
   repeat' split
   all_goals rfl
  |nd l v r=>exact⟨l,v,r,fun j=>rfl,by rw [rX,key]⟩
 intro m
 induction m with
 |zero=>intro t k j h;omega
 |succ m ih =>
  intro t k j h
  obtain⟨l,v,r,h1,h2⟩:=adO m t k
  rw [h2,h1 j]
  by_cases k0:k=0
  ·subst k0
   rw [if_pos rfl,step,step]
   by_cases j0:j=0
   ·rw [if_pos j0,if_pos j0]
   ·rw [if_neg j0,if_neg j0,if_neg j0]
  ·rw [if_neg k0]
   by_cases k1:k % 2=1
   ·rw [if_pos k1,step,step]
    by_cases j0:j=0
    ·rw [if_pos j0,if_pos j0,if_neg (by omega)]
    ·rw [if_neg j0,if_neg j0]
     by_cases j1:j % 2=1
     ·rw [if_pos j1,if_pos j1,ih (by omega)]
      by_cases e:j=k
      ·rw [if_pos e,if_pos (by omega)]
      ·rw [if_neg e,if_neg (by omega)]
     ·rw [if_neg j1,if_neg j1,if_neg (by omega)]
   ·rw [if_neg k1,step,step]
    by_cases j0:j=0
    ·rw [if_pos j0,if_pos j0,if_neg (by omega)]
    ·rw [if_neg j0,if_neg j0]
     by_cases j1:j % 2=1
     ·rw [if_pos j1,if_pos j1,if_neg (by omega)]
     ·rw [if_neg j1,if_neg j1,ih (by omega)]
      by_cases e:j=k
      ·rw [if_pos e,if_pos (by omega)]
      ·rw [if_neg e,if_neg (by omega)]
def put {α:Type}(t:Tr α) (k:Nat) (a:α):Tr α:=rX (k+1) t k a
theorem mg {α:Type}{a:α}{t:Tr α}{k j:Nat}:ft (put t k a) j=if j=k then some a else ft t j:=Rk (Nat.lt_succ_self k)
def eL (t:Tr AV):Nat->AV:=fun k=>match ft t k with|some a=>a|none=>.u
theorem vq {t:Tr AV}{d:Nat}{a:AV}:eL (put t d a)=a8 (eL t) d a:=by
 funext k
 unfold eL
 rw [mg]
 by_cases e:k=d
 ·subst e;rw [if_pos rfl,aq]
 ·rw [if_neg e,aC _ _ e]
def vt (d:Option Nat) (t:Tr AV) (a:AV):Tr AV:=match d with|some d=>put t d a|none=>t
theorem rY {d:Option Nat}{t:Tr AV}{a:AV}{l:List DE}:bS d ⟨eL t,l⟩ a=⟨eL (vt d t a),l⟩:=by
 cases d with
 |none=>rfl
 |some d=>show (⟨a8 (eL t) d a,l⟩:AA)=⟨eL (put t d a),l⟩;rw [vq]
def qS:List AV->Nat->Tr AV->Tr AV
 |[],_,t=>t
 |a::l,i,t=>qS l (i+1) (put t i a)
theorem IZ:∀ {l:List AV}{i:Nat}{t:Tr AV}{k:Nat},eL (qS l i t) k=if i<=k/\k < i+l.length then (l[k - i]?).getD .u else eL t k
 |[],i,t,k=>by rw [qS,if_neg (by simp)]
 |a::l,i,t,k=>by
  rw [qS,IZ,vq]
  by_cases h1:i+1<=k/\k < i+1+l.length
  ·rw [if_pos h1,if_pos (by simp;omega),show k - i=(k - (i+1))+1 by omega]
   rfl
  ·rw [if_neg h1]
   by_cases e:k=i
   ·subst e
    rw [aq,if_pos (by simp),Nat.sub_self]
    rfl
   ·rw [aC _ _ e,if_neg (by simp at h1 ⊢;omega)]
theorem Rm {args:List AV}:eL (qS args 0 .nil)=j_ args:=by
 funext k
 rw [IZ]
 by_cases h:0<=k/\k < 0+args.length
 ·rw [if_pos h];rfl
 ·rw [if_neg h]
  unfold j_
  rw [List.getElem?_eq_none (by omega)]
  rfl
def yS (t:Tr AV):List (Nat × AV)->Tr AV
 |[]=>t
 |p::l=>yS (put t p.1 p.2) l
theorem D2:∀ {l:List (Nat × AV)}{t:Tr AV},eL (yS t l)=sE (eL t) l
 |[],t=>rfl
 |p::l,t=>by rw [yS,D2,vq];rfl
def toLk {α:Type}:Tr α->List (Nat × α)
 |.nil=>[]
 |.nd l v r=>(match v with|some a=>[(0,a)]|none=>[])++((toLk l).map (fun p=>(2*p.1+1,p.2))++(toLk r).map (fun p=>(2*p.1+2,p.2)))
theorem I0 {α:Type}(l:Tr α) (v:Option α) (r:Tr α) (j:Nat):ft (.nd l v r) j=if j=0 then v else if j % 2=1 then ft l (j / 2) else ft r (j / 2 - 1):=by
 simp only [ft]
 cases h0:Nat.beq j 0 with
 |true=>rw [if_pos (Nat.eq_of_beq_eq_true h0)]
 |false =>
  rw [if_neg (yR h0)]
  cases h1:Nat.beq (j % 2) 1 with
  |true=>rw [if_pos (Nat.eq_of_beq_eq_true h1)]
  |false=>rw [if_neg (yR h1)]
theorem toLk_mem {α:Type}:∀ {t:Tr α}{k:Nat}{a:α},(k,a) ∈ toLk t ↔ ft t k=some a
 |.nil,k,a=>by simp [toLk,ft]
 |.nd l v r,k,a=>by
  rw [I0]
  simp only [toLk,List.mem_append,List.mem_map]
  constructor
  ·rintro (h|⟨⟨j,b⟩,h,e⟩|⟨⟨j,b⟩,h,e⟩)
   ·cases v with
    |none=>cases h
    |some b =>
     simp only [List.mem_singleton,pI_] at h
     obtain⟨rfl,rfl⟩:=h
     rfl
   ·simp only [pI_] at e
    obtain⟨rfl,rfl⟩:=e
    rw [if_neg (by omega),if_pos (by omega),show (2*j+1) / 2=j by omega]
    exact toLk_mem.1 h
   ·simp only [pI_] at e
    obtain⟨rfl,rfl⟩:=e
    rw [if_neg (by omega),if_neg (by omega),show (2*j+2) / 2 - 1=j by omega]
    exact toLk_mem.1 h
  ·intro h
   by_cases k0:k=0
   ·rw [if_pos k0] at h
    subst k0
    rw [h]
    exact .inl (by simp)
   ·rw [if_neg k0] at h
    by_cases k1:k % 2=1
    ·rw [if_pos k1] at h
     exact .inr (.inl ⟨(k / 2,a),toLk_mem.2 h,by simp;omega⟩)
    ·rw [if_neg k1] at h
     exact .inr (.inr ⟨(k / 2 - 1,a),toLk_mem.2 h,by simp;omega⟩)
abbrev FJ:=Nat->(Nat->Nat->Prop)->(Nat->Prop)->World->Prop
structure XS where
 m:Tr (Option Ob)
 nx:Nat
 lw:Nat
 yk:Option Nat
 an:Nat
 lg:List (List AV × Bool)
def dY (o:Option Nat) (k:Nat):Bool:=match o with|some j=>Nat.beq j k|none=>false
def eM (s:XS) (k:Nat):Option Ob:=match ft s.m k with|some o=>o|none=>none
def den (J:FJ) (s:XS):ad:=⟨fun k=>match dY s.yk k with|true=>some (.fo J)|false=>eM s k,s.nx⟩
def eE (s:XS):ad:=⟨fun k=>match dY s.yk k with|true=>none|false=>eM s k,s.nx⟩
def kH (s:XS) (k:Nat) (o:Option Ob):XS:=⟨put s.m k o,s.nx,Nat.min s.lw k,s.yk,s.an,s.lg⟩
def ly (s:XS) (o:Ob):XS:=⟨put s.m s.nx (some o),s.nx+1,Nat.min s.lw s.nx,s.yk,s.an,s.lg⟩
theorem UJ {o:Option Nat}{k:Nat}(h:dY o k=true):o=some k:=by
 cases o with
 |none=>cases h
 |some j=>rw [Nat.eq_of_beq_eq_true h]
theorem dk {J:FJ}{s:XS}{k:Nat}{o:Ob}(h:(eE s).get k=some o):(den J s).get k=some o/\dY s.yk k=false:=by
 have h:(match dY s.yk k with|true=>none|false=>eM s k)=some o:=h
 show (match dY s.yk k with|true=>some (.fo J)|false=>eM s k)=some o/\_
 cases e:dY s.yk k with
 |true=>rw [e] at h;cases h
 |false=>rw [e] at h;exact⟨h,rfl⟩
theorem jk {J:FJ}{s:XS}{k:Nat}{o:Option Ob}(hk:dY s.yk k=false):den J (kH s k o)=(den J s).set k o:=by
 unfold den kH ad.set
 simp only [ad.mk.injEq,and_true]
 funext j
 unfold eM
 simp only [mg]
 by_cases e:j=k
 ·subst e;rw [hk,aq,if_pos rfl]
 ·rw [aC _ _ e,if_neg e]
theorem jl {J:FJ}{s:XS}{o:Ob}(hk:dY s.yk s.nx=false):den J (ly s o)=(den J s).new o:=by
 unfold den ly ad.new
 simp only [ad.mk.injEq,and_true]
 funext j
 unfold eM
 simp only [mg]
 by_cases e:j=s.nx
 ·subst e;rw [hk,aq,if_pos rfl]
 ·rw [aC _ _ e,if_neg e]
inductive xw (P:Program) (w0:World):FJ->List (List AV × Bool)->FJ->Prop where
 |nil (J:FJ):xw P w0 J [] J
 |cons {J J1 J':FJ}{x:List AV}{b:Bool}{l:List (List AV × Bool)}(h:∀ (T:ad) (k:Nat),T.get k=some (.fo J)->oo P w0 k x T (.v (.bool b)) (T.set k (some (.fo J1)))) (t:xw P w0 J1 l J'):xw P w0 J ((x,b)::l) J'
section
variable {P:Program}{w0:World}
theorem xw.app:∀ {l m:List (List AV × Bool)}{J J':FJ},xw P w0 J (l++m) J'->∃ J1,xw P w0 J l J1/\xw P w0 J1 m J'
 |[],m,J,J',h=>⟨J,.nil J,h⟩
 |(x,b)::l,m,J,J',h=>by
  cases h with
  |cons h t =>
   obtain⟨J1,h1,h2⟩:=t.app
   exact⟨J1,.cons h h1,h2⟩
structure dZ (s s':XS):Prop where
 lw:s'.lw<=s.lw
 nx:s.nx<=s'.nx
 yk:s'.yk=s.yk
 lg:∃ L,s'.lg=L++s.lg
 aB:∀ k,k < s'.lw->eM s' k=eM s k
theorem dZ.refl (s:XS):dZ s s:=⟨Nat.le_refl _,Nat.le_refl _,rfl,⟨[],rfl⟩,fun _ _=>rfl⟩
theorem dZ.trans {s1 s2 s3:XS}(h:dZ s1 s2) (k:dZ s2 s3):dZ s1 s3:=by
 obtain⟨L,hL⟩:=h.lg
 obtain⟨M,hM⟩:=k.lg
 exact⟨Nat.le_trans k.lw h.lw,Nat.le_trans h.nx k.nx,k.yk.trans h.yk,⟨M++L,by rw [hM,hL,List.append_assoc]⟩,fun j hj=>(k.aB j hj).trans (h.aB j (Nat.lt_of_lt_of_le hj k.lw))⟩
theorem dZ.wr {s:XS}{k:Nat}{o:Option Ob}:dZ s (kH s k o):=by
 refine⟨Nat.min_le_left _ _,Nat.le_refl _,rfl,⟨[],rfl⟩,fun j hj=>?_⟩
 have:j < k:=Nat.lt_of_lt_of_le hj (Nat.min_le_right _ _)
 unfold eM kH
 simp only [mg]
 rw [if_neg (by omega)]
theorem dZ.nw {s:XS}{o:Ob}:dZ s (ly s o):=by
 refine⟨Nat.min_le_left _ _,Nat.le_succ _,rfl,⟨[],rfl⟩,fun j hj=>?_⟩
 have:j < s.nx:=Nat.lt_of_lt_of_le hj (Nat.min_le_right _ _)
 unfold eM ly
 simp only [mg]
 rw [if_neg (by omega)]
def jm (P:Program) (w0:World) (s s':XS) (J J':FJ):Prop:=∃ L,s'.lg=L++s.lg/\xw P w0 J L.reverse J'
theorem jm.same {s s':XS}{J J':FJ}(h:jm P w0 s s' J J') (e:s'.lg=s.lg):J'=J:=by
 obtain⟨L,h1,h2⟩:=h
 rw [e] at h1
 have:L=[]:=by
  have:=congrArg List.length h1
  simp at this
  exact this
 subst this
 cases h2
 rfl
theorem jm.split {s1 s2 s3:XS}{J J':FJ}(h:dZ s1 s2) (k:dZ s2 s3) (hc:jm P w0 s1 s3 J J'):∃ J1,jm P w0 s1 s2 J J1/\jm P w0 s2 s3 J1 J':=by
 obtain⟨L,hL⟩:=h.lg
 obtain⟨M,hM⟩:=k.lg
 obtain⟨X,hX,hJ⟩:=hc
 rw [hM,hL,<-List.append_assoc] at hX
 obtain rfl:=List.append_cancel_right hX
 rw [List.reverse_append] at hJ
 obtain⟨J1,h1,h2⟩:=hJ.app
 exact⟨J1,⟨L,hL,h1⟩,⟨M,hM,h2⟩⟩
end
def kP (F:AV->Option AV):List AV->Option (List AV)
 |[]=>some []
 |a::l=>match F a with
  |some a'=>match kP F l with
   |some l'=>some (a'::l')
   |none=>none
  |none=>none
def rZ (F:AV->Option AV):List (List AV)->Option (List (List AV))
 |[]=>some []
 |a::l=>match kP F a with
  |some a'=>match rZ F l with
   |some l'=>some (a'::l')
   |none=>none
  |none=>none
def g_ (S:ad):Nat->AV->Option AV
 |0,_=>none
 |m+1,a=>match a with
  |.v x=>some (.v x)
  |.agg l=>match kP (g_ S m) l with|some l'=>some (.agg l')|none=>none
  |.aE l=>match kP (g_ S m) l with|some l'=>some (.aE l')|none=>none
  |.sl _ rows=>match rZ (g_ S m) rows with|some l'=>some (.sl false l')|none=>none
  |.ip cs=>match kP (g_ S m) cs with|some l'=>some (.ip l')|none=>none
  |.fn f l c=>match kP (g_ S m) l,kP (g_ S m) c with|some l',some c'=>some (.fn f l' c')|_,_=>none
  |.ob k sz off len _=>match S.get k with
   |some (.arr sz' rows _ _)=>match Nat.beq sz' sz && Nat.ble (off+len) rows.length with
    |true=>match rZ (g_ S m) ((rows.drop off).take len) with|some l'=>some (.sl false l')|none=>none
    |false=>none
   |_=>none
  |.gr k sz len=>match S.get k with
   |some (.arr sz' rows _ _)=>match Nat.beq sz' sz && Nat.ble len rows.length with
    |true=>match rZ (g_ S m) (rows.take len) with|some l'=>some (.sl false l')|none=>none
    |false=>none
   |_=>none
  |.pt k sz i j=>match S.get k with
   |some (.arr sz' rows _ _)=>match Nat.beq sz' sz with
    |true=>match rows[i]? with
     |some row=>match Nat.ble j row.length with
      |true=>match kP (g_ S m) (row.drop j) with|some l'=>some (.ip l')|none=>none
      |false=>none
     |none=>none
    |false=>none
   |_=>none
  |_=>none
def gE (F:AV->Bool):List AV->Bool
 |[]=>true
 |a::l=>match F a with|true=>gE F l|false=>false
def r5 (F:AV->Bool):List (List AV)->Bool
 |[]=>true
 |a::l=>match gE F a with|true=>r5 F l|false=>false
def jv:Nat->AV->Bool
 |0,_=>false
 |m+1,a=>match a with
  |.v _=>true
  |.agg l|.aE l|.ip l=>gE (jv m) l
  |.sl _ rows=>r5 (jv m) rows
  |.fn _ l c=>match gE (jv m) l with|true=>gE (jv m) c|false=>false
  |_=>false
theorem dV {F:AV->Bool}:∀ {l:List AV},gE F l=true->∀ a ∈ l,F a=true
 |[],_,a,h=>by cases h
 |b::l,hp,a,h=>by
  simp only [gE] at hp
  split at hp
  ·rename_i hb
   rcases List.mem_cons.1 h with rfl|h
   ·exact hb
   ·exact dV hp a h
  ·cases hp
theorem kQ {F:AV->Bool}:∀ {l:List (List AV)},r5 F l=true->∀ r ∈ l,∀ a ∈ r,F a=true
 |[],_,a,h=>by cases h
 |b::l,hp,a,h=>by
  simp only [r5] at hp
  split at hp
  ·rename_i hb
   rcases List.mem_cons.1 h with rfl|h
   ·exact dV hb
   ·exact kQ hp a h
  ·cases hp
theorem e_:∀ {m:Nat}{a:AV},jv m a=true->Pure a
 |0,a,h=>by cases h
 |m+1,a,h=>by
  cases a with
  |v x=>exact .v
  |agg l=>exact .agg fun a ha=>e_ (dV h a ha)
  |aE l=>exact .aE fun a ha=>e_ (dV h a ha)
  |ip l=>exact .ip fun a ha=>e_ (dV h a ha)
  |sl ex rows=>exact .sl fun r hr a ha=>e_ (kQ h r hr a ha)
  |fn f l c =>
   simp only [jv] at h
   split at h
   ·rename_i h1
    exact .fn (fun a ha=>e_ (dV h1 a ha)) (fun a ha=>e_ (dV h a ha))
   ·cases h
  |_=>cases h
theorem vu {m:Nat}:∀ {l:List AV},gE (jv m) l=true->dm l
 |[],_=>trivial
 |a::l,h=>by
  simp only [gE] at h
  split at h
  ·rename_i h1
   exact⟨e_ h1,vu h⟩
  ·cases h
theorem yT {F:AV->Option AV}:∀ {l l':List AV},kP F l=some l'->l.length=l'.length/\∀ (i:Nat) (a a':AV),l[i]?=some a->l'[i]?=some a'->F a=some a'
 |[],l',h=>by obtain rfl:=oJ_ h;exact⟨rfl,fun i a a' h=>by simp at h⟩
 |b::l,l',h=>by
  simp only [kP] at h
  split at h
  ·rename_i b' hb
   split at h
   ·rename_i m hm
    obtain rfl:=oJ_ h
    obtain⟨h1,h2⟩:=yT hm
    refine⟨by simp [h1],fun i a a' ha cz=>?_⟩
    cases i with
    |zero=>simp at ha cz;subst ha cz;exact hb
    |succ i=>simp at ha cz;exact h2 i a a' ha cz
   ·cases h
  ·cases h
theorem uh {F:AV->Option AV}:∀ {l l':List (List AV)},rZ F l=some l'->l.length=l'.length/\∀ (i:Nat) (a a':List AV),l[i]?=some a->l'[i]?=some a'->kP F a=some a'
 |[],l',h=>by obtain rfl:=oJ_ h;exact⟨rfl,fun i a a' h=>by simp at h⟩
 |b::l,l',h=>by
  simp only [rZ] at h
  split at h
  ·rename_i b' hb
   split at h
   ·rename_i m hm
    obtain rfl:=oJ_ h
    obtain⟨h1,h2⟩:=uh hm
    refine⟨by simp [h1],fun i a a' ha cz=>?_⟩
    cases i with
    |zero=>simp at ha cz;subst ha cz;exact hb
    |succ i=>simp at ha cz;exact h2 i a a' ha cz
   ·cases h
  ·cases h
section
variable {S:ad}
theorem qT:∀ {m:Nat}{a a':AV},g_ S m a=some a'->bp S a a'/\Pure a'
 |0,a,a',h=>by cases h
 |m+1,a,a',h=>by
  have Ao:∀ {l l':List AV},kP (g_ S m) l=some l'->∀ b ∈ l',Pure b:=fun {l l'} hl b hb=>by
   obtain⟨h1,h2⟩:=yT hl
   obtain⟨i,hi⟩:=List.getElem?_of_mem hb
   have aA:i < l.length:=by rw [h1];exact (List.getElem?_eq_some_iff.1 hi).1
   exact (qT (h2 i _ b (List.getElem?_eq_getElem aA) hi)).2
  have ui:∀ {l l':List AV},kP (g_ S m) l=some l'->l.length=l'.length/\∀ (i:Nat) (a a':AV),l[i]?=some a->l'[i]?=some a'->bp S a a':=fun hl=>⟨(yT hl).1,fun i a a' h1 h2=>(qT ((yT hl).2 i a a' h1 h2)).1⟩
  have Ro:∀ {l l':List (List AV)},rZ (g_ S m) l=some l'->∀ r ∈ l',∀ b ∈ r,Pure b:=fun {l l'} hl r hr=>by
   obtain⟨h1,h2⟩:=uh hl
   obtain⟨i,hi⟩:=List.getElem?_of_mem hr
   have aA:i < l.length:=by rw [h1];exact (List.getElem?_eq_some_iff.1 hi).1
   exact Ao (h2 i _ r (List.getElem?_eq_getElem aA) hi)
  have atR:∀ {l l':List (List AV)},rZ (g_ S m) l=some l'->l.length=l'.length/\(∀ (i:Nat) (r r':List AV),l[i]?=some r->l'[i]?=some r'->r.length=r'.length) /\
    ∀ (i j:Nat) (r r':List AV) (a a':AV),l[i]?=some r->l'[i]?=some r'->r[j]?=some a->r'[j]?=some a'->bp S a a':=fun hl =>
   ⟨(uh hl).1,fun i r r' h1 h2=>(ui ((uh hl).2 i r r' h1 h2)).1,fun i j r r' a a' h1 h2 h3 h4=>(ui ((uh hl).2 i r r' h1 h2)).2 j a a' h3 h4⟩
  cases a with
  |v x=>obtain rfl:=oJ_ h;exact⟨.refl _,.v⟩
  |agg l =>
   simp only [g_] at h
   split at h
   ·rename_i l' hl
    obtain rfl:=oJ_ h
    exact⟨.agg (ui hl).1 (ui hl).2,.agg (Ao hl)⟩
   ·cases h
  |aE l =>
   simp only [g_] at h
   split at h
   ·rename_i l' hl
    obtain rfl:=oJ_ h
    exact⟨.aE (ui hl).1 (ui hl).2,.aE (Ao hl)⟩
   ·cases h
  |ip l =>
   simp only [g_] at h
   split at h
   ·rename_i l' hl
    obtain rfl:=oJ_ h
    exact⟨.ip (Nat.le_of_eq (ui hl).1.symm) (ui hl).2,.ip (Ao hl)⟩
   ·cases h
  |sl ex rows =>
   simp only [g_] at h
   split at h
   ·rename_i l' hl
    obtain rfl:=oJ_ h
    exact⟨.sl (atR hl).1 (atR hl).2.1 (atR hl).2.2,.sl (Ro hl)⟩
   ·cases h
  |fn f l c =>
   simp only [g_] at h
   split at h
   ·rename_i l' c' hl hc
    obtain rfl:=oJ_ h
    exact⟨.fn (ui hl).1 (ui hc).1 (ui hl).2 (ui hc).2,.fn (Ao hl) (Ao hc)⟩
   ·cases h
  |ob k sz off len cx =>
   simp only [g_] at h
   split at h
   ·rename_i sz' rows fz ex hk
    split at h
    ·rename_i hb
     simp only [Bool.and_eq_true] at hb
     have e:=Nat.eq_of_beq_eq_true hb.1
     have e2:=Nat.le_of_ble_eq_true hb.2
     subst e
     split at h
     ·rename_i l' hl
      obtain rfl:=oJ_ h
      obtain⟨q1,q2,q3⟩:=atR hl
      have hlen:l'.length=len:=by rw [<-q1];simp;omega
      have get:∀ (i:Nat) (row aV:List AV),rows[off+i]?=some row->l'[i]?=some aV->((rows.drop off).take len)[i]?=some row:=fun i row aV h1 h2=>by
       have:=(List.getElem?_eq_some_iff.1 h2).1
       rw [List.getElem?_take_of_lt (by omega),List.getElem?_drop]
       exact h1
      exact⟨.ob hk e2 hlen (fun i row aV h1 h2=>q2 i row aV (get i row aV h1 h2) h2) (fun i j row aV a a' h1 h2 h3 h4=>q3 i j row aV a a' (get i row aV h1 h2) h2 h3 h4),.sl (Ro hl)⟩
     ·cases h
    ·cases h
   ·cases h
  |gr k sz len =>
   simp only [g_] at h
   split at h
   ·rename_i sz' rows fz ex hk
    split at h
    ·rename_i hb
     simp only [Bool.and_eq_true] at hb
     have e:=Nat.eq_of_beq_eq_true hb.1
     have e2:=Nat.le_of_ble_eq_true hb.2
     subst e
     split at h
     ·rename_i l' hl
      obtain rfl:=oJ_ h
      obtain⟨q1,q2,q3⟩:=atR hl
      have hlen:l'.length=len:=by rw [<-q1];simp;omega
      have get:∀ (i:Nat) (row aV:List AV),rows[i]?=some row->l'[i]?=some aV->(rows.take len)[i]?=some row:=fun i row aV h1 h2=>by
       have:=(List.getElem?_eq_some_iff.1 h2).1
       rw [List.getElem?_take_of_lt (by omega)]
       exact h1
      exact⟨.gr hk e2 hlen (fun i row aV h1 h2=>q2 i row aV (get i row aV h1 h2) h2) (fun i j row aV a a' h1 h2 h3 h4=>q3 i j row aV a a' (get i row aV h1 h2) h2 h3 h4),.sl (Ro hl)⟩
     ·cases h
    ·cases h
   ·cases h
  |pt k sz i j =>
   simp only [g_] at h
   split at h
   ·rename_i sz' rows fz ex hk
    split at h
    ·rename_i hb
     have e:=Nat.eq_of_beq_eq_true hb
     subst e
     split at h
     ·rename_i row hi
      split at h
      ·rename_i hj
       have hj:=Nat.le_of_ble_eq_true hj
       split at h
       ·rename_i l' hl
        obtain rfl:=oJ_ h
        obtain⟨q1,q2⟩:=ui hl
        simp at q1
        exact⟨.pt hk hi (by omega) (fun q a a' h1 h2=>q2 q a a' (by rw [List.getElem?_drop];exact h1) h2),.ip (Ao hl)⟩
       ·cases h
      ·cases h
     ·cases h
    ·cases h
   ·cases h
  |_=>cases h
theorem bp.mono {S T:ad}(h:∀ k sz rows fz ex,S.get k=some (.arr sz rows fz ex)->T.get k=some (.arr sz rows fz ex)) {a a':AV}(hf:bp S a a'):bp T a a':=by
 induction hf with
 |refl a=>exact .refl a
 |agg hl h ih=>exact .agg hl ih
 |aE hl h ih=>exact .aE hl ih
 |ob hk h1 h2 h3 h4 ih=>exact .ob (h _ _ _ _ _ hk) h1 h2 h3 ih
 |pt hk h1 h2 h3 ih=>exact .pt (h _ _ _ _ _ hk) h1 h2 ih
 |fn h1 h2 h3 h4 i1 i2=>exact .fn h1 h2 i1 i2
 |sl h1 h2 h3 ih=>exact .sl h1 h2 ih
 |ip h1 h2 ih=>exact .ip h1 ih
 |gr hk h1 h2 h3 h4 ih=>exact .gr (h _ _ _ _ _ hk) h1 h2 h3 ih
end
section
variable {P:Program}{w0:World}{n:Nat}{o:Oper}{α:AA}{S S':ad}{r:AV}
theorem St.CO {A:Nat->Prop}{g:Gh}{w:World}{k sz fz p:Nat}{rows more:List (List AV)}{ex:Bool}{cs:Array Value}{ty:TypeId}{news:List Value}(hS:St w0 A g S w) (hk:S.get k=some (.arr sz rows fz ex)) (ha:g.al k) (hc:w.heap[g.ob k]?=some (.cells cs ty (0,0)))
  (hl:∀ r ∈ more,r.length=sz) (hn:news.length=more.length*sz) (hr:∀ (i:Nat) (row:List AV) (j:Nat) (a:AV),more[i]?=some row->row[j]?=some a->∃ x,news[i*sz+j]?=some x/\aH g w a x) (hp:p+more.length<=rows.length) (hf:fz<=p) :
  Ext A g w g (w.setRow (g.ob k) (cs.toList.take (p*sz)++news++cs.toList.drop (p*sz+news.length)).toArray)/\St w0 A g (S.set k (some (.arr sz (rows.take p++more++rows.drop (p+more.length)) fz ex))) (w.setRow (g.ob k) (cs.toList.take (p*sz)++news++cs.toList.drop (p*sz+news.length)).toArray):=by
 obtain⟨k2,k3,xx,nj,h1,h2,h3,h4,h5,h6,h7⟩:=hS.bR k _ hk ha
 obtain⟨rfl,rfl⟩:xx=cs/\nj=ty:=by
  rw [hc] at h1
  simp only [oI_,Obj.cells.injEq] at h1
  exact⟨h1.1.symm,h1.2.1.symm⟩
 have hm:p*sz+more.length*sz<=g.cp k*sz:=by rw [<-Nat.add_mul];exact Nat.mul_le_mul_right sz (by omega)
 have ep:p*sz+news.length<=xx.toList.length:=by
  have e:=Array.length_toList (xs:=xx)
  rw [hn,e,h2];exact hm
 obtain⟨cs',o_⟩:∃ cs',cs'=(xx.toList.take (p*sz)++news++xx.toList.drop (p*sz+news.length)).toArray:=⟨_,rfl⟩
 rw [<-o_]
 have jj:∀ q,cs'[q]?=if q < p*sz then xx[q]? else if q < p*sz+news.length then news[q - p*sz]? else xx[q]?:=by
  intro q
  rw [o_,List.getElem?_toArray,rf _ _ _ ep]
  simp only [Array.getElem?_toList]
 have yU:cs'.size=xx.size:=by
  rw [o_]
  simp at ep ⊢
  omega
 have fE:(rows.take p++more++rows.drop (p+more.length)).length=rows.length:=by simp;omega
 exact hS.row hk ha h1 (cs':=cs') (ob:=.arr sz (rows.take p++more++rows.drop (p+more.length)) fz ex) (fun J=>⟨by simp,by simp⟩) (fun q hq=>by
  have:=(h7 q).1 hq
  rw [jj,if_pos (Nat.lt_of_lt_of_le this (Nat.mul_le_mul_right sz hf))]) (fun hL=>by
  refine⟨cs',nj,setRow_heap w _ xx cs' nj (0,0) h1,yU.trans h2,by rw [fE];exact h3,fun h=>by rw [fE];exact h4 h,fun i row hi=>?_,by rw [fE];exact h6,h7⟩
  rw [rf _ _ _ hp] at hi
  split at hi
  ·rename_i c1
   refine⟨(h5 i row hi).1,fun j a cz=>?_⟩
   obtain⟨x,hx,dH⟩:=(h5 i row hi).2 j a cz
   have hj:j < sz:=by rw [<-(h5 i row hi).1];exact (List.getElem?_eq_some_iff.1 cz).1
   exact⟨x,by rw [jj,if_pos (kr c1 hj)];exact hx,dH.later hL⟩
  ·rename_i c1
   split at hi
   ·rename_i c2
    have fE:=hl row (List.mem_of_getElem? hi)
    refine⟨fE,fun j a cz=>?_⟩
    obtain⟨x,hx,dH⟩:=hr _ row j a hi cz
    have aA:=(List.getElem?_eq_some_iff.1 hx).1
    have e:i*sz=p*sz+(i - p)*sz:=by rw [<-Nat.add_mul];congr 1;omega
    exact⟨x,by rw [jj,if_neg (by omega),if_pos (by omega),show i*sz+j - p*sz=(i - p)*sz+j by omega];exact hx,dH.later hL⟩
   ·rename_i c2
    refine⟨(h5 i row hi).1,fun j a cz=>?_⟩
    obtain⟨x,hx,dH⟩:=(h5 i row hi).2 j a cz
    have e:p*sz+news.length<=i*sz:=by rw [hn,<-Nat.add_mul];exact Nat.mul_le_mul_right sz (by omega)
    exact⟨x,by rw [jj,if_neg (by omega),if_neg (by omega)];exact hx,dH.later hL⟩)
theorem mh {t e:TypeId}(h:fJ P t=some e):P.underlying t=some (.slice e):=by
 unfold fJ at h
 split at h
 ·obtain rfl:=oJ_ h;assumption
 ·cases h
theorem Ap {sz:Nat}{a b:QO}{o:Op}(h:res P.toTables o=some (.copy sz a b)):∃ c t t2 u v e e2,o=.call c/\c.callee=.builtin .copy/\c.argTypes=#[t,t2]/\c.args=#[u,v]/\a=qo u/\b=qo v/\fJ P t=some e/\fJ P t2=some e2/\cP P e=some sz:=by
 cases o<;>simp only [res,jE,dJ] at h<;>(repeat' split at h)<;>(try cases h)
 exact⟨_,_,_,_,_,_,_,rfl,by assumption,by rw [<-Array.toArray_toList (xs:=Call.argTypes _)];congr,by rw [<-Array.toArray_toList (xs:=Call.args _)];congr,rfl,rfl,by assumption,by assumption,by assumption⟩
theorem D3 (w:World) (t t2 ty e:TypeId) (i:TypeInfo) (ht:P.underlying t=some (.slice e)) (hi:P.info? e=some i) (d a:Option Addr) (dl dc c:Nat):(Builtin.copy_ #[t,t2] ty #[.slice d dl dc,.slice a 0 c]).run P w=.ok (goInt 0) w:=by
 have hl:∀ (x:Addr),(loadCells x 0).run P w=.ok #[] w:=fun x=>by simpa using run_loadCells_list (P:=P) w x [] (by simp)
 cases d<;>cases a<;>simp [Builtin.copy_,run_underlying ht,Builtin.lenOf,Builtin.firstCells,sizeOf,typeInfo,hi,storeCells,hl]
theorem OP (w:World) (t t2 ty e nj:TypeId) (i:TypeInfo) (ht:P.underlying t=some (.slice e)) (hi:P.info? e=some i) (g q dl dc:Nat) (cur:Array Value) (hg:w.heap[g]?=some (.cells cur nj (0,0)))
  (a:Addr) (m c:Nat) (news:List Value) (hl:news.length=m*i.size) (qU:∀ j u,news[j]?=some u->w.cell? (a.add j)=some u) (h1:∀ u ∈ news,u.oneCell'=true) (hle:m<=dl) (ep:q+news.length<=cur.size) :
  (Builtin.copy_ #[t,t2] ty #[.slice (some ⟨g,q,none⟩) dl dc,.slice (some a) m c]).run P w=.ok (goInt m) (w.setRow g (cur.toList.take q++news++cur.toList.drop (q+news.length)).toArray):=by
 have hf:=run_firstCells_some (P:=P) w i.size m a m c news hl qU
 have lr:=run_storeCells_at P g q nj news 0 cur w hg (by simpa using ep) h1
 simp only [Nat.add_zero] at lr
 have hn:Nat.min m dl=m:=Nat.min_eq_left hle
 simp [Builtin.copy_,run_underlying ht,sizeOf,typeInfo,hi,Builtin.lenOf,hn,hf,lr]
theorem ae.ajV {sz k sz' off len:Nat}{cx:Option Nat}{a b:QO}(hx:a.ev α.tm=.ob k sz' off len cx) (hm:dD S (b.ev α.tm)=some []):ae P w0 false (.copy sz a b) α S (.v (.int .i64 0)) S:=ae.run fun n o hr=>by
 obtain⟨c,t,t2,u,v,e,e2,ho,hc,fC,aY,rfl,rfl,ht,eX,hs⟩:=Ap hr
 rw [aJ] at hx hm
 obtain⟨hm,hlen⟩:=dx hm
 have ht:=mh ht
 obtain⟨i,hi,bh⟩:=ji hs
 intro A g q w hS hA
 have g1:=hA.ev u
 have g2:=hA.ev v
 rw [hx] at g1
 obtain⟨cc,e1,_⟩:=h_ g1
 obtain⟨B,c2,e3⟩:=oE (by simpa using hlen) hm g2
 refine⟨_,_,g,.inl ?_,.v,hS,.refl _ _ _⟩
 have bY:(execOp q.eval o).run P w=((Builtin.copy_ #[t,t2] o.type #[q.eval u,q.eval v]).run P w).andThen fun v w'=>.ok (.value v) w':=by
  simp [execOp,ho,resolve,hc,fC,aY,invoke,builtin]
 rw [bY,e1,e3,D3 w t t2 o.type e i ht hi]
 rfl
theorem ae.ajW {dr:Bool}{sz:Nat}{e1 e2:Bool}{a b:QO}(hx:a.ev α.tm=.sl e1 []) (hy:b.ev α.tm=.sl e2 []):ae P w0 dr (.copy sz a b) α S (.v (.int .i64 0)) S:=by
 have key:∀ (α:AA) (S:ad) (n:Nat) (o:Oper) (c:Call) (t t2:TypeId) (u v:Operand) (e:TypeId),o.op=.call c->c.callee=.builtin .copy->c.argTypes=#[t,t2]->c.args=#[u,v]->fJ P t=some e->cP P e=some sz->α.ev u=.sl e1 []->α.ev v=.sl e2 []->aS P w0 n o α S (.v (.int .i64 0)) S:=by
  intro α S n o c t t2 u v e ho hc fC aY ht hs hx hy
  have ht:=mh ht
  obtain⟨i,hi,bh⟩:=ji hs
  intro A g q w hS hA
  have g1:=hA.ev u
  have g2:=hA.ev v
  rw [hx] at g1
  rw [hy] at g2
  obtain⟨B1,c1,f1⟩:=oE (S:=ad.none_) rfl rfl g1
  obtain⟨B2,c2,f2⟩:=oE (S:=ad.none_) rfl rfl g2
  refine⟨_,_,g,.inl ?_,.v,hS,.refl _ _ _⟩
  have bY:(execOp q.eval o).run P w=((Builtin.copy_ #[t,t2] o.type #[q.eval u,q.eval v]).run P w).andThen fun v w'=>.ok (.value v) w':=by
   simp [execOp,ho,resolve,hc,fC,aY,invoke,builtin]
  rw [bY,f1,f2,D3 w t t2 o.type e i ht hi]
  rfl
 have go:∀ (n:Nat) (o:Oper),res P.toTables o.op=some (.copy sz a b)->ef P w0 n o (α.only (cB o)) S (.v (.int .i64 0)) S/\(∀ T,ef P w0 n o (α.only (cB o)) T (.v (.int .i64 0)) T)/\ef P w0 n o α S (.v (.int .i64 0)) S:=by
  intro n o hr
  obtain⟨c,t,t2,u,v,e,e2',ho,hc,fC,aY,rfl,rfl,ht,eX,hs⟩:=Ap hr
  rw [aJ] at hx hy
  have e:∀ z ∈ [u,v],(α.only (cB o)).ev z=α.ev z:=fun z hz=>ew fun t ht=>ee (by rw [ho];simp only [Op.operands,Call.operands,aY,<-ht];simp at hz ⊢;rcases hz with rfl|rfl<;>simp)
  have hd:∀ c,o.op ≠ .defer c:=fun c e=>by rw [ho] at e;cases e
  exact⟨(key _ _ n o c t t2 u v _ ho hc fC aY ht hs (by rw [e u (by simp)];exact hx) (by rw [e v (by simp)];exact hy)).ops hd,fun T=>(key _ _ n o c t t2 u v _ ho hc fC aY ht hs (by rw [e u (by simp)];exact hx) (by rw [e v (by simp)];exact hy)).ops hd,(key _ _ n o c t t2 u v _ ho hc fC aY ht hs hx hy).ops hd⟩
 cases dr with
 |false=>exact fun n o hr=>(go n o hr).2.2
 |true=>exact fun n o hr=>⟨(go n o hr).1,fun _=>⟨rfl,(go n o hr).2.1⟩,fun _=>rfl⟩
theorem ae.cpy {sz k off len fz:Nat}{cx:Option Nat}{a b:QO}{rows more:List (List AV)}{x:List AV}{ex:Bool}(hx:a.ev α.tm=.ob k sz off len cx) (hk:S.get k=some (.arr sz rows fz ex)) (hm:dD S (b.ev α.tm)=some (x::more)) (hle:(x::more).length<=len) (kY:off+len<=rows.length) (hf:fz<=off)
  (h3:∀ row ∈ x::more,row.length=sz/\row.all bQ=true):ae P w0 false (.copy sz a b) α S (.v (.int .i64 (x::more).length)) (S.set k (some (.arr sz (rows.take off++(x::more)++rows.drop (off+(x::more).length)) fz ex))):=ae.run fun n o hr=>by
 obtain⟨c,t,t2,u,v,e,e2,ho,hc,fC,aY,rfl,rfl,ht,eX,hs⟩:=Ap hr
 rw [aJ] at hx hm
 obtain⟨hm,hlen⟩:=dx hm
 have ht:=mh ht
 obtain⟨i,hi,bh⟩:=ji hs
 intro A g q w hS hA
 have g1:=hA.ev u
 have g2:=hA.ev v
 rw [hx] at g1
 obtain⟨cc,e1,aO,_,_,_,_⟩:=h_ g1
 obtain⟨b2,q2,c2,news,e3,Kc,ky⟩:=mN hS hm g2 (by simp) (fun r hr=>(h3 r hr).1) hlen
 obtain⟨k2,k3,cs,nj,p1,p2,p3,p4,p5,p6,p7⟩:=hS.bR k _ hk aO
 have gH:off*sz+(x::more).length*sz<=g.cp k*sz:=by rw [<-Nat.add_mul];exact Nat.mul_le_mul_right sz (by omega)
 have ep:off*sz+news.length<=cs.size:=by rw [ky.1,p2];omega
 have bY:=OP (P:=P) w t t2 o.type e nj i ht hi (g.ob k) (off*sz) len cc cs p1 ⟨b2,q2,none⟩ (x::more).length c2 news (by rw [ky.1,bh]) ky.2.1 (Aq ky h3) hle ep
 obtain⟨hE,cQ⟩:=hS.CO (p:=off) (more:=x::more) (news:=news) hk aO p1 (fun r hr=>(h3 r hr).1) ky.1 (fun i row j a hi ha=>ky.2.2 i row hi j a ha) (by omega) hf
 refine⟨_,_,g,.inl ?_,.v,cQ,hE⟩
 have hx:(execOp q.eval o).run P w=((Builtin.copy_ #[t,t2] o.type #[q.eval u,q.eval v]).run P w).andThen fun v w'=>.ok (.value v) w':=by
  simp [execOp,ho,resolve,hc,fC,aY,invoke,builtin]
 rw [hx,e1,e3,bY]
 rfl
theorem HU {t e:TypeId}{l c:Operand}{z:Value}{sz by_:Nat}{ka kb:IntKind}{a b:Int}(ho:o.op=.makeSlice t l c) (ht:P.underlying t=some (.slice e)) (hz:cU P e=some z) (hs:cP P e=some sz) (jn:gV P e=some by_)
  (lT:z.cells.size=sz) (hs0:0 < sz) (hl:α.ev l=.v (.int ka a)) (hc:α.ev c=.v (.int kb b)) (h1:0<=a) (h0:a<=b) (h2:b*by_<=35184372088832) (h3:b<=9223372036854775807) :
  aS P w0 n o α S (.ob S.nx sz 0 a.toNat none) (S.new (.arr sz (List.replicate b.toNat (z.cells.toList.map bJ)) 0 true)):=by
 intro A g q w hS hA
 obtain⟨i,hi,bh⟩:=ji hs
 have qB:i.zero=some z:=by unfold cU at hz;rw [hi] at hz;simpa using hz
 have zx:i.bytes=by_:=by unfold gV at jn;rw [hi] at jn;simpa using jn
 have fE:=hA.ev l
 have Bx:=hA.ev c
 rw [hl] at fE
 rw [hc] at Bx
 have fE:=bO fE
 have Bx:=bO Bx
 have bY:=run_make (P:=P) w t e i z ht hi qB ka kb a b h1 h0 (by rw [zx,Int.mul_comm];omega) h3
 have r6:∀ q,¬ g.fz w.heap.size q:=fun q hf=>absurd (hS.cC _ _ hf) (Nat.lt_irrefl _)
 obtain⟨hE,cQ⟩:=hS.new (.cells (madeCells z.cells (b.toNat*i.size)) e) (.arr sz (List.replicate b.toNat (z.cells.toList.map bJ)) 0 true) b.toNat (fun J=>by simp) (fun hL=>by
  refine⟨_,e,c_,?_,by simp,fun _=>by simp,fun m row hr=>?_,Nat.zero_le _,fun q=>⟨fun h=>absurd h (r6 q),fun h=>by simp at h⟩⟩
  ·rw [size_madeCells,bh]
  ·obtain⟨fA,rfl⟩:=List.getElem?_eq_some_iff.1 hr
   simp only [List.length_replicate] at fA
   simp only [List.getElem_replicate]
   refine⟨by simp [lT],fun j b' hj=>?_⟩
   simp only [List.getElem?_map,Option.map_eq_some_iff] at hj
   obtain⟨y,hy,rfl⟩:=hj
   have xy:j < sz:=by
    have:=(List.getElem?_eq_some_iff.1 hy).1
    simp at this
    omega
   refine⟨y,?_,kF y⟩
   have aA:m*sz+j < b.toNat*sz:=kr fA xy
   have eN:j < z.cells.size:=by omega
   have e1:(m*sz+j) % z.cells.size=j:=by
    rw [lT,Nat.mul_comm,Nat.mul_add_mod]
    exact Nat.mod_eq_of_lt xy
   have e2:(madeCells z.cells (b.toNat*i.size))[m*sz+j]?=some (z.cells[(m*sz+j) % z.cells.size]!):=by
    unfold madeCells
    rw [Array.getElem?_map,Array.getElem?_range,if_pos (by rw [bh];exact aA)]
    rfl
   rw [e2,e1,getElem!_pos z.cells j eN,<-hy,Array.getElem?_toList,Array.getElem?_eq_getElem eN])
 refine⟨.slice (some ⟨w.heap.size,0,none⟩) a.toNat b.toNat,_,_,.inl ?_,?_,cQ,hE⟩
 ·simp only [execOp,ho,fE,Bx,Sem.run_bind,bY]
  rfl
 ·have:=aH.ob (g:=g.new S.nx w.heap.size b.toNat) (w:=w.alloc (.cells (madeCells z.cells (b.toNat*i.size)) e)) (k:=S.nx) (sz:=sz) (off:=0) (len:=a.toNat) (c:=b.toNat) (cx:=none) (.inr rfl) (fun m h=>by cases h)
   (by rw [Nat.zero_add];exact Nat.le_of_eq (aq _ _ _).symm) (fun _=>by rw [Nat.zero_add];exact (aq _ _ _).symm) (by omega)
  rw [show (g.new S.nx w.heap.size b.toNat).ob S.nx=w.heap.size from aq _ _ _,Nat.zero_mul] at this
  exact this
theorem ae.aal {z:List AV}{by_:Nat}{l c:QO}{k k':IntKind}{a b:Int}(h1:l.ev α.tm=.v (.int k a)) (h2:c.ev α.tm=.v (.int k' b)) (h3:0<=a) (h4:a<=b) (h5:b*by_<=35184372088832) (h6:b<=9223372036854775807) :
  ae P w0 false (.im z by_ l c) α S (.ob S.nx z.length 0 a.toNat none) (S.new (.arr z.length (List.replicate b.toNat z) 0 true)):=ae.run fun n o hr=>by
 obtain⟨t,u,v,e,zv,sz,ho,rfl,rfl,e1,e2,e3,e4,rfl,e5,e6⟩:=Ip hr
 have hz:(zv.cells.toList.map bJ).length=sz:=by rw [<-Nat.eq_of_beq_eq_true e5];simp
 rw [aJ] at h1 h2
 rw [hz]
 exact HU ho (mh e1) e2 e3 e4 (Nat.eq_of_beq_eq_true e5) (Nat.le_of_ble_eq_true e6) h1 h2 h3 h4 h5 h6
theorem ae.aam {sz by_ k fz len:Nat}{ex:Bool}{a b:QO}{rows more:List (List AV)}{x:List AV}(h1:a.ev α.tm=.ob k sz 0 len none) (hk:S.get k=some (.arr sz rows fz ex)) (hm:dD S (b.ev α.tm)=some (x::more)) (h0:fz<=len) (h2:len+(x::more).length<=rows.length)
  (h3:∀ row ∈ x::more,row.length=sz/\row.all bQ=true) :
  ae P w0 false (.append sz by_ a b) α S (.ob k sz 0 (len+(x::more).length) none) (S.set k (some (.arr sz (rows.take len++(x::more)++rows.drop (len+(x::more).length)) fz ex))):=ae.run fun n o hr=>by
 obtain⟨c,t,t2,u,v,e,e2,z,ho,hc,fC,aY,rfl,rfl,ht,eX,hz,hs,jn,lT,hbl⟩:=lC hr
 rw [aJ] at h1 hm
 obtain⟨hm,hlen⟩:=dx hm
 have fC:c.argTypes=#[t,t2]:=by rw [<-Array.toArray_toList (xs:=c.argTypes),fC]
 have aY:c.args=#[u,v]:=by rw [<-Array.toArray_toList (xs:=c.args),aY]
 have ht:=mh ht
 have eX:=mh eX
 intro A g q w hS hA
 have g1:=hA.ev u
 have g2:=hA.ev v
 rw [h1] at g1
 obtain⟨cc,e1,aO,jw,eS,hcn,hle⟩:=h_ g1
 obtain⟨b2,q2,c2,news,e3,Kc,ky⟩:=mN hS hm g2 (by simp) (fun r hr=>(h3 r hr).1) hlen
 obtain⟨k2,k3,cs,nj,p1,p2,p3,p4,p5,p6,p7⟩:=hS.bR k _ hk aO
 obtain⟨i,hi,bh⟩:=ji hs
 have Zq:=hcn rfl
 have j8:len+(x::more).length<=cc:=by omega
 have gH:len*sz+(x::more).length*sz<=g.cp k*sz:=by rw [<-Nat.add_mul];exact Nat.mul_le_mul_right sz (by omega)
 have ep:0+len*i.size+news.length<=cs.size:=by rw [ky.1,p2,bh];omega
 have bY:=r7 (P:=P) w t o.type e nj i ht hi (g.ob k) 0 len cc cs p1 ⟨b2,q2,none⟩ (x::more).length c2 news (by rw [ky.1,bh]) ky.2.1 (Aq ky h3) j8 ep
 simp only [Nat.zero_add,bh] at bY ep
 obtain⟨hE,cQ⟩:=hS.CO (p:=len) (more:=x::more) (news:=news) hk aO p1 (fun r hr=>(h3 r hr).1) ky.1 (fun i row j a hi ha=>ky.2.2 i row hi j a ha) h2 h0
 refine⟨.slice (some ⟨g.ob k,0,none⟩) (len+(x::more).length) cc,_,g,.inl ?_,?_,cQ,hE⟩
 ·have hx:(execOp q.eval o).run P w=((Builtin.append_ #[t,t2] o.type #[q.eval u,q.eval v]).run P w).andThen fun v w'=>.ok (.value v) w':=by
   simp [execOp,ho,resolve,hc,fC,aY,invoke,builtin]
  rw [hx,e1,e3,oF ht eX,Nat.zero_mul,bY]
  rfl
 ·have:=aH.ob (g:=g) (w:=w.setRow (g.ob k) (cs.toList.take (len*sz)++news++cs.toList.drop (len*sz+news.length)).toArray) (k:=k) (sz:=sz) (off:=0) (len:=len+(x::more).length) (c:=cc) (cx:=none) aO (fun m h=>by cases h) eS hcn j8
  rw [Nat.zero_mul] at this
  exact this
end
end Go.Proofs.YtgjfgekaclobaaaGreat
