import Derived.Test.YtbpabjmnhggajaaGreatOr17
namespace Go.Proofs.YtbpabjmnhggajaaGreat
set_option linter.all false
open Go.RowKit
variable {R:AV->af->Prop}{f g:FuncId}{v:Int}{s:Int->Tm}{E:List (Tm × Tm)}{args fN:List AV}{l:List Int}{aZ9:List QO}{qs:List QR}{i j x:Nat}{t:Tm}{Jy:Tm->Bool}
section
set_option maxRecDepth 100000
attribute [local irreducible] ah aG ae ad
theorem Jp:∀{l:List Tm},∀x ∈ l,cY x<=bw l
 |[],x,h=>by grind
 |y::l,x,h=>by
  rw[bw];rcases ad_.1 h with rfl|h
  ·omega
  ·have:=Jp x h;omega
def nC (l:List Tm):Prop:=dG l/\bw l<=1099511627776
theorem nC.len {l:List Tm}(h:nC l):l.length<=1099511627776:=ay_ (vZ l) h.2
def fH (x:At):Bool:=mC x.n && decide (x.a.length<=6) && mw x.a
def arity (o:Int):Int:=if o=1\/o=2 then 0 else if o=11\/o=12 then 1 else if o > 2/\o < 11 then 2 else -1
def dE (x:Gl):Bool:=if x.op=0 then fH ⟨x.n,x.a⟩ else x.n.toList == (⟨#[]⟩:ByteArray).toList && decide (arity x.op=x.a.length) && mw x.a
section
variable {w0:World}{ρ:Hd}
theorem Fz (x:Tm) (b:x.ok) (a:cY x<=1099511627776):ah Tryz.prog w0 94 [tm ρ x] (.v (.bool (cd x))):=by
 refine st amz T9 .v ?_
 repeat' (first
  |refine bg T9 (pl (adX (ρ:=ρ) x b)) (λ_=>?_) λ_=>?_
  |refine ig T9 (pl (IC (ρ:=ρ) _ x (ac_ _) a)) λ_ _=>?_
  |refine ig T9 (pl (W4 (ρ:=ρ) _ x (ac_ _) a)) λ_ _=>?_
  |refine cg T9 (λc=>?_) λc=>?_
  |(refine fq ?_))
 all_goals (refine bY ?_;subst_vars;clear a b;simp_all[cd]<;>(intros;omega))
theorem EN (a:List Tm) (g:nC a):ah Tryz.prog w0 97 [tl ρ a] (.v (.bool (mw a))):=by
 have v:=g.len;obtain⟨o,w⟩:=g;refine st amA zA .v ?_
 refine ad.aK (σ:=Int × Int) 0 0 [] (λp=>[(0,tl ρ a),(3,.v (.int .i64 p.2)),(4,.v (.int .i64 p.1))]) [] (λ_=>[])
  (λp=>∃k:Nat,p.1=k/\k<=a.length/\0<=p.2/\p.2+bw (a.drop k)=bw a/\a.all cd=(a.drop k).all cd) (λp=>a.length - p.1.toNat) (0,0) ⟨0,rfl,by simp,by simp,by simp,by simp⟩ rfl cq ?_
 rintro⟨i,c⟩ ⟨k,h,x,r,b,d⟩;simp only at h r b;refine gq zA ?_;by_cases s:k < a.length
 ·obtain⟨y,e,j⟩:=aD s;rw[j,bw]at b;rw[j,aY_]at d;have n:=Jp y (bM e);have t:=Fz (w0:=w0) (ρ:=ρ) y (o.mem y (bM e)) (by omega);have u:=IC (w0:=w0) (ρ:=ρ) _ y (ac_ _) (by omega)
  repeat' (first
   |refine og zA (ae.ind rfl rfl (cC (l:=a) h e) cD) ?_
   |refine bg zA (pl t) (λ_=>?_) λ_=>?_
   |refine ig zA (pl u) λ_ _=>?_
   |refine cg zA (λf=>?_) λf=>?_
   |refine lg zA λm n=>?_
   |refine ag zA λ_ _=>?_
   |refine ad.ao ?_;refine gq zA ?_
   |refine ad.bh ?_;refine gq zA ?_
   |(refine fq ?_))
  all_goals first
   |(refine ad.az (σ:=Int × Int) (_,_) [] ?_ ?_ cq
     ·grind
     ·simp only;omega)
   |refine bY ?_;rw[mw,d];simp_all;done
 ·skip
  repeat' (first
   |refine cg zA (λf=>?_) λf=>?_
   |refine lg zA λm n=>?_
   |refine ad.ao ?_;refine gq zA ?_
   |(refine fq ?_))
  all_goals first
   |exfalso;omega
   |(rw[ak_ (by omega)]at b d
     rw[bw]at b;refine bY ?_;rw[mw,d];simp;omega)
theorem FA (x:At) (b:nC x.a) (c:x.n.size<=1099511627776):ah Tryz.prog w0 55 [at_ ρ x] (.v (.bool (fH x))):=by
 obtain⟨n,a⟩:=x;dsimp only at b c;have d:decide (a.length<=6)=decide ((a.length:Int)<=6):=decide_eq_decide.2 (by omega);rw[fH,d];refine st amB T_ .v ?_
 repeat' (first
  |refine bg T_ (pl (AQ _ c)) (λ_=>?_) λ_=>?_
  |refine bg T_ (pl (EN _ b)) (λ_=>?_) λ_=>?_
  |refine cg T_ (λe=>?_) λe=>?_
  |refine lg T_ λm f=>?_
  |(refine fq ?_))
 all_goals (refine bY ?_;subst_vars;simp_all<;>(intros;omega))
theorem adY (o:Int):ah Tryz.prog w0 98 [iv o] (iv (arity o)):=abw o
theorem AS (x:Gl) (b:nC x.a) (c:x.n.size<=1099511627776):ah Tryz.prog w0 57 [gl ρ x] (.v (.bool (dE x))):=by
 obtain⟨o,n,a⟩:=x;dsimp only at b c;rw[dE];refine st amC PW .v ?_
 repeat' (first
  |refine bg PW (pl (FA (ρ:=ρ) ⟨n,a⟩ b c)) (λ_=>?_) λ_=>?_
  |refine bg PW (pl (EN _ b)) (λ_=>?_) λ_=>?_
  |refine ig PW (pl (adY _)) λ_ _=>?_
  |refine cg PW (λd=>?_) λd=>?_
  |refine lg PW λm e=>?_
  |(refine fq ?_))
 all_goals (refine bY ?_;subst_vars;simp_all<;>(intros;omega))
end
end
def Cz (P:Program) (w0:World) (f:FuncId) (args:List AV) (S:af) (ch:List PanicEntry) (S':af):Prop :=
 (∀(b:Array Value) (w:World),(callFunc f b).run P w=.ok (.enter f b) w) /\
 ∀(F:Fence) (m:Nat) (A:Nat->Prop) (g:Gh) (a:Array Value) (w:World),kW F->St w0 A g S w->mj g w args a ->
  CallsIn F m P f a w λe c=>∃d,e=.panicked ch/\St w0 A d S' c/\Ext A g w d c
def v7 (P:Program) (w0:World) (f:FuncId) (args:List AV) (ch:List PanicEntry):Prop:=∃S',Cz P w0 f args af.none_ ch S'
section
variable {P:Program}{w0:World}{rd:Bool}{n:Nat}{α aE:AA}{S S':af}{Q:Exit->AA->af->Prop}{ex:Exit}{r:AV}{i:QI}{l:List QI}{K:List f_}{ch:List PanicEntry}
theorem v7.W5 (h:v7 P w0 f args ch) (r:∀a ∈ args,Pure a) (S:af) (s:fN.length=args.length) (t:∀(i:Nat) (a0 a:AV),fN[i]?=some a0->args[i]?=some a->aP S a0 a):Cz P w0 f fN S ch S:=by
 obtain⟨J,u,v⟩:=h;refine⟨u,λF m A g c w y d j=>?_⟩;have l:∀b q,(g.still S).fz b q->b < w.heap.size:=by
  rintro b q (n|⟨k,K,rows,fz,ex,z,B,rfl,n⟩)
  ·exact d.dw b q n
  ·exact (d.cT k _ z B).2.1
 refine (v F m _ _ c w y (d.inner (g.still S).fz (λ_ _ h=>.inl h) l) ⟨j.1.trans s,λi a x o C=>?_⟩).mono ?_
 ·have D:i < fN.length:=by grind
  have p:=ai_ D;exact aN.pure (g:=g.still S) (g':=⟨g.ob,g.cp,λ_=>False,(g.still S).fz,g.fo⟩) (λ_ _ h=>h) (λ_ _ _=>rfl) ((t i _ a p o).rep d (j.2 i _ x p C)) (r a (aa_ o))
 ·rintro e M ⟨N,rfl,E,G⟩;obtain⟨H,I⟩:=d.outer (λ_ _ h=>.inl h) l E G;exact⟨_,rfl,I,H⟩
theorem v7.LY (h:v7 P w0 f args ch) (b:kc args) {S:af}(a:iq S fN args):Cz P w0 f fN S ch S:=h.W5 b.all S a.len a.at
theorem W6 {o:Oper}{c:Call}{f:Operand}{b:FuncId}(k:o.op=.call c) (l:c.callee=.value f)
  (p:∀(A:Nat->Prop) (g:Gh) (a:Act) (w:World),St w0 A g S w->cA g w n α a->∃first cap,a.eval f=.func (.func b) first cap/\mj g w args (first++c.args.map a.eval++cap)) (h:Cz P w0 b args S ch S'):OpP P w0 n o α S ch S':=by
 intro F m A g a w next Q d i q r
 rw[Oper.semAt_eq _ _ _ (λc' e=>by grind)];obtain⟨first,cap,s,t⟩:=p A g a w i q;have u:(execOp a.eval o).run P w=.ok (.enter b (first++c.args.map a.eval++cap)) w:=by
  simp only[execOp,k,resolve,l,s,Deferred.ofValue,Sem.run_bind,Sem.run_pure,Result.andThen_ok,invoke];exact h.1 _ w
 rw[u,Oper.uponIn_enter];refine⟨λj=>(by rw[d.2.1]at j;cases j),(h.2 F (m - 1) A g _ w d i t).mono ?_⟩;rintro e v ⟨x,rfl,y,z⟩;exact r v x y z
theorem wX.call {f:QO}(h:eV (f.ev α.tm) (aZ9.map (·.ev α.tm))=some (g,args)) (k:Cz P w0 g args S ch S'):wX P w0 (.call f aZ9) α S ch S':=by
 intro n o l;obtain⟨c,u,m,p,rfl,rfl⟩:=lV l;rw[jt,aW]at h;unfold eV at h;refine W6 m p (λA D a w E d=>?_) k;have b:=d.ev u;split at h
 ·rename_i q x y e;split at h
  ·rename_i F G;injection h with h;injection h with i j;subst i j;rw[e]at b;have r:x=#[]:=by grind
   have s:y=#[]:=by grind
   subst r s;refine⟨#[],#[],b_ b,?_⟩;rw[Array.empty_append,Array.append_empty];exact qQ d c.args
  ·grind
 ·rename_i q x y e;injection h with h;injection h with i j;subst i j;rw[e]at b;obtain⟨t,v,z,B,C⟩:=Cm b;exact⟨t,v,z,lJ (lJ B (qQ d c.args)) C⟩
 ·grind
theorem wX.ez {f:QO}(h:eV (f.ev α.tm) (aZ9.map (·.ev α.tm))=some (g,fN)) (a:v7 P w0 g args ch) (b:kc args) (c:iq S fN args):wX P w0 (.call f aZ9) α S ch S:=wX.call h (a.LY b c)
theorem ad.EO (a:bG α.tm i.g=some true) (h:wX P w0 i.q α S ch S') (k:ad P w0 rd n Q (.out (.panic ch) K) α S'):ad P w0 rd n Q (.bc false (i::l) K) α S:=jB.EO a h k
def toV:AV->Option Value
 |.v x=>some x
 |.agg l=>match toVs l with|some cs=>some (.agg cs.toArray)|none=>none
 |_=>none
where toVs:List AV->Option (List Value)
 |[]=>some []
 |a::l=>match toV a,toVs l with|some x,some cs=>some (x::cs)|_,_=>none
theorem toVs_at:∀{l:List AV}{cs:List Value},toV.toVs l=some cs->cs.length=l.length/\∀(i:Nat) (a:AV),l[i]?=some a->∃x,cs[i]?=some x/\toV a=some x
 |[],cs,h=>by
  simp only[toV.toVs,oI_]at h;subst h;exact⟨rfl,λi a h=>by grind⟩
 |a::l,cs,h=>by
  simp only[toV.toVs]at h;split at h
  ·rename_i x d e f;obtain rfl:=oJ_ h;obtain⟨j,g⟩:=toVs_at f;refine⟨by grind,λi b c=>?_⟩;cases i with
   |zero=>simp at c;subst c;exact⟨x,rfl,e⟩
   |succ i=>simp at c;simpa using g i b c
  ·grind
theorem zB {g:Gh}{w:World}{a:AV}{y:Value}(d:aN g w a y):∀{x:Value},toV a=some x->y=x:=by
 induction d with
 |v=>intro x h;simp only[toV,oI_]at h;exact h
 |@agg l q r h e =>
  intro x b;simp only[toV]at b;split at b
  ·rename_i f j;obtain rfl:=oJ_ b;obtain⟨s,k⟩:=toVs_at j;congr 1;apply Array.ext
   ·grind
   ·intro i m t;have c:i < l.length:=by grind
    obtain⟨x,n,o⟩:=k i _ (ai_ c);have p:=e i _ _ (ai_ c) (aG_ m) o;rw[p];have:=(ar_.1 n);simp[<-this.2]
  ·grind
 |_=>intro x h;simp[toV]at h
theorem W7 {o:Op}{t:Nat}{x:QO}(h:res P.toTables o=some (.LZ t x)):∃u,o=.makeInterface t u/\x=qo u:=by
 cases o with
 |makeInterface c u =>
  simp only[res,oI_]at h;injection h with a b;subst a;exact⟨u,rfl,b.symm⟩
 |_ =>
  simp only[res]at h
  repeat' split at h
  all_goals cases h
def isIf (T:Tables) (t:TypeId):Bool:=match gU T t with|some (.interface _)=>true|some _=>false|none=>true
theorem ae.LZ {t:Nat}{x:QO}{v:Value}(f:toV (x.ev α.tm)=some v) (b:isIf P.toTables t=false):ae P w0 false (.LZ t x) α S (.v (.iface t v)) S:=by
 refine ae.run λn o h=>?_;obtain⟨u,i,rfl⟩:=W7 h;rw[aW]at f;refine a8.quiet λA g a w l j=>⟨.iface t v,?_,.v⟩;have e:=zB (j.ev u) f;unfold isIf at b;rw[cF]at b;simp only[execOp,i,e,Instr.makeInterface];cases c:P.underlying t with
 |none=>rw[c]at b;cases b
 |some d =>
  have k:(underlying t).run P w=.ok d w:=by simp[underlying,c]
  rw[c]at b;cases d<;>simp_all
theorem abx {o:Op}{x:QO}(h:res P.toTables o=some (.EO x)):∃u,o=.panic u/\x=qo u:=by
 cases o with
 |panic u =>
  simp only[res,oI_]at h;injection h with a;exact⟨u,rfl,a.symm⟩
 |_ =>
  simp only[res]at h
  repeat' split at h
  all_goals cases h
theorem wX.EO {x:QO}{t:TypeId}{v:Value}(b:x.ev α.tm=.v (.iface t v)):wX P w0 (.EO x) α S [{ v:=.iface t v,recovered:=false }] S:=by
 intro n o c;obtain⟨u,d,rfl⟩:=abx c;rw[aW]at b;intro F m A g a w next Q k f h i
 rw[Oper.semAt_eq _ _ _ (λc' e=>by grind)];have e:=h.ev u;rw[b]at e;have e:=b_ e;have j:(execOp a.eval o).run P w=.halt (.panic (.iface t v)) w:=by
  simp[execOp,d,e,Instr.panic,goPanic]
 rw[j,Oper.uponIn_panic];exact i w g f (Ext.refl ..)
def CA (qs:List QR) (R:AV->af->Prop) (E:List PanicEntry->af->Prop) (ex:Exit) (α:AA) (S:af):Prop:=match ex with
 |.panic ch=>α.df=[]/\E ch S
 |ex=>sj qs R ex α S
theorem ad.ad0 {E:List PanicEntry->af->Prop}(a:KV ex=true) (h:Iv qs ex α S=some (r,S')) (k:R r S'):ad P w0 rd n (CA qs R E) (.out ex []) α S:=by
 show CA qs R E ex α S;cases ex<;>first|exact⟨r,S',h,k⟩|cases a
theorem ad.ad1 {E:List PanicEntry->af->Prop}(a:α.df=[]) (k:E ch S):ad P w0 rd n (CA qs R E) (.out (.panic ch) []) α S:=⟨a,k⟩
theorem Cz.ad2 {fn:Func}{c:Code}(k:P.funcs[f]?=some fn) (l:fn.body=some c) (o:∀(xs:Array Value) (w:World),(callFunc f xs).run P w=.ok (.enter f xs) w)
  (p:fn.ntmps=n) (q:args.length<=n) (r:aE.df=[]) (h:dN P w0 false n c ⟨nI args,[]⟩ S (.panic ch) aE S'):Cz P w0 f args S ch S':=by
 refine⟨o,λF m A g a w i s t=>?_⟩;have key:CallsIn F.plain m P f a w λe b=>∃d,e=.panicked ch/\St w0 A d S' b/\Ext A g w d b:=by
  refine callsIn_of_wp_marks k l (i.1 f) ?_ rfl;rw[p];refine wpIn_mono (h F.plain m A g _ w i.plain rfl s (AT t q)) ?_;rintro u j b ⟨rfl,d,v,x,y⟩;show LeavesInM F.plain m P fn j.tmps _ j.defers (.panicking ch) b;rw[x.df,r];exact⟨d,rfl,v,y⟩
 exact key
theorem oc.ZO {q:QC × List QR}{b:Bool}(F:oc P f q n) (i:args.length<=n) (p:Pure r) (h:ad P w0 false n (CA q.2 (λa S=>b=true/\aP S a r) (λd S=>b=false/\d=ch)) (.run q.1 []) ⟨nI args,[]⟩ af.none_) :
  (b=true->ah P w0 f args r)/\(b=false->v7 P w0 f args ch):=by
 obtain⟨fn,c,j,k,l,s,t,u,m⟩:=F.out;obtain⟨ex,aE,S',o,g⟩:=h c t u;have g:CA q.2 (λa S=>b=true/\aP S a r) (λd S=>b=false/\d=ch) ex aE S':=g;have nrm:sj q.2 (λa S=>b=true/\aP S a r) ex aE S'->(b=true->ah P w0 f args r)/\(b=false->v7 P w0 f args ch):=λv=>by
  obtain⟨a,w,x,y,z⟩:=v;have A:sj q.2 (λa S=>aP S a r) ex aE S':=⟨a,w,x,z⟩;exact⟨λ_=>ah.of_wp j k m l i p ⟨ex,aE,S',o,L0 s A⟩,λe=>absurd (y.symm.trans e) (by simp)⟩
 cases ex with
 |panic d =>
  obtain⟨B,C,rfl⟩:=g;exact⟨λe=>absurd (C.symm.trans e) (by simp),λ_=>⟨S',Cz.ad2 j k m l i B o⟩⟩
 |_=>exact nrm g
def KW (P:Program) (w0:World) (f:FuncId) (args:List AV) (b:Bool) (r:AV) (ch:List PanicEntry):Prop:=(b=true->ah P w0 f args r)/\(b=false->v7 P w0 f args ch)
theorem ad.ZP {b:Bool}{d:Option Nat}{gd:Option (Nat × Bool)}{f:QO}(a:bG α.tm gd=some true) (h:eV (f.ev α.tm) (aZ9.map (·.ev α.tm))=some (g,fN)) (c:KW P w0 g args b r ch) (e:kc args) (j:zd r) (i:iq S fN args)
  (k:b=true->ad P w0 rd n Q (.bc false l K) (bP d α r) S) (m:b=false->ad P w0 rd n Q (.out (.panic ch) K) α S):ad P w0 rd n Q (.bc false (⟨d,gd,.call f aZ9⟩::l) K) α S:=by
 cases b with
 |true=>exact ad.op a (ae.Eg h (c.1 rfl) e j i) (k rfl)
 |false=>exact ad.EO a (wX.ez h (c.2 rfl) e i) (m rfl)
end
instance:Inhabited Tm:=⟨⟨0,0,⟨#[]⟩,[]⟩⟩
theorem Ua {a b:ByteArray}:a.toList=b.toList ↔ a=b:=⟨λh=>by rw[ByteArray.toList_eq,ByteArray.toList_eq]at h;cases a;cases b;simp only[ByteArray.mk.injEq];exact Array.toList_inj.1 h,λh=>h ▸ rfl⟩
def vr (v:Int):Tm:=⟨1,v,⟨#[]⟩,[]⟩
mutual
def fI (f:Int->Tm):Tm->Tm
 |⟨k,i,n,a⟩=>if k=1 then f i else ⟨k,i,n,jJ f a⟩
def jJ (f:Int->Tm):List Tm->List Tm
 |[]=>[]
 |x::l=>fI f x::jJ f l
end
theorem wD (f:Int->Tm) (v:Int):fI f (vr v)=f v:=by grind[vr,fI]
theorem Jr (f:Int->Tm):∀l,jJ f l=l.map (fI f)
 |[]=>by rw[jJ];rfl
 |x::l=>by rw[jJ,Jr f l];rfl
mutual
def mL (v:Int):Tm->Prop
 |⟨k,i,n,a⟩=>if k=1 then i=v else nK v a
def nK (v:Int):List Tm->Prop
 |[]=>False
 |x::l=>mL v x\/nK v l
end
mutual
def eh:Tm->Prop
 |⟨k,i,n,a⟩=>if k=1 then n=⟨#[]⟩/\a=[] else gH a/\(k=2\/a=[])
def gH:List Tm->Prop
 |[]=>True
 |x::l=>eh x/\gH l
end
theorem gH.mem:∀{l:List Tm},gH l->∀x ∈ l,eh x
 |y::l,h,x,a=>by
  rw[gH]at h;rcases ad_.1 a with rfl|a
  ·grind
  ·exact h.2.mem x a
theorem ID:∀{l:List Tm},(∀x ∈ l,eh x)->gH l
 |[],_=>by rw[gH];trivial
 |y::l,h=>by rw[gH];exact⟨h y (by simp),ID λx a=>h x (by grind)⟩
theorem Js {v:Int}:∀{l:List Tm},nK v l ↔ ∃x ∈ l,mL v x
 |[]=>by rw[nK];simp
 |y::l=>by rw[nK,Js];simp
theorem GY (h:eh t) (b:t.k=1):t=vr t.i:=by
 obtain⟨k,i,n,a⟩:=t;obtain rfl:k=1:=b;rw[eh,if_pos rfl]at h;obtain⟨rfl,rfl⟩:=h
 rfl
mutual
theorem PZ {f:Int->Tm}:∀{t:Tm},eh t->(∀w,mL w t->f w=vr w)->fI f t=t
 |⟨k,i,n,a⟩,h,b=>by
  rw[fI];split
  ·rename_i c;rw[b i (by grind[mL])];exact (GY h c).symm
  ·rename_i c;rw[eh,if_neg c]at h;rw[L4 h.1 λw d=>b w (by grind[mL])]
theorem L4 {f:Int->Tm}:∀{l:List Tm},gH l->(∀w,nK w l->f w=vr w)->jJ f l=l
 |[],_,_=>by rw[jJ]
 |x::l,h,b=>by
  rw[gH]at h;rw[jJ,PZ h.1 λw d=>b w (by grind[nK]),L4 h.2 λw d=>b w (by grind[nK])]
end
def uD (E:List (Tm × Tm)) (f:Int->Tm):Prop:=∀e ∈ E,fI f e.1=fI f e.2
structure AU (E:List (Tm × Tm)) (s:Int->Tm):Prop where
 wf:∀v,eh (s v)
 idem:∀v w,mL w (s v)->s w=vr w
 low:∀v w,s v=vr w->w<=v
 Jt:uD E s
 gen:∀f,uD E f->∀v,f v=fI f (s v)
theorem AU.uniq {t:Int->Tm}(c:AU E s) (d:AU E t):s=t:=by
 have key:∀{f g:Int->Tm},AU E f->AU E g->∀v,f v=vr v->g v=vr v:=by
  intro f g l e v o;have h:=l.gen;have b:=e.gen f l.Jt v;rw[o]at b;have p:(g v).k=1:=by
   have m:=e.wf v;generalize g v=t at b m;obtain⟨k,i,n,a⟩:=t;rw[fI]at b;split at b
   ·grind
   ·injection b with b;exact b.symm
  have j:=GY (e.wf v) p;generalize (g v).i=w at j;rw[j,wD]at b;have q:=l.low _ _ b.symm;have r:=e.low _ _ j;rw[j,show w=v by omega]
 funext v;rw[c.gen s c.Jt v];have b:=d.gen s c.Jt v;rw[<-c.gen s c.Jt v,b];exact PZ (d.wf v) λw m=>key d c w (d.idem v w m)
abbrev aS:=List (Tm × List Nat)
def tn (N:aS) (i:Nat):Tm:=((N[i]?).getD default).1
def ks (N:aS) (i:Nat):List Nat:=((N[i]?).getD default).2
structure fj (N:aS):Prop where
 lt:∀i,i < N.length->∀j ∈ ks N i,j < i
 args:∀i,i < N.length->(tn N i).a=(ks N i).map (tn N)
 wf:∀i,i < N.length->eh (tn N i)
 one:∀i j,i < N.length->j < N.length->(tn N i).k=1->(tn N j).k=1->(tn N i).i=(tn N j).i->i=j
def Sound (E:List (Tm × Tm)) (N:aS) (i j:Nat):Prop:=∀f,uD E f->fI f (tn N i)=fI f (tn N j)
def alike (s t:Tm):Prop:=s.k=t.k/\s.i=t.i/\s.n=t.n/\s.a.length=t.a.length
structure sB (E:List (Tm × Tm)) (N:aS) (c:Nat->Nat):Prop where
 g:fj N
 sound:∀i j,i < N.length->j < N.length->c i=c j->Sound E N i j
 eqs:∀e ∈ E,∃i j,i < N.length/\j < N.length/\tn N i=e.1/\tn N j=e.2/\c i=c j
 al:∀i j,i < N.length->j < N.length->c i=c j->(tn N i).k ≠ 1->(tn N j).k ≠ 1->alike (tn N i) (tn N j)/\(ks N i).map c=(ks N j).map c
structure AW (N:aS) (c:Nat->Nat) (T:Nat->Tm):Prop where
 shaped:∀i,i < N.length->(tn N i).k ≠ 1->T (c i)=⟨(tn N i).k,(tn N i).i,(tn N i).n,(ks N i).map λj=>T (c j)⟩
 plain:∀i,i < N.length->(∀j,j < N.length->c j=c i->(tn N j).k=1)->∃j,j < N.length/\c j=c i/\T (c i)=vr (tn N j).i/\∀j',j' < N.length->c j'=c i->(tn N j).i<=(tn N j').i
theorem uE {f:Int->Tm}(h:t.k ≠ 1):fI f t=⟨t.k,t.i,t.n,t.a.map (fI f)⟩:=by
 obtain⟨k,i,n,a⟩:=t;rw[fI,if_neg h,Jr]
theorem L5 {f:Int->Tm}(h:t.k=1):fI f t=f t.i:=by
 obtain⟨k,i,n,a⟩:=t;rw[fI,if_pos h]
theorem ad3 {N:aS}(h:Sound E N i j) (hi:(tn N i).k ≠ 1) (a:(tn N j).k ≠ 1) (b:¬ alike (tn N i) (tn N j)):¬ ∃f,uD E f:=by
 rintro⟨f,c⟩;have:=h f c;rw[uE hi,uE a]at this;injection this with d e g k;exact b ⟨d,e,g,by simpa using congrArg List.length k⟩
theorem R5 {N:aS}(g:fj N) (d:i < N.length) (e:j < N.length) (h:Sound E N i j) (hi:(tn N i).k ≠ 1) (k:(tn N j).k ≠ 1) {p a b:Nat}(m:(ks N i)[p]?=some a) (n:(ks N j)[p]?=some b):Sound E N a b:=by
 intro f o;have:=h f o;rw[uE hi,uE k]at this;injection this with q r s c;rw[g.args i d,g.args j e]at c;have:=congrArg (λl=>l[p]?) c;simpa[m,n] using this
mutual
def cR:Tm->Nat
 |⟨k,i,n,a⟩=>bp a+1
def bp:List Tm->Nat
 |[]=>0
 |x::l=>cR x+bp l
end
theorem iw:∀{l:List Tm},∀x ∈ l,cR x<=bp l
 |y::l,x,h=>by
  rw[bp];rcases ad_.1 h with rfl|h
  ·omega
  ·have:=iw x h;omega
def sC (N:aS) (c:Nat->Nat) (r:Nat->Nat):Prop:=∀i,i < N.length->(tn N i).k ≠ 1->∀j ∈ ks N i,r (c j) < r (c i)
theorem Ju {N:aS}{c:Nat->Nat}(g:fj N) (k:∀i j,i < N.length->j < N.length->c i=c j->Sound E N i j) (h:∃f,uD E f):∃r,sC N c r:=by
 obtain⟨f,m⟩:=h;have key:∀C,∃n,∀i,i < N.length->c i=C->cR (fI f (tn N i))=n:=by
  intro C;by_cases b:∃i,i < N.length/\c i=C
  ·obtain⟨i,a,b⟩:=b;exact⟨_,λj d e=>by rw[k j i d a (e.trans b.symm) f m]⟩
  ·exact⟨0,λi a e=>absurd ⟨i,a,e⟩ b⟩
 refine⟨λC=>(key C).choose,λi a o j d=>?_⟩;have p:=g.lt i a j d;show (key (c j)).choose < (key (c i)).choose;rw[<-(key (c i)).choose_spec i a rfl,<-(key (c j)).choose_spec j (by omega) rfl,uE o,cR]
 have:=iw (l:=(tn N i).a.map (fI f)) (fI f (tn N j)) (by
  rw[g.args i a,bl_];exact av_.2 ⟨j,d,rfl⟩)
 omega
section
variable {E:List (Tm × Tm)}{N:aS}{c:Nat->Nat}{T:Nat->Tm}{r:Nat->Nat}
theorem Jv (b:sB E N c) (k:AW N c T) (o:sC N c r) {f:Int->Tm}(l:uD E f):∀(m i:Nat),r (c i) < m->i < N.length->fI f (tn N i)=fI f (T (c i))
 |0,i,h,_=>by omega
 |m+1,i,h,n=>by
  by_cases d:∀j,j < N.length->c j=c i->(tn N j).k=1
  ·obtain⟨j,a,e,q,_⟩:=k.plain i n d;rw[q,b.sound i j n a e.symm f l,L5 (d j a e),vr,fI,if_pos rfl]
  ·obtain⟨j,a,e,g⟩:∃j,j < N.length/\c j=c i/\(tn N j).k ≠ 1:=by grind
   rw[<-e,k.shaped j a g,b.sound i j n a e.symm f l,uE g,uE (t:=⟨_,_,_,_⟩) g,b.g.args j a];simp only[bl_,Tm.mk.injEq,true_and];refine aF_ λp d=>?_;have s:=b.g.lt j a p d;have u:=o j a g p d;exact Jv b k o l m p (by grind) (by omega)
theorem CB (a:sB E N c) (d:AW N c T) {f:Int->Tm}(g:∀i,i < N.length->(tn N i).k=1->f (tn N i).i=T (c i)):∀(m i:Nat),i < m->i < N.length->fI f (tn N i)=T (c i)
 |0,i,h,_=>by omega
 |m+1,i,h,b=>by
  by_cases e:(tn N i).k=1
  ·grind[L5]
  ·rw[uE e,d.shaped i b e,a.g.args i b];simp only[bl_,Tm.mk.injEq,true_and];refine aF_ λp j=>?_;have k:=a.g.lt i b p j;exact CB a d g m p (by omega) (by omega)
theorem FB (g:sB E N c) (q:AW N c T) (v:sC N c r):∀(m i:Nat),r (c i) < m->i < N.length->eh (T (c i))/\∀w,mL w (T (c i))->∃j,j < N.length/\(tn N j).k=1/\(tn N j).i=w/\T (c j)=vr w
 |0,i,h,_=>by omega
 |m+1,i,h,y=>by
  by_cases d:∀j,j < N.length->c j=c i->(tn N j).k=1
  ·obtain⟨j,b,l,z,_⟩:=q.plain i y d;rw[z];refine⟨by grind[vr,eh],λw s=>?_⟩;rw[vr,mL,if_pos rfl]at s;exact⟨j,b,d j b l,s,by grind⟩
  ·obtain⟨j,b,l,f⟩:∃j,j < N.length/\c j=c i/\(tn N j).k ≠ 1:=by grind
   have A:∀p ∈ ks N j,_:=λp d=>FB g q v m p (by have:=v j b f p d;rw[l]at this;omega) (by have:=g.g.lt j b p d;omega);rw[<-l,q.shaped j b f,eh,if_neg f];refine⟨⟨ID λx B=>?_,?_⟩,λw s=>?_⟩
   ·grind
   ·have u:=g.g.wf j b;have o:=g.g.args j b;generalize tn N j=t at u o f;obtain⟨k,C,n,a⟩:=t;rw[eh,if_neg f]at u;refine u.2.imp_right λe=>?_;simp only at o;rw[e]at o;rw[List.map_eq_nil_iff.1 o.symm];rfl
   ·grind[mL,Js]
open Classical in
noncomputable def ER (N:aS) (c:Nat->Nat) (T:Nat->Tm) (v:Int):Tm:=if h:∃i,i < N.length/\(tn N i).k=1/\(tn N i).i=v then T (c h.choose) else vr v
theorem zC (g:fj N) (hi:i < N.length) (a:(tn N i).k=1):ER N c T (tn N i).i=T (c i):=by
 unfold ER;have h:∃j,j < N.length/\(tn N j).k=1/\(tn N j).i=(tn N i).i:=⟨i,hi,a,rfl⟩;rw[dif_pos h,g.one _ _ h.choose_spec.1 hi h.choose_spec.2.1 a h.choose_spec.2.2]
theorem FC (h:¬ ∃i,i < N.length/\(tn N i).k=1/\(tn N i).i=v):ER N c T v=vr v:=by grind[ER]
theorem L6 (d:sB E N c) (g:AW N c T) (o:sC N c r):AU E (ER N c T):=by
 have m:∀v,(∃i,i < N.length/\(tn N i).k=1/\(tn N i).i=v/\ER N c T v=T (c i))\/ER N c T v=vr v:=λv=>by
  by_cases h:∃i,i < N.length/\(tn N i).k=1/\(tn N i).i=v
  ·obtain⟨i,a,b,rfl⟩:=h;exact .inl ⟨i,a,b,rfl,zC d.g a b⟩
  ·grind[FC]
 refine⟨λv=>?_,λv w k=>?_,λv w k=>?_,λe q=>?_,λf s v=>?_⟩
 ·rcases m v with ⟨i,a,b,t,e⟩|e
  ·rw[e];exact (FB d g o _ i (aX_ _) a).1
  ·grind[vr,eh]
 ·rcases m v with ⟨i,a,b,t,e⟩|e
  ·rw[e]at k;obtain⟨j,l,b,rfl,g⟩:=(FB d g o _ i (aX_ _) a).2 w k;rw[zC d.g l b,g]
  ·grind[vr,mL]
 ·rcases m v with ⟨i,a,b,rfl,e⟩|e
  ·rw[e]at k;by_cases u:∀j,j < N.length->c j=c i->(tn N j).k=1
   ·obtain⟨j,l,n,x,y⟩:=g.plain i a u;rw[x,vr,vr,Tm.mk.injEq]at k;rw[<-k.2.1];exact y i a rfl
   ·obtain⟨j,l,n,b⟩:∃j,j < N.length/\c j=c i/\(tn N j).k ≠ 1:=by grind
    rw[<-n,g.shaped j l b,vr,Tm.mk.injEq]at k;exact absurd k.1 b
  ·grind[vr]
 ·obtain⟨i,j,a,l,z,A,n⟩:=d.eqs e q;have p:∀i,i < N.length->(tn N i).k=1->ER N c T (tn N i).i=T (c i):=λi a b=>zC d.g a b;rw[<-z,<-A,CB d g p _ i (aX_ _) a,CB d g p _ j (aX_ _) l,n]
 ·rcases m v with ⟨i,a,b,rfl,e⟩|e
  ·rw[e,<-Jv d g o s _ i (aX_ _) a,L5 b]
  ·grind[vr,fI]
end
def Rel (c:Nat->Nat) (P:List (Nat × Nat)) (i j:Nat):Prop:=∀d:Nat->Nat,(∀x y,c x=c y->d x=d y)->(∀p ∈ P,d p.1=d p.2)->d i=d j
structure iT (E:List (Tm × Tm)) (N:aS) (D:List (Nat × Nat)) (c:Nat->Nat) (P:List (Nat × Nat)):Prop where
 g:fj N
 sound:∀i j,i < N.length->j < N.length->c i=c j->Sound E N i j
 nH:∀p ∈ P,p.1 < N.length/\p.2 < N.length/\Sound E N p.1 p.2
 eqs:∀p ∈ D,Rel c P p.1 p.2
 al:∀i j,i < N.length->j < N.length->c i=c j->(tn N i).k ≠ 1->(tn N j).k ≠ 1->alike (tn N i) (tn N j)/\∀q a b:Nat,(ks N i)[q]?=some a->(ks N j)[q]?=some b->Rel c P a b
theorem alike.refl (t:Tm):alike t t:=⟨rfl,rfl,rfl,rfl⟩
theorem alike.symm {s:Tm}(h:alike s t):alike t s:=⟨h.1.symm,h.2.1.symm,h.2.2.1.symm,h.2.2.2.symm⟩
theorem alike.trans {s u:Tm}(h:alike s t) (k:alike t u):alike s u:=⟨h.1.trans k.1,h.2.1.trans k.2.1,h.2.2.1.trans k.2.2.1,h.2.2.2.trans k.2.2.2⟩
section
variable {E:List (Tm × Tm)}{N:aS}{D P P':List (Nat × Nat)}{c c':Nat->Nat}
theorem Rel.mono (h:Rel c P i j) (a:∀d:Nat->Nat,(∀x y,c' x=c' y->d x=d y)->(∀p ∈ P',d p.1=d p.2)->(∀x y,c x=c y->d x=d y)/\∀p ∈ P,d p.1=d p.2):Rel c' P' i j:=λd b e=>h d (a d b e).1 (a d b e).2
theorem iT.mono (h:iT E N D c P) (f:∀p ∈ P',p.1 < N.length/\p.2 < N.length/\Sound E N p.1 p.2) (o:∀d:Nat->Nat,(∀x y,c x=c y->d x=d y)->(∀p ∈ P',d p.1=d p.2)->∀p ∈ P,d p.1=d p.2):iT E N D c P':=by
 have key:∀{i j},Rel c P i j->Rel c P' i j:=λh=>h.mono λd g r=>⟨g,o d g r⟩;exact⟨h.g,h.sound,f,λp f=>key (h.eqs p f),λi j k l e m n=>⟨(h.al i j k l e m n).1,λq a b s t=>key ((h.al i j k l e m n).2 q a b s t)⟩⟩
theorem iT.perm (h:iT E N D c P) (b:∀p,p ∈ P' ↔ p ∈ P):iT E N D c P':=h.mono (λp a=>h.nH p ((b p).1 a)) λd _ e p a=>e p ((b p).2 a)
theorem iT.pop {y:Nat}(h:iT E N D c ((x,y)::P)) (e:c x=c y):iT E N D c P:=h.mono (λp a=>h.nH p (.tail _ a)) λd a b p f=>by grind
def gQ (c:Nat->Nat) (a b:Nat) (i:Nat):Nat:=if c i=b then a else c i
def KX (N:aS) (i j:Nat):List (Nat × Nat):=(ks N i).zip (ks N j)
def ni (N:aS):Option Nat->Option Nat->List (Nat × Nat)
 |some s,some t=>KX N s t
 |_,_=>[]
theorem aby {α β:Type}{l:List α}{m:List β}{q:Nat}{a:α}{b:β}(c:l[q]?=some a) (d:m[q]?=some b):(a,b) ∈ l.zip m:=dv_.2 ⟨q,by grind⟩
def ix (N:aS) (c:Nat->Nat) (C:Nat):Option Nat->Prop
 |none=>∀i,i < N.length->c i=C->(tn N i).k=1
 |some s=>s < N.length/\c s=C/\(tn N s).k ≠ 1
theorem mD (g:fj N) (hi:i < N.length):(ks N i).length=(tn N i).a.length:=by rw[g.args i hi,aU_]
theorem W8 {y:Nat}{d:Nat->Nat}(h1:∀u v,gQ c (c x) (c y) u=gQ c (c x) (c y) v->d u=d v):(∀u v,c u=c v->d u=d v)/\d x=d y:=by grind[gQ]
theorem Ub {y:Nat}(b:∀i j,i < N.length->j < N.length->c i=c j->Sound E N i j) (m:x < N.length) (d:y < N.length) (o:Sound E N x y):∀i j,i < N.length->j < N.length->gQ c (c x) (c y) i=gQ c (c x) (c y) j->Sound E N i j:=by
 intro i j g h e f a;have n:=o f a;unfold gQ at e;split at e
 ·rename_i k;split at e
  ·rename_i l;rw[b i y g d k f a,b j y h d l f a]
  ·rw[b i y g d k f a,<-n,b x j m h e f a]
 ·rename_i k;split at e
  ·rename_i l;rw[b i x g m e f a,n,b y j d h l.symm f a]
  ·exact b i j g h e f a
theorem iT.merge {y:Nat}(h:iT E N D c ((x,y)::P)) {sa sb:Option Nat}(k:ix N c (c x) sa) (l:ix N c (c y) sb) (aT:∀s t,sa=some s->sb=some t->alike (tn N s) (tn N t)) :
  iT E N D (gQ c (c x) (c y)) (ni N sa sb++P):=by
 obtain⟨U,V,W⟩:=h.nH _ (.head _);have hs:=Ub h.sound U V W;obtain⟨Q,I⟩:∃Q,Q=ni N sa sb:=⟨_,rfl⟩;rw[<-I];have G:∀s t,sa=some s->sb=some t->Q=KX N s t:=λs t e1 e2=>by rw[I,e1,e2];rfl
 have key:∀{i j},Rel c ((x,y)::P) i j->Rel (gQ c (c x) (c y)) (Q++P) i j:=λhr=>hr.mono λd m n=>by
  obtain⟨r,B⟩:=W8 m;refine⟨r,λp g=>?_⟩;rcases ad_.1 g with rfl|g
  ·grind
  ·grind
 have M:∀i j,i < N.length->j < N.length->c i=c x->c j=c y->(tn N i).k ≠ 1->(tn N j).k ≠ 1->alike (tn N i) (tn N j)/\∀q a b:Nat,(ks N i)[q]?=some a->(ks N j)[q]?=some b->Rel (gQ c (c x) (c y)) (Q++P) a b:=by
  intro i j o u J K v w;cases sa with
  |none=>exact absurd (k i o J) v
  |some s =>
   cases sb with
   |none=>exact absurd (l j u K) w
   |some t =>
    obtain⟨z,O,R⟩:=k;obtain⟨C,S,A⟩:=l;obtain⟨X,a2⟩:=h.al i s o z (J.trans O.symm) v R;obtain⟨b1,b2⟩:=h.al t j C u (S.trans K.symm) A w;have L:=aT s t rfl rfl;refine⟨(X.trans L).trans b1,λq a b H P1=>?_⟩;have l1:q < (ks N i).length:=(ar_.1 H).1;have l2:(ks N i).length=(ks N s).length:=by rw[mD h.g o,mD h.g z,X.2.2.2]
    have l3:(ks N s).length=(ks N t).length:=by rw[mD h.g z,mD h.g C,L.2.2.2]
    have Y:(ks N s)[q]?=some ((ks N s)[q]'(by omega)):=ai_ _;have Z:(ks N t)[q]?=some ((ks N t)[q]'(by omega)):=ai_ _;intro d m n;refine (key (a2 q _ _ H Y) d m n).trans (Eq.trans ?_ (key (b2 q _ _ Z P1) d m n));have:=aby Y Z;exact n _ (List.mem_append_left _ (by rw[G s t rfl rfl];exact this))
 have ao_:∀i j,i < N.length->j < N.length->c i=c y->c j=c x->(tn N i).k ≠ 1->(tn N j).k ≠ 1->alike (tn N i) (tn N j)/\∀q a b:Nat,(ks N i)[q]?=some a->(ks N j)[q]?=some b->Rel (gQ c (c x) (c y)) (Q++P) a b:=λi j o u J K v w=>by
  obtain⟨m,n⟩:=M j i u o K J w v;exact⟨m.symm,λq a b k l d r B=>(n q b a l k d r B).symm⟩
 refine⟨h.g,hs,λp g=>?_,λp g=>key (h.eqs p g),λi j o u e v w=>?_⟩
 ·rcases az_.1 g with g|g
  ·cases sa with
   |none=>rw[I]at g;cases sb<;>cases g
   |some s =>
    cases sb with
    |none=>rw[I]at g;cases g
    |some t =>
     obtain⟨z,O,R⟩:=k;obtain⟨C,S,A⟩:=l;rw[G s t rfl rfl]at g;obtain⟨q,F⟩:=dv_.1 g;unfold KX at F;obtain⟨p1,p2⟩:=p;rw[ch_]at F;have L:Sound E N s t:=λf T=>by rw[h.sound s x z U O f T,W f T,h.sound y t V C S.symm f T]
     have m1:=h.g.lt s z p1 (aa_ F.1);have m2:=h.g.lt t C p2 (aa_ F.2);exact⟨by grind,by grind,R5 h.g z C L R A F.1 F.2⟩
  ·exact h.nH p (.tail _ g)
 ·unfold gQ at e;split at e
  ·rename_i m;split at e
   ·rename_i n;obtain⟨r,B⟩:=h.al i j o u (m.trans n.symm) v w;exact⟨r,λq a b k l=>key (B q a b k l)⟩
   ·grind
  ·rename_i m;split at e
   ·grind
   ·obtain⟨r,B⟩:=h.al i j o u e v w;exact⟨r,λq a b k l=>key (B q a b k l)⟩
theorem iT.ZS {y:Nat}(h:iT E N D c ((x,y)::P)) {s t:Nat}(a:ix N c (c x) (some s)) (b:ix N c (c y) (some t)) (e:¬ alike (tn N s) (tn N t)):¬ ∃f,uD E f:=by
 obtain⟨g,k,l⟩:=h.nH _ (.head _);exact ad3 (N:=N) (i:=s) (j:=t) (λf d=>by rw[h.sound s x a.1 g a.2.1 f d,l f d,h.sound y t k b.1 b.2.1.symm f d]) a.2.2 b.2.2 e
theorem iT.closed (h:iT E N D c []) (g:∀e ∈ E,∃p ∈ D,p.1 < N.length/\p.2 < N.length/\tn N p.1=e.1/\tn N p.2=e.2):sB E N c:=by
 have key:∀{i j},Rel c [] i j->c i=c j:=λh=>h c (λ_ _ e=>e) λp a=>by grind
 refine⟨h.g,h.sound,λe k=>?_,λi j b d e m n=>?_⟩
 ·obtain⟨p,a,o,r,s,t⟩:=g e k;exact⟨p.1,p.2,o,r,s,t,key (h.eqs p a)⟩
 ·obtain⟨f,u⟩:=h.al i j b d e m n;refine⟨f,dd_ λq=>?_⟩;rw[aS_,aS_];have l:(ks N i).length=(ks N j).length:=by rw[mD h.g b,mD h.g d,f.2.2.2]
  by_cases v:q < (ks N i).length
  ·grind
  ·grind
end
section
variable {E:List (Tm × Tm)}{N N':aS}{D:List (Nat × Nat)}{c c':Nat->Nat}
theorem ff (a:∀i,i < N.length->N'[i]?=N[i]?) (hi:i < N.length):tn N' i=tn N i/\ks N' i=ks N i:=by grind[tn,ks]
theorem iT.grow (h:iT E N D c []) (v:∀p ∈ D,p.1 < N.length/\p.2 < N.length) (g':fj N') (I:N.length<=N'.length) (l:∀i,i < N.length->N'[i]?=N[i]?) (w:∀i,i < N.length->c' i=c i/\c i < N.length) (J:∀i,N.length<=i->c' i=i)
  {y:Nat}(B:x < N'.length) (C:y < N'.length) (F:(tn N' x,tn N' y) ∈ E):iT E N' ((x,y)::D) c' [(x,y)]:=by
 have key:∀{i j P},i < N.length->j < N.length->Rel c [] i j->Rel c' P i j:=λn o h d g _=>g _ _ (by rw[(w _ n).1,(w _ o).1];exact h c (λ_ _ e=>e) λp l=>by grind);have r:∀i j,i < N'.length->j < N'.length->c' i=c' j->i=j\/(i < N.length/\j < N.length/\c i=c j):=by grind
 refine⟨g',λi j n o e=>?_,λp m=>?_,λp m=>?_,λi j n o e z A=>?_⟩
 ·rcases r i j n o e with rfl|⟨g,k,e⟩
  ·exactλf _=>rfl
  ·intro f u;rw[(ff l g).1,(ff l k).1];exact h.sound i j g k e f u
 ·obtain rfl:=ae_.1 m;exact⟨B,C,λf u=>u _ F⟩
 ·rcases ad_.1 m with rfl|m
  ·exactλd _ k=>k _ (.head _)
  ·exact key (v p m).1 (v p m).2 (h.eqs p m)
 ·rcases r i j n o e with rfl|⟨g,k,e⟩
  ·refine⟨.refl _,λq a b t s d _ _=>?_⟩;rw[t]at s;exact congrArg d (oJ_ s)
  ·rw[(ff l g).1]at z ⊢;rw[(ff l k).1]at A ⊢;rw[(ff l g).2,(ff l k).2];obtain⟨G,H⟩:=h.al i j g k e z A;refine⟨G,λq a b t s=>key ?_ ?_ (H q a b t s)⟩
   ·have:=h.g.lt i g a (aa_ t);omega
   ·have:=h.g.lt j k b (aa_ s);omega
end
def tv:List Int->Prop
 |[]=>True
 |x::l=>(∀y ∈ l,x < y)/\tv l
theorem FD:∀{l m:List Int},tv l->tv m->(∀x,x ∈ l ↔ x ∈ m)->l=m
 |[],[],_,_,_=>rfl
 |[],y::m,_,_,h=>by have:=(h y).2 (by simp);cases this
 |x::l,[],_,_,h=>by have:=(h x).1 (by simp);cases this
 |x::l,y::m,c,d,h=>by
  have e:x=y:=by
   have a:=(h x).1 (by simp);have b:=(h y).2 (by simp);rcases ad_.1 a with a|a
   ·grind
   ·rcases ad_.1 b with b|b
    ·grind
    ·have:=c.1 y b;have:=d.1 x a;omega
  subst e;refine congrArg _ (FD c.2 d.2 λz=>⟨λf=>?_,λf=>?_⟩)
  ·rcases ad_.1 ((h z).1 (by grind)) with rfl|g
   ·exact absurd (c.1 _ f) (by omega)
   ·grind
  ·rcases ad_.1 ((h z).2 (by grind)) with rfl|g
   ·exact absurd (d.1 _ f) (by omega)
   ·grind
theorem AX {p:Int->Bool}:∀{l:List Int},tv l->tv (l.filter p)
 |[],_=>trivial
 |x::l,h=>by
  rw[List.filter_cons];split
  ·exact⟨λy a=>h.1 y (bB_.1 a).1,AX h.2⟩
  ·exact AX h.2
structure AY (E:List (Tm × Tm)) (s:Int->Tm) (l:List Int):Prop where
 c:AU E s
 a:tv l
 m:∀v,v ∈ l ↔ s v ≠ vr v
theorem AY.uniq {c:List (Tm × Tm)}{b:Int->Tm}{d:List Int}(h:AY E s l) (a:AY c b d) (e:∀f,uD E f ↔ uD c f):s=b/\l=d:=by
 have c':AU E b:=⟨a.c.wf,a.c.idem,a.c.low,(e _).2 a.c.Jt,λf g=>a.c.gen f ((e f).1 g)⟩;obtain rfl:=h.c.uniq c';exact⟨rfl,FD h.a a.a λv=>(h.m v).trans (a.m v).symm⟩
def IE (Jy:Tm->Bool) (s:Int->Tm) (l:List Int):List Bd × Int:=if l.any λv=>Jy (s v) then ([],6) else (l.map λv=>⟨v,s v⟩,0)
open Classical in
noncomputable def kX (Jy:Tm->Bool) (E:List (Tm × Tm)):List Bd × Int:=if h:∃p:(Int->Tm) × List Int,AY E p.1 p.2 then IE Jy h.choose.1 h.choose.2 else ([],13)
theorem CC (h:AY E s l):kX Jy E=IE Jy s l:=by
 have a:∃p:(Int->Tm) × List Int,AY E p.1 p.2:=⟨(s,l),h⟩;unfold kX;rw[dif_pos a];obtain⟨b,c⟩:=a.choose_spec.uniq h λf=>ci_;rw[b,c]
theorem yg (h:¬ ∃f,uD E f):kX Jy E=([],13):=by
 unfold kX;rw[dif_neg λ⟨p,a⟩=>h ⟨_,a.c.Jt⟩]
def mM (N:aS) (v:Int):Option Nat:=N.findIdx? λx=>x.1.k == 1 && x.1.i == v
mutual
def bN:aS->Tm->aS × Nat
 |N,⟨k,i,n,a⟩=>match (if k=1 then mM N i else none) with
  |some j=>(N,j)
  |none=>((bR N a).1++[(⟨k,i,n,a⟩,(bR N a).2)],(bR N a).1.length)
def bR:aS->List Tm->aS × List Nat
 |N,[]=>(N,[])
 |N,x::l=>((bR (bN N x).1 l).1,(bN N x).2::(bR (bN N x).1 l).2)
end
structure vo (N N':aS):Prop where
 g:fj N'
 le:N.length<=N'.length
 pre:∀i,i < N.length->N'[i]?=N[i]?
theorem vo.trans {A B C:aS}(h:vo A B) (k:vo B C):vo A C:=⟨k.g,ay_ h.le k.le,λi a=>(k.pre i (by have:=h.le;omega)).trans (h.pre i a)⟩
theorem vo.tn {A B:aS}(h:vo A B) (hi:i < A.length):tn B i=tn A i:=(ff h.pre hi).1
theorem CD {N:aS}(h:mM N v=some j):j < N.length/\(tn N j).k=1/\(tn N j).i=v:=by
 unfold mM at h;obtain⟨a,b,_⟩:=List.findIdx?_eq_some_iff_getElem.1 h;simp only[al_,beq_iff_eq]at b;unfold tn;rw[ai_ a];exact⟨a,b⟩
theorem Jz {N:aS}(h:mM N v=none):∀j,j < N.length->(tn N j).k=1->(tn N j).i ≠ v:=by grind[mM,tn]
theorem lR {N:aS}{x:Tm × List Nat}:tn (N++[x]) N.length=x.1/\ks (N++[x]) N.length=x.2:=by unfold tn ks;simp
theorem L7 {N:aS}{d:List Nat}(g:fj N) (h1:∀j ∈ d,j < N.length) (h2:t.a=d.map (tn N)) (h3:eh t) (h4:t.k=1->∀j,j < N.length->(tn N j).k=1->(tn N j).i ≠ t.i):vo N (N++[(t,d)]):=by
 have c:∀i,i < N.length->(N++[(t,d)])[i]?=N[i]?:=λi a=>bb_ a;have m:∀l:List Nat,(∀j ∈ l,j < N.length)->l.map (tn (N++[(t,d)]))=l.map (tn N):=λl n=>aF_ λj b=>(ff c (n j b)).1;have hlen:∀i,i < (N++[(t,d)]).length->i < N.length\/i=N.length:=λi a=>by grind
 refine⟨⟨λi a j b=>?_,λi a=>?_,λi a=>?_,λi j a b f k e=>?_⟩,by grind,c⟩
 ·rcases hlen i a with h|rfl
  ·rw[(ff c h).2]at b;exact g.lt i h j b
  ·rw[lR.2]at b;exact h1 j b
 ·rcases hlen i a with h|rfl
  ·rw[(ff c h).1,(ff c h).2,m _ λj b=>by have:=g.lt i h j b;omega];exact g.args i h
  ·rw[lR.1,lR.2,m _ h1];exact h2
 ·rcases hlen i a with h|rfl
  ·rw[(ff c h).1];exact g.wf i h
  ·rw[lR.1];exact h3
 ·rcases hlen i a with a|rfl<;>rcases hlen j b with b|rfl
  ·rw[(ff c a).1]at f e;rw[(ff c b).1]at k e;exact g.one i j a b f k e
  ·rw[(ff c a).1]at f e;rw[lR.1]at k e;exact absurd e (h4 k i a f)
  ·rw[(ff c b).1]at k e;rw[lR.1]at f e;exact absurd e.symm (h4 f j b k)
  ·rfl
mutual
theorem pO:∀(N:aS) (t:Tm),fj N->eh t->vo N (bN N t).1/\(bN N t).2 < (bN N t).1.length/\tn (bN N t).1 (bN N t).2=t
 |N,⟨k,i,n,a⟩,g,c=>by
  rw[bN];by_cases d:k=1
  ·rw[if_pos d];have f:=c;rw[eh,if_pos d]at f;obtain⟨rfl,rfl⟩:=f;subst d;cases q:mM N i with
   |some j =>
    obtain⟨b,h,m⟩:=CD q;refine⟨⟨g,ac_ _,λ_ _=>rfl⟩,b,?_⟩;rw[GY (g.wf j b) h,m,vr]
   |none =>
    refine⟨?_,?_,?_⟩
    ·grind[bR,L7,Jz]
    ·grind
    ·simp only[bR];exact lR.1
  ·rw[if_neg d];have f:=c;rw[eh,if_neg d]at f;obtain⟨b,h,m⟩:=FE N a g f.1;refine⟨b.trans (L7 b.g h m.symm c λe=>absurd e d),?_,?_⟩
   ·simp
   ·exact lR.1
theorem FE:∀(N:aS) (l:List Tm),fj N->gH l->vo N (bR N l).1/\(∀j ∈ (bR N l).2,j < (bR N l).1.length)/\(bR N l).2.map (tn (bR N l).1)=l
 |N,[],g,_=>by rw[bR];exact⟨⟨g,ac_ _,λ_ _=>rfl⟩,(λj o=>by grind),rfl⟩
 |N,x::l,g,c=>by
  rw[gH]at c;obtain⟨b,h,m⟩:=pO N x g c.1;obtain⟨p,r,k3⟩:=FE (bN N x).1 l b.g c.2;rw[bR];refine⟨b.trans p,λj o=>?_,?_⟩
  ·rcases ad_.1 o with rfl|o
   ·have:=p.le;simp only;omega
   ·grind
  ·simp only[aC_,k3,p.tn h,m]
end
def TF (N:aS) (c:Nat->Nat) (sh:Nat->Option Nat) (lo:Nat->Int):Nat->Nat->Tm
 |0,_=>default
 |m+1,C=>match sh C with
  |none=>vr (lo C)
  |some s=>⟨(tn N s).k,(tn N s).i,(tn N s).n,(ks N s).map λj=>TF N c sh lo m (c j)⟩
section
variable {E:List (Tm × Tm)}{N:aS}{c:Nat->Nat}{sh:Nat->Option Nat}{lo:Nat->Int}{r:Nat->Nat}
theorem P4 (f:fj N) (b:∀C s,sh C=some s->s < N.length/\c s=C/\(tn N s).k ≠ 1) (d:sC N c r):∀(m a C:Nat),r C < m->r C < a->TF N c sh lo m C=TF N c sh lo a C
 |0,_,C,h,_=>by omega
 |m+1,0,C,_,h=>by omega
 |m+1,a+1,C,h,n=>by
  rw[TF,TF];cases e:sh C with
  |none=>rfl
  |some s =>
   obtain⟨g,i,k⟩:=b C s e;simp only[Tm.mk.injEq,true_and];refine aF_ λj l=>?_;have:=d s g k j l;rw[i]at this;exact P4 f b d m a (c j) (by omega) (by omega)
def TC (N:aS) (c:Nat->Nat) (sh:Nat->Option Nat) (lo:Nat->Int) (r:Nat->Nat) (C:Nat):Tm:=TF N c sh lo (r C+1) C
theorem abz (d:fj N) (a:∀C s,sh C=some s->s < N.length/\c s=C/\(tn N s).k ≠ 1) (b:sC N c r) {C s:Nat}(e:sh C=some s):TC N c sh lo r C=⟨(tn N s).k,(tn N s).i,(tn N s).n,(ks N s).map λj=>TC N c sh lo r (c j)⟩:=by
 obtain⟨f,g,h⟩:=a C s e;rw[TC,TF,e];simp only[Tm.mk.injEq,true_and];refine aF_ λj i=>?_;have:=b s f h j i;rw[g]at this;exact P4 d a b _ _ (c j) (by omega) (by omega)
theorem abA {C:Nat}(e:sh C=none):TC N c sh lo r C=vr (lo C):=by rw[TC,TF,e]
theorem L8 (k:sB E N c) (g:∀C s,sh C=some s->s < N.length/\c s=C/\(tn N s).k ≠ 1) (o:sC N c r) (p:∀i,i < N.length->sh (c i)=none->∀j,j < N.length->c j=c i->(tn N j).k=1) (q:∀i,i < N.length->sh (c i)=none->∃j,j < N.length/\c j=c i/\lo (c i)=(tn N j).i/\∀h,h < N.length->c h=c i->(tn N j).i<=(tn N h).i) :
  AW N c (TC N c sh lo r):=by
 refine⟨λi a m=>?_,λi a t=>?_⟩
 ·cases e:sh (c i) with
  |none=>exact absurd (p i a e i a rfl) m
  |some s =>
   obtain⟨b,d,f⟩:=g _ s e;obtain⟨⟨u,v,w,z⟩,x⟩:=k.al i s a b d.symm m f;rw[abz k.g g o e,u,v,w];have n:∀l:List Nat,l.map (λj=>TC N c sh lo r (c j))=(l.map c).map (TC N c sh lo r):=λl=>by rw[bl_];rfl
   rw[n,n,x]
 ·cases e:sh (c i) with
  |none =>
   obtain⟨j,b,d,f,y⟩:=q i a e;exact⟨j,b,d,by rw[abA e,f],y⟩
  |some s =>
   obtain⟨b,d,f⟩:=g _ s e;exact absurd (t s b d) f
end
end Go.Proofs.YtbpabjmnhggajaaGreat
