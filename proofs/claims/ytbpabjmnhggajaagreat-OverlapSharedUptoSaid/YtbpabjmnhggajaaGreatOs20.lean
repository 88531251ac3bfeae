import Derived.Test.YtbpabjmnhggajaaGreatOs19
namespace Go.Proofs.YtbpabjmnhggajaaGreat
set_option linter.unusedVariables false
set_option linter.unusedSimpArgs false
open Go.RowKit
section
set_option maxRecDepth 100000
attribute [local irreducible] ah aC af ad
def acA:FQ 109 Tryz.f109:=a_ Tryz.func109 Tryz.call109
def Y5:List Nat:=[1,2,0,5]
def acB:FQ 259 Tryz.f259:=a_ Tryz.func259 Tryz.call259
def Y6:List Nat:=[1,2,0,5]
def ag7:FQ 60 Tryz.f60:=a_ Tryz.func60 Tryz.call60
def x6:List Nat:=[5,4,3,2,0,1,11]
def oM (x:Tm):List Tm:=if x.k=2 then x.a else []
mutual
def dX:Tm->Nat
 |⟨k,i,n,a⟩=>if k=2 then 1+bL a else 1
def bL:List Tm->Nat
 |[]=>0
 |x::l=>dX x+bL l
end
mutual
def pB:Tm->Nat
 |⟨k,i,n,a⟩=>if k=2 then 1+lY a else 1
def lY:List Tm->Nat
 |[]=>0
 |x::l=>max (pB x) (lY l)
end
theorem Cc (x:Tm):dX x=1+bL (oM x):=by
 obtain⟨k,i,n,a⟩:=x;rw[dX,oM];split<;>rfl
theorem Ln (x:Tm):pB x=1+lY (oM x):=by
 obtain⟨k,i,n,a⟩:=x;rw[pB,oM];split<;>rfl
theorem uM (x:Tm):1<=dX x:=by rw[Cc];omega
theorem Bu:∀ (l:List Tm) (k:Nat),bL (l.drop k)<=bL l
 |[],k=>by simp
 |x::l,0=>by simp
 |x::l,k+1=>by
  rw[List.drop_succ_cons,bL];have:=Bu l k;omega
theorem w7:∀ l:List Tm,l.length<=bL l
 |[]=>Nat.le_refl 0
 |x::l=>by
  have:=w7 l;have:=uM x;rw[bL,List.length_cons];omega
section
variable {w0:World}{ρ:Hd}
theorem WI (x:Tm):ah Tryz.prog w0 109 [tm ρ x] (tl ρ (oM x)):=by
 obtain⟨k,i,n,a⟩:=x;refine st acA Y5 ((aS _)) ?_
 repeat' (first
  |refine cg Y5 (fun hb=>?_) fun hb=>?_
  |(refine fq ?_))
 ·rw[oM,if_pos hb];exact aR.of_eq rfl
 ·grind[oM,tl,bQ,aR.wk]
theorem Y7 (x:Tm):ah Tryz.prog w0 259 [tm ρ x] (tl ρ (oM x)):=by
 obtain⟨k,i,n,a⟩:=x;refine st acB Y6 ((aS _)) ?_
 repeat' (first
  |refine cg Y6 (fun hb=>?_) fun hb=>?_
  |(refine fq ?_))
 ·rw[oM,if_pos hb];exact aR.of_eq rfl
 ·grind[oM,tl,bQ,aR.wk]
theorem WJ (n:Nat):∀ x:Tm,dX x<=n->n<=1099511627776->ah Tryz.prog w0 60 [tm ρ x] (iv (dX x)):=by
 induction n with
 |zero=>intro x h;have:=uM x;omega
 |succ n ih =>
  intro x hx hn;have hs:=Cc x;have hl:=w7 (oM x);obtain⟨A,hA⟩:∃ A,A=oM x:=⟨_,rfl⟩;rw[<-hA] at hs hl;have ha:ah Tryz.prog w0 109 [tm ρ x] (tl ρ A):=by grind[WI]
  refine st ag7 x6 .v ?_
  repeat' (first
   |(refine og x6 (af.aw rfl ha ⟨aT _,trivial⟩) ?_)
   )
  refine ad.bu (σ:=Int × Int) 1 1 [] (fun p=>[(3,.v (.int .i64 p.2)),(4,tl ρ A),(5,.v (.int .i64 p.1))]) [] (fun _=>[])
   (fun p=>∃ k:Nat,p.1=k/\k<=A.length/\0<=p.2/\p.2+bL (A.drop k)=dX x) (fun p=>A.length - p.1.toNat) (0,1) ⟨0,rfl,by simp,by simp,by grind⟩ rfl cq ?_
  rintro⟨i,c⟩ ⟨k,hi,hk,h0,hp⟩;simp only at hi h0 hp;refine gq x6 ?_;by_cases aA:k < A.length
  ·obtain⟨y,hy,px⟩:=bf aA;have hd:=Bu A k;rw[px,bL] at hp hd;have Yr:=uM y
   repeat' (first
    |refine og x6 (af.ind rfl rfl (fm (l:=A) hi hy) fp) ?_
    |refine ig x6 (af.aw rfl (ih y (by omega) (by omega)) ⟨aT _,trivial⟩) fun _ _=>?_
    |refine cg x6 (fun hb=>?_) fun hb=>?_
    |refine lg x6 fun m hm=>?_
    |refine ag x6 fun _ _=>?_
    |refine ad.aH ?_;refine gq x6 ?_
    |(refine fq ?_))
   all_goals first
    |exfalso;omega
    |(refine ad.aO (σ:=Int × Int) (_,_) [] ?_ ?_ cq
      ·grind
      ·simp only;omega)
  ·skip
   repeat' (first
    |refine cg x6 (fun hb=>?_) fun hb=>?_
    |refine lg x6 fun m hm=>?_
    |refine ad.aH ?_;refine gq x6 ?_
    |(refine fq ?_))
   all_goals first
    |exfalso;omega
    |rw[List.drop_eq_nil_of_le (by omega),bL] at hp;exact jD (by omega)
end
end
section
set_option maxRecDepth 100000
attribute [local irreducible] ah aC af ad
def eL (s:ByteArray):Bool:=s.toList == ((⟨#[43]⟩:ByteArray)).toList || s.toList == ((⟨#[45]⟩:ByteArray)).toList || s.toList == ((⟨#[42]⟩:ByteArray)).toList || s.toList == ((⟨#[47]⟩:ByteArray)).toList || s.toList == ((⟨#[37]⟩:ByteArray)).toList
def vu (n:ByteArray) (a:List Tm):Bool:=n.toList == (⟨#[]⟩:ByteArray).toList && a.isEmpty
mutual
def oB:Tm->Bool
 |⟨k,i,n,a⟩=>if k=0 then decide (-2147483648<=i) && decide (i<=2147483648) && vu n a else if k=1 then decide (0<=i) && decide (i<=1048576) && vu n a
  else if k=2 then i == 0 && (eL n && a.length == 2 || qO n && decide (a.length<=6)) && kX a else false
def kX:List Tm->Bool
 |[]=>true
 |x::l=>oB x && kX l
end
def dO (x:Tm):Bool:=oB x && decide (dX x<=200) && decide (pB x<=20)
def qv (l:List Tm):Bool:=l.all dO && decide (bL l<=200)
theorem eG {B sz fz:Nat}{row:List AV}{ex:Bool}(h:∀ a ∈ row,Pure a):fR B (.arr sz [row] fz ex):=fun r hr a ha=>by
 obtain rfl:=List.mem_singleton.1 hr;exact (h a ha).aV
end
section
set_option maxRecDepth 100000
attribute [local irreducible] ah aC af ad
def vU (l:List Tm):Prop:=eV l/\bL l<=1099511627776
theorem vU.len {l:List Tm}(h:vU l):l.length<=1099511627776:=Nat.le_trans (w7 l) h.2
def jI (x:At):Bool:=qO x.n && decide (x.a.length<=6) && qv x.a
def arity (o:Int):Int:=if o=1\/o=2 then 0 else if o=11\/o=12 then 1 else if o > 2/\o < 11 then 2 else -1
def ft (x:Gl):Bool:=if x.op=0 then jI ⟨x.n,x.a⟩ else x.n.toList == (⟨#[]⟩:ByteArray).toList && decide (arity x.op=x.a.length) && qv x.a
end
def y8 (P:Program) (w0:World) (f:FuncId) (args:List AV) (S:ae) (ch:List PanicEntry) (S':ae):Prop :=
 (∀ (xs:Array Value) (w:World),(callFunc f xs).run P w=.ok (.enter f xs) w) /\
 ∀ (F:Fence) (m:Nat) (A:Nat->Prop) (g:Gh) (args':Array Value) (w:World),ir F->St w0 A g S w->jc g w args args' ->
  CallsIn F m P f args' w fun e w'=>∃ g',e=.panicked ch/\St w0 A g' S' w'/\Ext A g w g' w'
def sI (P:Program) (w0:World) (f:FuncId) (args:List AV) (ch:List PanicEntry):Prop:=∃ S',y8 P w0 f args ae.none_ ch S'
section
variable {P:Program}{w0:World}{rd:Bool}{n:Nat}{α au:AA}{S S':ae}{Q:Exit->AA->ae->Prop}{ex:Exit}{r:AV}{i:QI}{l:List QI}{K:List ff}{ch:List PanicEntry}
theorem sI.Sk {f:FuncId}{args eF:List AV}(h:sI P w0 f args ch) (hp:∀ a ∈ args,Pure a) (S:ae) (hl:eF.length=args.length) (hf:∀ (i:Nat) (a0 a:AV),eF[i]?=some a0->args[i]?=some a->aR S a0 a):y8 P w0 f eF S ch S:=by
 obtain⟨S1,h1,h2⟩:=h;refine⟨h1,fun F m A g args' w hF hS hA=>?_⟩;have aA:∀ b q,(g.still S).fz b q->b < w.heap.size:=by
  rintro b q (hq|⟨k,sz,rows,fz,ex,hk,aK,rfl,hq⟩)
  ·exact hS.cK b q hq
  ·exact (hS.bT k _ hk aK).2.1
 refine (h2 F m _ _ args' w hF (hS.inner (g.still S).fz (fun _ _ h=>.inl h) aA) ⟨hA.1.trans hl,fun i a x ha hx=>?_⟩).mono ?_
 ·have hi:i < eF.length:=by grind
  have Lo:=List.getElem?_eq_getElem hi;exact aF.pure (g:=g.still S) (g':=⟨g.ob,g.cp,fun _=>False,(g.still S).fz,g.fo⟩) (fun _ _ h=>h) (fun _ _ _=>rfl) ((hf i _ a Lo ha).rep hS (hA.2 i _ x Lo hx)) (hp a (List.mem_of_getElem? ha))
 ·rintro e w' ⟨g1,rfl,h4,h5⟩;obtain⟨hE,cZ⟩:=hS.outer (fun _ _ h=>.inl h) aA h4 h5;exact⟨_,rfl,cZ,hE⟩
theorem sI.Hv {f:FuncId}{args eF:List AV}(h:sI P w0 f args ch) (hp:dK args) {S:ae}(hf:eY S eF args):y8 P w0 f eF S ch S:=h.Sk hp.all S hf.len hf.at
theorem Sl {o:Oper}{c:Call}{f:Operand}{gf:FuncId}{args:List AV}(ho:o.op=.call c) (hc:c.callee=.value f)
  (hf:∀ (A:Nat->Prop) (g:Gh) (a:Act) (w:World),St w0 A g S w->bR g w n α a->∃ first cap,a.eval f=.func (.func gf) first cap/\jc g w args (first++c.args.map a.eval++cap)) (h:y8 P w0 gf args S ch S'):OpP P w0 n o α S ch S':=by
 intro F m A g a w next Q hF hS hA oC
 rw[Oper.semAt_eq _ _ _ (fun c' e=>by grind)];obtain⟨first,cap,he,hr⟩:=hf A g a w hS hA;have bZ:(execOp a.eval o).run P w=.ok (.enter gf (first++c.args.map a.eval++cap)) w:=by
  simp only[execOp,ho,resolve,hc,he,Deferred.ofValue,Sem.run_bind,Sem.run_pure,Result.andThen_ok,invoke];exact h.1 _ w
 rw[bZ,Oper.uponIn_enter];refine⟨fun hd=>(by rw[hF.2.1] at hd;cases hd),(h.2 F (m - 1) A g _ w hF hS hr).mono ?_⟩;rintro e w' ⟨g',rfl,h2,h3⟩;exact oC w' g' h2 h3
theorem tz.call {f:QO}{aZ9:List QO}{g:FuncId}{args:List AV}(h:dW (f.ev α.tm) (aZ9.map (·.ev α.tm))=some (g,args)) (hc:y8 P w0 g args S ch S'):tz P w0 (.call f aZ9) α S ch S':=by
 intro n o hr;obtain⟨c,u,ho,hu,rfl,rfl⟩:=kF hr;rw[iF,aI] at h;unfold dW at h;refine Sl ho hu (fun A g' a w hS hA=>?_) hc;have h1:=hA.ev u;split at h
 ·rename_i g2 x y he;split at h
  ·rename_i e1 e2;injection h with h;injection h with h3 h4;subst h3 h4;rw[he] at h1;have e3:x=#[]:=by grind
   have e4:y=#[]:=by grind
   subst e3 e4;refine⟨#[],#[],bI h1,?_⟩;rw[Array.empty_append,Array.append_empty];exact oN hA c.args
  ·grind
 ·rename_i g2 x y he;injection h with h;injection h with h3 h4;subst h3 h4;rw[he] at h1;obtain⟨cs,ds,h5,h6,h7⟩:=vN h1;exact⟨cs,ds,h5,il (il h6 (oN hA c.args)) h7⟩
 ·grind
theorem tz.aw {f:QO}{aZ9:List QO}{g:FuncId}{args eF:List AV}(h:dW (f.ev α.tm) (aZ9.map (·.ev α.tm))=some (g,eF)) (hc:sI P w0 g args ch) (hp:dK args) (hf:eY S eF args):tz P w0 (.call f aZ9) α S ch S:=tz.call h (hc.Hv hp hf)
theorem ad.y9 (hw:bm α.tm i.g=some true) (h:tz P w0 i.q α S ch S') (k:ad P w0 rd n Q (.out (.panic ch) K) α S'):ad P w0 rd n Q (.aN false (i::l) K) α S:=eX.y9 hw h k
def toV:AV->Option Value
 |.v x=>some x
 |.agg l=>match toVs l with|some cs=>some (.agg cs.toArray)|none=>none
 |_=>none
where toVs:List AV->Option (List Value)
 |[]=>some []
 |a::l=>match toV a,toVs l with|some x,some cs=>some (x::cs)|_,_=>none
theorem toVs_at:∀ {l:List AV}{cs:List Value},toV.toVs l=some cs->cs.length=l.length/\∀ (i:Nat) (a:AV),l[i]?=some a->∃ x,cs[i]?=some x/\toV a=some x
 |[],cs,h=>by
  simp only[toV.toVs,oI_] at h;subst h;exact⟨rfl,fun i a h=>by grind⟩
 |a::l,cs,h=>by
  simp only[toV.toVs] at h;split at h
  ·rename_i x cs' h1 h2;obtain rfl:=oJ_ h;obtain⟨k1,k2⟩:=toVs_at h2;refine⟨by grind,fun i b hb=>?_⟩;cases i with
   |zero=>simp at hb;subst hb;exact⟨x,rfl,h1⟩
   |succ i=>simp at hb;simpa using k2 i b hb
  ·grind
theorem vV {g:Gh}{w:World}{a:AV}{y:Value}(hr:aF g w a y):∀ {x:Value},toV a=some x->y=x:=by
 induction hr with
 |v=>intro x h;simp only[toV,oI_] at h;exact h
 |@agg l cs hs h ih =>
  intro x hx;simp only[toV] at hx;split at hx
  ·rename_i cs' hc;obtain rfl:=oJ_ hx;obtain⟨k1,k2⟩:=toVs_at hc;congr 1;apply Array.ext
   ·grind
   ·intro i h1 h2;have hi:i < l.length:=by grind
    obtain⟨x,e1,e2⟩:=k2 i _ (List.getElem?_eq_getElem hi);have e3:=ih i _ _ (List.getElem?_eq_getElem hi) (Array.getElem?_eq_getElem h1) e2;rw[e3];have:=(List.getElem?_eq_some_iff.1 e1);simp[<-this.2]
  ·grind
 |_=>intro x h;simp[toV] at h
theorem Sm {o:Op}{t:Nat}{x:QO}(h:res P.toTables o=some (.EK t x)):∃ u,o=.makeInterface t u/\x=qo u:=by
 cases o with
 |makeInterface t' u =>
  simp only[res,oI_] at h;injection h with h1 h2;subst h1;exact⟨u,rfl,h2.symm⟩
 |_ =>
  simp only[res] at h
  repeat' split at h
  all_goals cases h
def isIf (T:Tables) (t:TypeId):Bool:=match eZ T t with|some (.interface _)=>true|some _=>false|none=>true
theorem af.EK {t:Nat}{x:QO}{v:Value}(hx:toV (x.ev α.tm)=some v) (ht:isIf P.toTables t=false):af P w0 false (.EK t x) α S (.v (.iface t v)) S:=by
 refine af.run fun n o hr=>?_;obtain⟨u,ho,rfl⟩:=Sm hr;rw[aI] at hx;refine aQ.quiet fun A g a w hS hA=>⟨.iface t v,?_,.v⟩;have e:=vV (hA.ev u) hx;unfold isIf at ht;rw[bE] at ht;simp only[execOp,ho,e,Instr.makeInterface];cases hu:P.underlying t with
 |none=>rw[hu] at ht;cases ht
 |some d =>
  have Y8:(underlying t).run P w=.ok d w:=by simp[underlying,hu]
  rw[hu] at ht;cases d<;>simp_all
theorem WK {o:Op}{x:QO}(h:res P.toTables o=some (.y9 x)):∃ u,o=.panic u/\x=qo u:=by
 cases o with
 |panic u =>
  simp only[res,oI_] at h;injection h with h1;exact⟨u,rfl,h1.symm⟩
 |_ =>
  simp only[res] at h
  repeat' split at h
  all_goals cases h
theorem tz.y9 {x:QO}{t:TypeId}{v:Value}(hx:x.ev α.tm=.v (.iface t v)):tz P w0 (.y9 x) α S [{ v:=.iface t v,recovered:=false }] S:=by
 intro n o hr;obtain⟨u,ho,rfl⟩:=WK hr;rw[aI] at hx;intro F m A g a w next Q hF hS hA oC
 rw[Oper.semAt_eq _ _ _ (fun c' e=>by grind)];have e:=hA.ev u;rw[hx] at e;have e:=bI e;have bZ:(execOp a.eval o).run P w=.halt (.panic (.iface t v)) w:=by
  simp[execOp,ho,e,Instr.panic,goPanic]
 rw[bZ,Oper.uponIn_panic];exact oC w g hS (Ext.refl ..)
def y_ (qs:List QR) (R:AV->ae->Prop) (E:List PanicEntry->ae->Prop) (ex:Exit) (α:AA) (S:ae):Prop:=match ex with
 |.panic ch=>α.df=[]/\E ch S
 |ex=>nS qs R ex α S
theorem ad.za {qs:List QR}{R:AV->ae->Prop}{E:List PanicEntry->ae->Prop}(he:CK ex=true) (h:yw qs ex α S=some (r,S')) (k:R r S'):ad P w0 rd n (y_ qs R E) (.out ex []) α S:=by
 show y_ qs R E ex α S;cases ex<;>first|exact⟨r,S',h,k⟩|cases he
theorem ad.Y9 {qs:List QR}{R:AV->ae->Prop}{E:List PanicEntry->ae->Prop}(hd:α.df=[]) (k:E ch S):ad P w0 rd n (y_ qs R E) (.out (.panic ch) []) α S:=⟨hd,k⟩
theorem y8.Y_ {f:FuncId}{fn:Func}{c:Code}{args:List AV}(hf:P.funcs[f]?=some fn) (hb:fn.body=some c) (hc:∀ (xs:Array Value) (w:World),(callFunc f xs).run P w=.ok (.enter f xs) w)
  (hn:fn.ntmps=n) (bj:args.length<=n) (hd:au.df=[]) (h:cC P w0 false n c ⟨kG args,[]⟩ S (.panic ch) au S'):y8 P w0 f args S ch S':=by
 refine⟨hc,fun F m A g args' w hF hS hA=>?_⟩;have key:CallsIn F.plain m P f args' w fun e w'=>∃ g',e=.panicked ch/\St w0 A g' S' w'/\Ext A g w g' w':=by
  refine callsIn_of_wp_marks hf hb (hF.1 f) ?_ rfl;rw[hn];refine wpIn_mono (h F.plain m A g _ w hF.plain rfl hS (w8 hA bj)) ?_;rintro ex' a' w' ⟨rfl,g',h1,h2,h3⟩;show LeavesInM F.plain m P fn a'.tmps _ a'.defers (.panicking ch) w';rw[h2.df,hd];exact⟨g',rfl,h1,h3⟩
 exact key
theorem mK.U_ {f:FuncId}{q:QC × List QR}{args:List AV}{b:Bool}(F:mK P f q n) (bj:args.length<=n) (hp:Pure r) (h:ad P w0 false n (y_ q.2 (fun r' S=>b=true/\aR S r' r) (fun Bv S=>b=false/\Bv=ch)) (.run q.1 []) ⟨kG args,[]⟩ ae.none_) :
  (b=true->ah P w0 f args r)/\(b=false->sI P w0 f args ch):=by
 obtain⟨fn,c,hf,hb,hn,hr,hq,hd,hc⟩:=F.out;obtain⟨ex,au,S',h1,h2⟩:=h c hq hd;have h2:y_ q.2 (fun r' S=>b=true/\aR S r' r) (fun Bv S=>b=false/\Bv=ch) ex au S':=h2;have nrm:nS q.2 (fun r' S=>b=true/\aR S r' r) ex au S'->(b=true->ah P w0 f args r)/\(b=false->sI P w0 f args ch):=fun h3=>by
  obtain⟨r',S1,h4,h5,h6⟩:=h3;have h7:nS q.2 (fun r' S=>aR S r' r) ex au S':=⟨r',S1,h4,h6⟩;exact⟨fun _=>ah.of_wp hf hb hc hn bj hp ⟨ex,au,S',h1,yz hr h7⟩,fun e=>absurd (h5.symm.trans e) (by simp)⟩
 cases ex with
 |panic Bv =>
  obtain⟨k1,k2,rfl⟩:=h2;exact⟨fun e=>absurd (k2.symm.trans e) (by simp),fun _=>⟨S',y8.Y_ hf hb hc hn bj k1 h1⟩⟩
 |_=>exact nrm h2
def Hc (P:Program) (w0:World) (f:FuncId) (args:List AV) (b:Bool) (r:AV) (ch:List PanicEntry):Prop:=(b=true->ah P w0 f args r)/\(b=false->sI P w0 f args ch)
theorem ad.AP {b:Bool}{d:Option Nat}{gd:Option (Nat × Bool)}{f:QO}{aZ9:List QO}{g:FuncId}{args eF:List AV}(hw:bm α.tm gd=some true) (h:dW (f.ev α.tm) (aZ9.map (·.ev α.tm))=some (g,eF)) (hc:Hc P w0 g args b r ch) (hp:dK args) (hs:s_ r) (hf:eY S eF args)
  (k1:b=true->ad P w0 rd n Q (.aN false l K) (bC d α r) S) (k2:b=false->ad P w0 rd n Q (.out (.panic ch) K) α S):ad P w0 rd n Q (.aN false (⟨d,gd,.call f aZ9⟩::l) K) α S:=by
 cases b with
 |true=>exact ad.op hw (af.Az h (hc.1 rfl) hp hs hf) (k1 rfl)
 |false=>exact ad.y9 hw (tz.aw h (hc.2 rfl) hp hf) (k2 rfl)
end
end Go.Proofs.YtbpabjmnhggajaaGreat
