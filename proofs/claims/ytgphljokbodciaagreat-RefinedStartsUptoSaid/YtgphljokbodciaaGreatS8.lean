import Derived.Laws.BytesString
import Derived.Test.YtgphljokbodciaaGreatS7
namespace Go.Proofs.YtgphljokbodciaaGreat
set_option linter.unusedVariables false
set_option linter.unusedSimpArgs false
open Go.RowKit
section
variable {P:Program}{w0:World}{n:Nat}{o:Op}{α:AA}{S S':ae}{r:AV}{q:dz}{dr:Bool}
theorem UE {op:BinOp}{isB:BK}{t:TypeId}{a b:AV}{e:Bool}(hB:isB=.b->P.underlying t=some .bool) (h:Hs op isB a b=some e):∃ x y,a=.v x/\b=.v y/\px P op t x y=some (.bool e)/\(∀ k i j,x=.int k i->y=.int k j->arith op i j=none)/\(∀ s s',x=.string s->y=.string s'->op ≠ .add):=by
 unfold Hs at h
 split at h
 ·rename_i k a k' b
  split at h
  ·rename_i hk
   refine⟨_,_,rfl,rfl,?_,?_,fun s s' h=>by cases h⟩
   ·simp only [px,hk]
    cases op<;>simp only [Option.some.injEq,reduceCtorEq] at h ⊢<;>subst h<;>rfl
   ·intro k i j h1 h2
    cases op<;>simp only [reduceCtorEq] at h<;>rfl
  ·cases h
 ·rename_i a b
  refine⟨_,_,rfl,rfl,?_,(fun k i j h=>by cases h),fun s s' h1 h2 he=>?_⟩
  ·simp only [px]
   cases op<;>simp only [Option.some.injEq,reduceCtorEq] at h ⊢<;>subst h<;>rfl
  ·subst he;simp at h
 ·rename_i a b
  refine⟨_,_,rfl,rfl,?_,(fun k i j h=>by cases h),fun s s' h=>by cases h⟩
  split at h
  ·simp only [px,hB rfl];simp only [Option.some.injEq] at h;subst h;rfl
  ·simp only [px,hB rfl];simp only [Option.some.injEq] at h;subst h;rfl
  ·cases h
 ·cases h
theorem qn {op:BinOp}{isB:BK}{x y:QO}(h:res P.toTables o=some (.bin op isB x y)):∃ t u v s,o=.binOp op t u v s/\x=qo u/\y=qo v/\(isB=.b->P.underlying t=some .bool):=by
 cases o with
 |binOp op' t u v s =>
  simp only [res,b_] at h
  split at h
  ·rename_i hu
   injection h with h;injection h with h1 h2 h3 h4
   subst h1 h2 h3 h4
   exact⟨_,_,_,_,rfl,rfl,rfl,fun _=>hu⟩
  ·injection h with h;injection h with h1 h2 h3 h4
   subst h1 h2 h3 h4
   exact⟨_,_,_,_,rfl,rfl,rfl,fun h=>by cases h⟩
  ·split at h<;>cases h
  ·injection h with h;injection h with h1 h2 h3 h4
   subst h1 h2 h3 h4
   exact⟨_,_,_,_,rfl,rfl,rfl,fun h=>by cases h⟩
 |_ =>
  simp only [res] at h
  repeat' split at h
  all_goals cases h
theorem ad.bit {op:BinOp}{isB:BK}{x y:QO}{e:Bool}(h:Hs op isB (x.ev α.tm) (y.ev α.tm)=some e):ad P w0 dr (.bin op isB x y) α S (.v (.bool e)) S:=by
 refine ad.of rfl fun o hr=>?_
 obtain⟨t,u,v,s,rfl,rfl,rfl,hB⟩:=qn hr
 rw [aU,aU] at h
 obtain⟨x,y,h1,h2,h3,h4,h5⟩:=UE hB h
 simp only [bm,h1,h2]
 split
 ·rename_i k a k' b e1 e2
  injection e1 with e1;injection e2 with e2
  subst e1 e2
  split
  ·rename_i c hc
   split
   ·rename_i hk
    have:k=k':=of_decide_eq_true hk
    subst this
    rw [h4 _ _ _ rfl rfl] at hc;cases hc
   ·rename_i hk
    simp only [px] at h3
    rw [hk] at h3
    simp at h3
  ·rw [h3];exact qT.mk ⟨rfl,rfl⟩
 ·rename_i a b e1 e2
  injection e1 with e1;injection e2 with e2
  subst e1 e2
  have h6:=h5 _ _ rfl rfl
  split
  ·exact absurd rfl h6
  ·rw [h3];exact qT.mk ⟨rfl,rfl⟩
 ·rename_i a b ha hb e1 e2
  injection e1 with e1;injection e2 with e2
  subst e1 e2
  rw [h3];exact qT.mk ⟨rfl,rfl⟩
 ·rename_i h7 h8 h9
  exact absurd rfl (h9 x y rfl)
theorem ad.ari {op:BinOp}{isB:BK}{x y:QO}{k:IntKind}{a b c:Int}(h1:x.ev α.tm=.v (.int k a)) (h2:y.ev α.tm=.v (.int k b)) (h:arith op a b=some c):ad P w0 dr (.bin op isB x y) α S (.v (.int k (k.wrap c))) S:=by
 refine ad.of rfl fun o hr=>?_
 obtain⟨t,u,v,s,rfl,rfl,rfl,hB⟩:=qn hr
 rw [aU] at h1 h2
 simp only [bm,h1,h2,h,decide_true]
 exact⟨_,rfl,rfl,rfl⟩
theorem ad.cat {isB:BK}{x y:QO}{a b:ByteArray}(h1:x.ev α.tm=.v (.string a)) (h2:y.ev α.tm=.v (.string b)) (h:a.size+b.size<=9223372036854775807):ad P w0 dr (.bin .add isB x y) α S (.v (.string (a++b))) S:=by
 refine ad.of rfl fun o hr=>?_
 obtain⟨t,u,v,s,rfl,rfl,rfl,hB⟩:=qn hr
 rw [aU] at h1 h2
 simp only [bm,h1,h2]
 exact⟨h,rfl,rfl⟩
theorem ad.neg {x:QO}{k:IntKind}{a:Int}(h1:x.ev α.tm=.v (.int k a)):ad P w0 dr (.neg x) α S (.v (.int k (k.wrap (0 - a)))) S:=by
 refine ad.of rfl fun o hr=>?_
 cases o<;>simp only [res] at hr<;>(repeat' split at hr)<;>(try cases hr)
 rw [aU] at h1
 simp only [bm,h1]
 exact⟨_,rfl,rfl,rfl⟩
theorem ad.conv {x:QO}{k k':IntKind}{a:Int}(h1:x.ev α.tm=.v (.int k' a)):ad P w0 dr (.conv k x) α S (.v (.int k (k.wrap a))) S:=by
 refine ad.of rfl fun o hr=>?_
 cases o<;>simp only [res,b_] at hr<;>(repeat' split at hr)<;>(try cases hr)
 rename_i e1 e2
 rw [aU] at h1
 simp only [bm,h1,e1,e2]
 exact⟨_,rfl,rfl,rfl⟩
theorem ad.qf {x:QO}{a:ByteArray}(h1:x.ev α.tm=.v (.string a)):ad P w0 dr (.qf x) α S (.v (.string a)) S:=by
 refine ad.of rfl fun o hr=>?_
 cases o<;>simp only [res,b_] at hr<;>(repeat' split at hr)<;>(try cases hr)
 rename_i e1 e2
 rw [aU] at h1
 simp only [bm,h1,e1,e2]
 exact⟨rfl,rfl⟩
def e7 (f:AV) (args:List AV):Option (FuncId × List AV):=match f with
 |.v (.func (.func g) a b)=>match a.toList,b.toList with
  |[],[]=>some (g,args)
  |_,_=>none
 |.fn (.func g) first cap=>some (g,first++args++cap)
 |_=>none
theorem lj {f:QO}{args:List QO}(h:res P.toTables o=some (.call f args)):∃ c u,o=.call c/\c.callee=.value u/\f=qo u/\args=c.args.toList.map qo:=by
 cases o with
 |call c =>
  simp only [res] at h
  split at h
  ·rename_i u hu
   injection h with h;injection h with h1 h2
   exact⟨c,u,rfl,hu,h1.symm,h2.symm⟩
  ·repeat' split at h
   all_goals cases h
  ·cases h
 |_ =>
  simp only [res] at h
  repeat' split at h
  all_goals cases h
theorem lO {l:List Operand}:(l.map qo).map (·.ev α.tm)=l.map α.ev:=by
 rw [List.map_map]
 exact List.map_congr_left fun x _=>aU x
theorem ad.call {f:QO}{aZ9:List QO}{g:FuncId}{args:List AV}(h:e7 (f.ev α.tm) (aZ9.map (·.ev α.tm))=some (g,args)) (hc:aV P w0 g args S r S') (hd:dr=true->S'=S):ad P w0 dr (.call f aZ9) α S r S':=by
 cases dr with
 |false =>
  intro n o hr
  refine eB.Bc ?_
  obtain⟨c,u,ho,hu,rfl,rfl⟩:=lj hr
  rw [lO,aU] at h
  unfold e7 at h
  rw [ho]
  simp only [bm,hu]
  split at h
  ·rename_i g' a b he
   split at h
   ·rename_i e1 e2
    injection h with h;injection h with h1 h2
    subst h1 h2
    simp only [wD,he,e1,e2]
    exact⟨r,S',hc,rfl,rfl⟩
   ·cases h
  ·rename_i g' a b he
   injection h with h;injection h with h1 h2
   subst h1 h2
   simp only [wD,he]
   exact⟨r,S',hc,rfl,rfl⟩
  ·cases h
 |true =>
  intro n o hr
  refine GM.ofD ?_
  obtain⟨c,u,ho,hu,rfl,rfl⟩:=lj hr
  rw [lO,aU] at h
  unfold e7 at h
  obtain rfl:=hd rfl
  rw [ho]
  simp only [og,hu]
  split at h
  ·rename_i g' a b he
   split at h
   ·rename_i e1 e2
    injection h with h;injection h with h1 h2
    subst h1 h2
    simp only [zY,he,e1,e2]
    exact⟨r,hc,rfl,rfl⟩
   ·cases h
  ·rename_i g' a b he
   injection h with h;injection h with h1 h2
   subst h1 h2
   simp only [zY,he]
   exact⟨r,hc,rfl,rfl⟩
  ·cases h
def Nq (str:Bool):AV->Option Nat
 |.sl _ rows=>match str with|false=>some rows.length|true=>none
 |.ob _ _ _ len _=>match str with|false=>some len|true=>none
 |.v (.string s)=>match str with|true=>some s.size|false=>none
 |_=>none
theorem ad.len {str:Bool}{x:QO}{m:Nat}(h:Nq str (x.ev α.tm)=some m):ad P w0 dr (.len str x) α S (.v (.int .i64 m)) S:=by
 refine ad.of rfl fun o hr=>?_
 cases o<;>simp only [res,b_] at hr<;>(repeat' split at hr)<;>(try cases hr)
 all_goals
  rw [aU] at h
  simp only [bm,lu,List.map_cons,List.map_nil, *]
  refine bp.mk (a:=m) ?_ ⟨rfl,rfl⟩
  unfold lenOf
  unfold Nq at h
  split at h<;>(try split at h)<;>(try cases h)<;>first|contradiction|simp only [isStr,l_, *]
theorem ad.ind {m:Nat}{x i:QO}{ex:Bool}{rows:List (List AV)}{row:List AV}{k:IntKind}{j:Int}(h1:x.ev α.tm=.sl ex rows) (h2:i.ev α.tm=.v (.int k j)) (h3:idx rows j=some row) (h4:∀ r ∈ rows,r.length=m):ad P w0 dr (.r_ m x i) α S (.ip row) S:=by
 refine ad.of rfl fun o hr=>?_
 cases o<;>simp only [res,b_,ec] at hr<;>(repeat' split at hr)<;>(try cases hr)
 rw [aU] at h1 h2
 simp only [bm, *]
 exact bp.mk rfl ⟨h4,rfl,rfl⟩
theorem ad.afE {m:Nat}{x i:QO}{k off len:Nat}{cx:Option Nat}{ik:IntKind}{j:Int}(h1:x.ev α.tm=.ob k m off len cx) (h2:i.ev α.tm=.v (.int ik j)) (h3:0<=j) (h4:j < len):ad P w0 dr (.r_ m x i) α S (.pt k m (off+j.toNat) 0) S:=by
 refine ad.of rfl fun o hr=>?_
 cases o<;>simp only [res,b_,ec] at hr<;>(repeat' split at hr)<;>(try cases hr)
 rw [aU] at h1 h2
 rename_i e1 _ e2
 simp only [bm,h1,h2,e1,e2]
 exact⟨trivial,h3,h4,rfl,rfl⟩
theorem ad.CT {x i:QO}{s:ByteArray}{ik:IntKind}{j:Int}{b:UInt8}(h1:x.ev α.tm=.v (.string s)) (h2:i.ev α.tm=.v (.int ik j)) (h3:idx s.data.toList j=some b):ad P w0 dr (.vv x i) α S (.v (.int .u8 b.toNat)) S:=by
 refine ad.of rfl fun o hr=>?_
 cases o<;>simp only [res,b_,ec] at hr<;>(repeat' split at hr)<;>(try cases hr)
 rw [aU] at h1 h2
 simp only [bm, *]
 exact bp.mk rfl ⟨rfl,rfl⟩
theorem ad.min {x y:QO}{k:IntKind}{a b:Int}(h1:x.ev α.tm=.v (.int k a)) (h2:y.ev α.tm=.v (.int k b)):ad P w0 dr (.min x y) α S (.v (.int k (min a b))) S:=by
 refine ad.of rfl fun o hr=>?_
 cases o<;>simp only [res,b_] at hr<;>(repeat' split at hr)<;>(try cases hr)
 rw [aU] at h1 h2
 simp only [bm,lu,List.map_cons,List.map_nil,decide_true, *]
 exact⟨rfl,rfl⟩
theorem ad.max {x y:QO}{k:IntKind}{a b:Int}(h1:x.ev α.tm=.v (.int k a)) (h2:y.ev α.tm=.v (.int k b)):ad P w0 dr (.max x y) α S (.v (.int k (max a b))) S:=by
 refine ad.of rfl fun o hr=>?_
 cases o<;>simp only [res,b_] at hr<;>(repeat' split at hr)<;>(try cases hr)
 rw [aU] at h1 h2
 simp only [bm,lu,List.map_cons,List.map_nil,decide_true, *]
 exact⟨rfl,rfl⟩
end
section
variable {P:Program}{w0:World}{rd:Bool}{n:Nat}{α aB:AA}{S S':ae}{Q:Exit->AA->ae->Prop}{ex:Exit}{r:AV}{i:QI}{l:List QI}{K:List iq}{dr:Bool}{cf qF:QF}
theorem ab.op (hw:cb α.tm i.g=some true) (h:ad P w0 dr i.q α S r S') (k:ab P w0 rd n Q (.bz dr l K) (cG i.d α r) S'):ab P w0 rd n Q (.bz dr (i::l) K) α S:=eg.op hw h k
theorem ab.bif {e:Bool}(hw:cb α.tm i.g=some true) (h:ad P w0 dr i.q α S (.v (.bool e)) S') (k1:e=true->ab P w0 rd n Q (.bz dr l K) (cG i.d α (.v (.bool true))) S') (k2:e=false->ab P w0 rd n Q (.bz dr l K) (cG i.d α (.v (.bool false))) S') :
  ab P w0 rd n Q (.bz dr (i::l) K) α S:=by
 refine eg.op hw h ?_
 cases e with
 |true=>exact k1 rfl
 |false=>exact k2 rfl
theorem ab.int {ik:IntKind}{e:Int}(hw:cb α.tm i.g=some true) (h:ad P w0 dr i.q α S (.v (.int ik e)) S') (k:∀ d,d=e->ab P w0 rd n Q (.bz dr l K) (cG i.d α (.v (.int ik d))) S'):ab P w0 rd n Q (.bz dr (i::l) K) α S:=eg.op hw h (k e rfl)
theorem ab.str {e:ByteArray}(hw:cb α.tm i.g=some true) (h:ad P w0 dr i.q α S (.v (.string e)) S') (k:∀ d,d=e->ab P w0 rd n Q (.bz dr l K) (cG i.d α (.v (.string d))) S'):ab P w0 rd n Q (.bz dr (i::l) K) α S:=eg.op hw h (k e rfl)
theorem Td {c:Int}(h1:-9223372036854775808<=c) (h2:c<=9223372036854775807):IntKind.i64.wrap c=c:=wrap64 h1 h2
theorem ad.yH {op:BinOp}{isB:BK}{x y:QO}{a b c:Int}(h1:x.ev α.tm=.v (.int .i64 a)) (h2:y.ev α.tm=.v (.int .i64 b)) (h:arith op a b=some c) (hl:-9223372036854775808<=c) (hh:c<=9223372036854775807):ad P w0 dr (.bin op isB x y) α S (.v (.int .i64 c)) S:=by
 have:=ad.ari (P:=P) (w0:=w0) (S:=S) (dr:=dr) (isB:=isB) h1 h2 h
 rw [Td hl hh] at this
 exact this
theorem ad.UO {x:QO}{k':IntKind}{a:Int}(h1:x.ev α.tm=.v (.int k' a)) (hl:-9223372036854775808<=a) (hh:a<=9223372036854775807):ad P w0 dr (.conv .i64 x) α S (.v (.int .i64 a)) S:=by
 have:=ad.conv (P:=P) (w0:=w0) (S:=S) (dr:=dr) (k:=.i64) h1
 rw [Td hl hh] at this
 exact this
theorem ad.ag {f:QO}{aZ9:List QO}{g:FuncId}{args:List AV}(h:e7 (f.ev α.tm) (aZ9.map (·.ev α.tm))=some (g,args)) (hc:ah P w0 g args r) (hp:c_ args):ad P w0 dr (.call f aZ9) α S r S:=ad.call h (hc.AM hp S) fun _=>rfl
theorem ad.wv {f:QO}{aZ9:List QO}{g:FuncId}{args dN:List AV}(h:e7 (f.ev α.tm) (aZ9.map (·.ev α.tm))=some (g,dN)) (hc:ah P w0 g args r) (hp:c_ args) (hs:qH r) (hf:fE S dN args):ad P w0 dr (.call f aZ9) α S r S:=ad.call h (hc.CH hp hs hf) fun _=>rfl
def lpQ (P:Program) (w0:World) (rd:Bool) (n:Nat) (I:Nat->AA->ae->Prop) (Q:Exit->AA->ae->Prop) (K:List iq) (k:Nat):Exit->AA->ae->Prop :=
 fun ex α S=>match ex with|.normal=>∃ j,j < k/\I j α S|e=>ab P w0 rd n Q (.out e K) α S
def LpI {σ:Type}(st:σ->List (Nat × AV)) (ds:List DE) (so:σ->ae) (I:σ->Prop) (μ:σ->Nat) (k:Nat) (α:AA) (S:ae):Prop:=∃ s,I s/\μ s=k/\α.has (st s)/\α.df=ds/\S=so s
def jK (f:Nat->AV):List (Nat × AV)->Nat->AV
 |[]=>f
 |p::l=>bP (jK f l) p.1 p.2
theorem ab.next {σ:Type}{st:σ->List (Nat × AV)}{ds:List DE}{so:σ->ae}{I:σ->Prop}{μ:σ->Nat}{k:Nat}(s:σ) (hI:I s) (hk:μ s < k) (h:α.has (st s)) (hd:α.df=ds) (hS:S=so s) :
  ab P w0 rd n (lpQ P w0 rd n (LpI st ds so I μ) Q K k) (.out .normal []) α S:=⟨μ s,hk,s,hI,rfl,h,hd,hS⟩
inductive QR where
 |t (n:Nat)
 |cell (k:LK) (n:Nat)
def sU (T:Tables):List ResultVar->Option (List QR)
 |[]=>some []
 |.tmp n::l=>match sU T l with
  |some l'=>some (.t n::l')
  |none=>none
 |.cell n t::l=>match EE T t,sU T l with
  |some k,some l'=>some (.cell k n::l')
  |_,_=>none
def mE (f:Nat->AV) (S:ae):List QR->Option (List AV)
 |[]=>some []
 |.t n::l=>match mE f S l with
  |some l'=>some (f n::l')
  |none=>none
 |.cell k n::l=>match lB k S (f n),mE f S l with
  |some a,some l'=>some (a::l')
  |_,_=>none
def tL (qs:List QR) (ex:Exit) (α:AA) (S:ae):Option (AV × ae):=match Cg ex,vT S α.df with
 |true,true=>match mE α.tm (iV S α.df) qs with
  |some [a]=>some (a,iV S α.df)
  |some l=>some (.bc l,iV S α.df)
  |none=>none
 |_,_=>none
def nr (qs:List QR) (R:AV->ae->Prop) (ex:Exit) (α:AA) (S:ae):Prop:=∃ r S',tL qs ex α S=some (r,S')/\R r S'
theorem OT {l:List ResultVar}:∀ {qs:List QR}{m:List AV},sU P.toTables l=some qs->mE α.tm S qs=some m->vY P α S l=some m:=by
 induction l with
 |nil=>intro qs m h k;obtain rfl:=Option.some.inj h;exact k
 |cons v l ih =>
  intro qs m h k
  cases v with
  |tmp n =>
   simp only [sU] at h
   split at h
   ·rename_i l' hl
    obtain rfl:=Option.some.inj h
    simp only [mE] at k
    split at k
    ·rename_i m' hm
     obtain rfl:=Option.some.inj k
     simp only [vY,J5,ih hl hm]
    ·cases k
   ·cases h
  |cell n t =>
   simp only [sU] at h
   split at h
   ·rename_i lk l' hk hl
    obtain rfl:=Option.some.inj h
    simp only [mE] at k
    split at k
    ·rename_i a m' ha hm
     obtain rfl:=Option.some.inj k
     rw [<-B7 hk] at ha
     simp only [vY,J5,ha,ih hl hm]
    ·cases k
   ·cases h
theorem u5 {rs:Array ResultVar}{qs:List QR}{R:AV->ae->Prop}(hr:sU P.toTables rs.toList=some qs) (h:nr qs R ex α S):Ek P rs R ex α S:=by
 obtain⟨r,S',h,k⟩:=h
 unfold tL at h
 split at h
 ·rename_i he hd
  have key:∀ m,mE α.tm (iV S α.df) qs=some m->vY P α (iV S α.df) rs.toList=some m:=fun m hm=>OT hr hm
  unfold Ek
  rw [hd]
  have fin:yw P rs α (iV S α.df)=some r/\iV S α.df=S':=by
   split at h
   ·rename_i a hq
    injection h with h;injection h with h1 h2
    subst h1
    exact⟨by unfold yw;rw [key _ hq],h2⟩
   ·rename_i l bH hq
    injection h with h;injection h with h1 h2
    subst h1
    refine⟨?_,h2⟩
    unfold yw
    rw [key _ hq]
    split
    ·rename_i e;injection e with e;subst e;exact (bH _ rfl).elim
    ·rename_i e;injection e with e;subst e;rfl
    ·rename_i e;cases e
   ·cases h
  rw [fin.1,fin.2]
  cases ex<;>first|exact k|cases he
 ·cases h
theorem ab.fin {qs:List QR}{R:AV->ae->Prop}(h:tL qs ex α S=some (r,S')) (k:R r S'):ab P w0 rd n (nr qs R) (.out ex []) α S:=⟨r,S',h,k⟩
structure aD (P:Program) (f:FuncId) (q:QC × List QR) (n:Nat):Prop where
 out:∃ fn c,P.funcs[f]?=some fn/\fn.body=some c/\fn.ntmps=n/\sU P.toTables fn.results.toList=some q.2/\comp P.toTables n c=some q.1/\cM P c=true/\∀ (xs:Array Value) (w:World),(callFunc f xs).run P w=.ok (.enter f xs) w
def Ci (T:Tables) (fn:Func):Option (QC × List QR):=match fn.body with
 |some c=>match comp T fn.ntmps c,sU T fn.results.toList with
  |some q,some qs=>some (q,qs)
  |_,_=>none
 |none=>none
def yI (P:Program) (fn:Func):Bool:=match fn.body with|some c=>cM P c|none=>false
theorem aD.of {f:FuncId}{q:QC × List QR}{fn:Func}{T:Tables}(hf:P.funcs[f]?=some fn) (hq:Ci T fn=some q) (hT:P.toTables=T) (hn:fn.ntmps=n) (hd:yI P fn=true)
  (hc:∀ (xs:Array Value) (w:World),(callFunc f xs).run P w=.ok (.enter f xs) w):aD P f q n:=by
 subst hT
 unfold Ci at hq
 unfold yI at hd
 cases hb:fn.body with
 |none=>rw [hb] at hq;cases hq
 |some c =>
  rw [hb] at hq hd
  simp only at hq
  split at hq
  ·rename_i q1 qs h1 h2
   obtain rfl:=Option.some.inj hq
   exact⟨⟨fn,c,hf,hb,hn,h2,by rw [<-hn];exact h1,hd,hc⟩⟩
  ·cases hq
theorem ab.mono {Q':Exit->AA->ae->Prop}(hm:∀ ex α S,Q ex α S->Q' ex α S) {c:QC}(h:ab P w0 rd n Q (.run c []) α S):ab P w0 rd n Q' (.run c []) α S:=by
 intro c0 hc hd
 obtain⟨ex,aB,S',h1,h2⟩:=h c0 hc hd
 exact⟨ex,aB,S',h1,hm _ _ _ h2⟩
theorem aD.aH {f:FuncId}{q:QC × List QR}{args:List AV}(F:aD P f q n) (bD:args.length<=n) (hp:Pure r) (h:ab P w0 false n (nr q.2 fun r' S=>aX S r' r) (.run q.1 []) ⟨kP args,[]⟩ ae.none_):ah P w0 f args r:=by
 obtain⟨fn,c,hf,hb,hn,hr,hq,hd,hc⟩:=F.out
 exact ah.of_wp hf hb hc hn bD hp (ab.mono (fun ex α S=>u5 hr) h c hq hd)
theorem aD.A7 {f:FuncId}{q:QC × List QR}{args:List AV}{R:AV->ae->Prop}(F:aD P f q n) (bD:args.length<=n) (h:ab P w0 false n (nr q.2 R) (.run q.1 []) ⟨kP args,[]⟩ S):∃ r S',aV P w0 f args S r S'/\R r S':=by
 obtain⟨fn,c,hf,hb,hn,hr,hq,hd,hc⟩:=F.out
 exact aV.of_wp hf hb hc hn bD (ab.mono (fun ex α S=>u5 hr) h c hq hd)
theorem aX.of_eq {S:ae}{a b:AV}(h:a=b):aX S a b:=by subst h;exact aX.refl _
end
structure Hd where
 h:{α β:Type}->(α->β)->α->β
 eq:∀ {α β:Type}(f:α->β) (a:α),h f a=f a
def Hd.plain:Hd:=⟨fun f a=>f a,fun _ _=>rfl⟩
def bY (ρ:Hd) {T:Type}(f:T->List AV) (ex:Bool) (l:List T):AV:=.sl ex (ρ.h (List.map f) l)
section
variable {ρ:Hd}{T:Type}{f:T->List AV}{l:List T}{ex:Bool}
theorem dE:bY ρ f ex l=.sl ex (l.map f):=by rw [bY,ρ.eq]
theorem af:(ρ.h (List.map f) l).length=l.length:=by rw [ρ.eq,List.length_map]
theorem ay {i:Int}{k:Nat}{x:T}(hi:i=(k:Int)) (h:l[k]?=some x):idx (ρ.h (List.map f) l) i=some (f x):=by
 rw [ρ.eq]
 exact UC hi h
theorem aw {m:Nat}(h:∀ x,(f x).length=m):∀ r ∈ ρ.h (List.map f) l,r.length=m:=by
 rw [ρ.eq]
 intro r hr
 obtain⟨x,_,rfl⟩:=List.mem_map.1 hr
 exact h x
theorem e9 (h:∀ x ∈ l,∀ a ∈ f x,Pure a):Pure (bY ρ f ex l):=by
 rw [dE]
 refine .sl fun row hr a ha=>?_
 obtain⟨x,hx,rfl⟩:=List.mem_map.1 hr
 exact h x hx a ha
end
inductive cD (B:Nat):AV->Prop where
 |u:cD B .u
 |v {x:Value}:cD B (.v x)
 |agg {l:List AV}(h:∀ a ∈ l,cD B a):cD B (.agg l)
 |bc {l:List AV}(h:∀ a ∈ l,cD B a):cD B (.bc l)
 |sl {ex:Bool}{rows:List (List AV)}(h:∀ row ∈ rows,∀ a ∈ row,cD B a):cD B (.sl ex rows)
 |ip {cs:List AV}(h:∀ a ∈ cs,cD B a):cD B (.ip cs)
 |ob {k sz off len:Nat}{cx:Option Nat}(h:k < B):cD B (.ob k sz off len cx)
 |pt {k sz i j:Nat}(h:k < B):cD B (.pt k sz i j)
 |mp {k:Nat}(h:k < B):cD B (.mp k)
 |yl {k:Nat}(h:k < B):cD B (.yl k)
 |gr {k sz len:Nat}(h:k < B):cD B (.gr k sz len)
 |fn {f:Fn}{l m:List AV}(h3:∀ a ∈ l,cD B a) (h4:∀ a ∈ m,cD B a):cD B (.fn f l m)
theorem Pure.bM {B:Nat}{a:AV}(h:Pure a):cD B a:=by
 induction h with
 |v=>exact .v
 |agg _ ih=>exact .agg ih
 |bc _ ih=>exact .bc ih
 |sl _ ih=>exact .sl ih
 |ip _ ih=>exact .ip ih
 |fn _ _ Dq yY=>exact .fn Dq yY
theorem aL.bM {g g':Gh}{w:World}{B:Nat}(bG:∀ k,k < B->g.al k->g'.al k) (gU:∀ k,k < B->g'.ob k=g.ob k) (m8:∀ k,k < B->g'.cp k=g.cp k) (hf:∀ b o,g.fz b o->g'.fz b o) {a:AV}{x:Value}(h:aL g w a x) (hp:cD B a) :
  aL g' w a x:=by
 induction h with
 |u=>exact .u
 |v=>exact .v
 |agg hs h ih=>cases hp with|agg hp=>exact .agg hs fun i a x h1 h2=>ih i a x h1 h2 (hp _ (List.mem_of_getElem? h1))
 |bc hs h ih=>cases hp with|bc hp=>exact .bc hs fun i a x h1 h2=>ih i a x h1 h2 (hp _ (List.mem_of_getElem? h1))
 |nil hc=>exact .nil hc
 |sl hn nm hle hl h hr ih =>
  cases hp with
  |sl hp =>
   exact .sl hn nm hle hl (fun i j row a h1 h2=>⟨hf _ _ (h i j row a h1 h2).1,(h i j row a h1 h2).2⟩)
    (fun i j row a h1 h2=>ih i j row a h1 h2 (hp _ (List.mem_of_getElem? h1) _ (List.mem_of_getElem? h2)))
 |ip h hr ih =>
  cases hp with
  |ip hp=>exact .ip (fun j a h1=>⟨hf _ _ (h j a h1).1,(h j a h1).2⟩) (fun j a h1=>ih j a h1 (hp _ (List.mem_of_getElem? h1)))
 |ob hk hc h1 hx hle=>cases hp with|ob hp=>rw [<-gU _ hp];exact .ob (bG _ hp hk) hc (by rw [m8 _ hp];exact h1) (by rw [m8 _ hp];exact hx) hle
 |pt hk=>cases hp with|pt hp=>rw [<-gU _ hp];exact .pt (bG _ hp hk)
 |mp hk=>cases hp with|mp hp=>rw [<-gU _ hp];exact .mp (bG _ hp hk)
 |yl hk=>cases hp with|yl hp=>rw [<-gU _ hp];exact .yl (bG _ hp hk)
 |iW=>exact .iW
 |gr hk hx hle=>cases hp with|gr hp=>rw [<-gU _ hp];exact .gr (bG _ hp hk) (by rw [m8 _ hp];exact hx) hle
 |fn h1 h2 h3 h4 Kq Kr =>
  cases hp with
  |fn hp hq=>exact .fn h1 h2 (fun i a x h1 h2=>Kq i a x h1 h2 (hp _ (List.mem_of_getElem? h1))) (fun i a x h1 h2=>Kr i a x h1 h2 (hq _ (List.mem_of_getElem? h1)))
def jF (B:Nat):Ob->Prop
 |.arr _ rows _ _=>∀ row ∈ rows,∀ a ∈ row,cD B a
 |.mp es=>∀ e ∈ es,cD B e.2
 |.mb es=>∀ e ∈ es,cD B e.2
 |.lp _ _ tm _ _ _=>∀ t,cD B (tm t)
 |.df=>True
 |.si _ _=>True
 |.fo _=>True
 |.un=>True
def dm (B:Nat) (f:Nat->Nat) (j:Nat):Nat:=match Nat.blt j B with|true=>j|false=>f j
theorem jW {B j:Nat}{f:Nat->Nat}(h:j < B):dm B f j=j:=by
 have:Nat.blt j B=true:=Nat.ble_eq_true_of_le h
 simp only [dm,this]
def Gh.e8 (g:Gh) (B N:Nat) (f:Nat->Nat):Gh:=⟨fun j=>g.ob (dm B f j),fun j=>g.cp (dm B f j),fun j=>j < N/\g.al (dm B f j),g.fz,g.fo⟩
section
variable {w0:World}{A:Nat->Prop}{g gs:Gh}{S S':ae}{w ws:World}{B:Nat}{f:Nat->Nat}
theorem aL.e8 {a:AV}{x:Value}{N:Nat}(hN:B<=N) (h:aL g w a x) (hp:cD B a):aL (g.e8 B N f) w a x:=by
 refine aL.bM (g:=g) (g':=g.e8 B N f) (B:=B) (fun k hk ha=>(⟨by omega,by rw [jW hk];exact ha⟩:k < N/\g.al (dm B f k))) (fun k hk=>?_) (fun k hk=>?_) (fun b o h=>h) h hp
 ·show g.ob (dm B f k)=g.ob k
  rw [jW hk]
 ·show g.cp (dm B f k)=g.cp k
  rw [jW hk]
theorem dF.e8 {b cp N:Nat}{o:Ob}(hN:B<=N) (h:dF g w b cp o) (hk:jF B o):dF (g.e8 B N f) w b cp o:=by
 cases o with
 |arr sz rows fz ex =>
  obtain⟨cs,ty,h1,h2,h3,h4,h5,h6,h7⟩:=h
  refine⟨cs,ty,h1,h2,h3,h4,fun i row hr=>⟨(h5 i row hr).1,fun j a ha=>?_⟩,h6,h7⟩
  obtain⟨x,hx,dO⟩:=(h5 i row hr).2 j a ha
  exact⟨x,hx,dO.e8 hN (hk _ (List.mem_of_getElem? hr) _ (List.mem_of_getElem? ha))⟩
 |mp es =>
  obtain⟨entries,clock,h1,h2,h3⟩:=h
  refine⟨entries,clock,h1,h2,fun i k a ha=>?_⟩
  obtain⟨e,he,ir,hr⟩:=h3 i k a ha
  exact⟨e,he,ir,hr.e8 hN (hk _ (List.mem_of_getElem? ha))⟩
 |mb es =>
  obtain⟨entries,h1,h2,h3,h4⟩:=h
  refine⟨entries,h1,h2,fun i k a ha=>?_,h4⟩
  obtain⟨e,he,ir,hr⟩:=h3 i k a ha
  exact⟨e,he,ir,hr.e8 hN (hk _ (List.mem_of_getElem? ha))⟩
 |lp st tI tm ps assign body =>
  obtain⟨L,h1,h2,h3,h4,h5,h6,h7,h8⟩:=h
  exact⟨L,h1,h2,h3,h4,h5,h6,fun t ht=>(h7 t ht).e8 hN (hk t),h8⟩
 |df=>exact h
 |si s pos=>exact h
 |fo J=>exact h
 |un=>exact h.elim
theorem St.e8 (hS:St w0 A g S w) (hN:B<=S'.nx) (iK:∀ j o,S'.get j=some o->(∃ cr,S.get (dm B f j)=some cr/\(∀ b cp,dF g w b cp cr->dF (g.e8 B S'.nx f) w b cp o)/\∀ J,o=.fo J->cr=.fo J)\/S.nx<=dm B f j)
  (xf:∀ i j o p,S'.get i=some o->S'.get j=some p->dm B f i=dm B f j->i=j):St w0 A (g.e8 B S'.nx f) S' w:=by
 have hs:∀ j o,S'.get j=some o->(g.e8 B S'.nx f).al j->∃ cr,S.get (dm B f j)=some cr/\(∀ b cp,dF g w b cp cr->dF (g.e8 B S'.nx f) w b cp o)/\∀ J,o=.fo J->cr=.fo J:=fun j o hj ha=>(iK j o hj).resolve_right fun h=>absurd (hS.al _ ha.2) (by omega)
 refine⟨hS.base,hS.up,hS.lo,fun k hk=>hk.1,fun k o hk ha=>?_,fun i j o p hi hj ai aj e=>?_,hS.cK,hS.nn,fun k J hk ha=>?_,fun k J j o hk ha hj aj bH=>?_,fun j k J J' hj hk aj ak=>?_⟩
 ·obtain⟨cr,h0,ht,_⟩:=hs k o hk ha
  obtain⟨h1,h2,h3⟩:=hS.cH _ cr h0 ha.2
  exact⟨h1,h2,ht _ _ h3⟩
 ·obtain⟨cr,h0,_⟩:=hs i o hi ai
  obtain⟨uI,h1,_⟩:=hs j p hj aj
  exact xf i j o p hi hj (hS.inj _ _ cr uI h0 h1 ai.2 aj.2 e)
 ·obtain⟨cr,h0,_,h1⟩:=hs k _ hk ha
  exact hS.iD _ J (by rw [<-h1 J rfl];exact h0) ha.2
 ·obtain⟨cr,h0,_,h1⟩:=hs k _ hk ha
  obtain⟨uI,h2,_⟩:=hs j _ hj aj
  exact hS.j2 _ J _ uI (by rw [<-h1 J rfl];exact h0) ha.2 h2 aj.2 (fun e=>bH (xf j k o _ hj hk e))
 ·obtain⟨cr,h0,_,h1⟩:=hs j _ hj aj
  obtain⟨uI,h2,_,h3⟩:=hs k _ hk ak
  exact xf j k _ _ hj hk (hS.me _ _ J J' (by rw [<-h1 J rfl];exact h0) (by rw [<-h3 J' rfl];exact h2) aj.2 ak.2)
theorem Ext.e8 {N:Nat}(hE:Ext A gs ws g w) (hN:B<=N) (hB:∀ k,gs.al k->k < B):Ext A gs ws (g.e8 B N f) w :=
 { al:=fun k hk=>⟨by have:=hB k hk;omega,by rw [jW (hB k hk)];exact hE.al k hk⟩
   ob:=fun k hk=>by show g.ob (dm B f k)=gs.ob k;rw [jW (hB k hk)];exact hE.ob k hk
   cp:=fun k hk=>by show g.cp (dm B f k)=gs.cp k;rw [jW (hB k hk)];exact hE.cp k hk
   fz:=hE.fz
   cell:=hE.cell
   size:=hE.size
   aT:=hE.aT
   gH:=hE.gH }
end
def bX:List (Nat × Nat)->Nat->Nat
 |[],j=>j
 |p::m,j=>match Nat.beq p.1 j with|true=>p.2|false=>bX m j
def iS:List (Nat × Ob)->Nat->Option Ob
 |[],_=>none
 |p::l,j=>match Nat.beq p.1 j with|true=>some p.2|false=>iS l j
theorem jq:∀ {l:List (Nat × Ob)}{j:Nat}{o:Ob},iS l j=some o->(j,o) ∈ l
 |[],j,o,h=>by cases h
 |(a,b)::l,j,o,h=>by
  simp only [iS] at h
  split at h
  ·rename_i e
   obtain rfl:=Nat.eq_of_beq_eq_true e
   obtain rfl:=Option.some.inj h
   simp
  ·exact List.mem_cons_of_mem _ (jq h)
inductive sI (B:Nat) (m:List (Nat × Nat)) (N:Nat) (f:Nat->AV):Nat->AV->Prop where
 |aC {t:Nat}{a:AV}(h:f t=a) (hk:cD B a):sI B m N f t a
 |new {t j sz off len:Nat}{cx:Option Nat}(h:f t=.ob (dm B (bX m) j) sz off len cx) (hj:Nat.blt j N=true):sI B m N f t (.ob j sz off len cx)
 |ll {t j sz len:Nat}(h:f t=.gr (dm B (bX m) j) sz len) (hj:Nat.blt j N=true):sI B m N f t (.gr j sz len)
 |iW {t j sz:Nat}(h:f t=.sl true []):sI B m N f t (.gr j sz 0)
 |tN {t j sz i q:Nat}(h:f t=.pt (dm B (bX m) j) sz i q) (hj:Nat.blt j N=true):sI B m N f t (.pt j sz i q)
 |tO {t j:Nat}(h:f t=.mp (dm B (bX m) j)) (hj:Nat.blt j N=true):sI B m N f t (.mp j)
def zz (B:Nat) (m:List (Nat × Nat)) (N:Nat) (f:Nat->AV):List (Nat × AV)->Prop
 |[]=>True
 |p::l=>sI B m N f p.1 p.2/\zz B m N f l
inductive g8 (B:Nat) (m:List (Nat × Nat)) (N:Nat):AV->AV->Prop where
 |aC {a:AV}(hk:cD B a):g8 B m N a a
 |new {j k sz off len:Nat}{cx:Option Nat}(h:k=dm B (bX m) j) (hj:Nat.blt j N=true):g8 B m N (.ob k sz off len cx) (.ob j sz off len cx)
 |ll {j k sz len:Nat}(h:k=dm B (bX m) j) (hj:Nat.blt j N=true):g8 B m N (.gr k sz len) (.gr j sz len)
 |iW {j sz:Nat}:g8 B m N (.sl true []) (.gr j sz 0)
 |tN {j k sz i q:Nat}(h:k=dm B (bX m) j) (hj:Nat.blt j N=true):g8 B m N (.pt k sz i q) (.pt j sz i q)
 |tO {j k:Nat}(h:k=dm B (bX m) j) (hj:Nat.blt j N=true):g8 B m N (.mp k) (.mp j)
def tg (B:Nat) (m:List (Nat × Nat)) (N:Nat):List AV->List AV->Prop
 |[],[]=>True
 |a::l,b::l'=>g8 B m N a b/\tg B m N l l'
 |_,_=>False
def y9 (B:Nat) (m:List (Nat × Nat)) (N:Nat):List (List AV)->List (List AV)->Prop
 |[],[]=>True
 |a::l,b::l'=>tg B m N a b/\y9 B m N l l'
 |_,_=>False
theorem tg.at {B N:Nat}{m:List (Nat × Nat)}:∀ {l l':List AV},tg B m N l l'->l.length=l'.length/\∀ (i:Nat) (b:AV),l'[i]?=some b->∃ a,l[i]?=some a/\g8 B m N a b
 |[],[],_=>⟨rfl,fun i b h=>by simp at h⟩
 |a::l,b::l',hc=>⟨by simp [hc.2.at.1],fun i c h=>by
  cases i with
  |zero=>simp at h;subst h;exact⟨a,rfl,hc.1⟩
  |succ i=>simp at h;obtain⟨d,h1,h2⟩:=hc.2.at.2 i c h;exact⟨d,by simpa using h1,h2⟩⟩
 |[],_::_,h=>h.elim
 |_::_,[],h=>h.elim
theorem y9.at {B N:Nat}{m:List (Nat × Nat)}:∀ {l l':List (List AV)},y9 B m N l l'->l.length=l'.length/\∀ (i:Nat) (b:List AV),l'[i]?=some b->∃ a,l[i]?=some a/\tg B m N a b
 |[],[],_=>⟨rfl,fun i b h=>by simp at h⟩
 |a::l,b::l',hc=>⟨by simp [hc.2.at.1],fun i c h=>by
  cases i with
  |zero=>simp at h;subst h;exact⟨a,rfl,hc.1⟩
  |succ i=>simp at h;obtain⟨d,h1,h2⟩:=hc.2.at.2 i c h;exact⟨d,by simpa using h1,h2⟩⟩
 |[],_::_,h=>h.elim
 |_::_,[],h=>h.elim
inductive vB (B:Nat) (m:List (Nat × Nat)) (N:Nat):Ob->Ob->Prop where
 |same {o:Ob}(hk:jF B o):vB B m N o o
 |arr {sz fz:Nat}{rows cL:List (List AV)}{ex:Bool}(h:y9 B m N rows cL):vB B m N (.arr sz rows fz ex) (.arr sz cL fz ex)
def rX (B:Nat) (m:List (Nat × Nat)) (N:Nat) (S:ae):List (Nat × Ob)->Prop
 |[]=>True
 |p::l=>((∃ cr,S.get (dm B (bX m) p.1)=some cr/\vB B m N cr p.2)\/Nat.ble S.nx (dm B (bX m) p.1)=true)/\rX B m N S l
theorem rX.mem {B N:Nat}{m:List (Nat × Nat)}{S:ae}:∀ {l:List (Nat × Ob)},rX B m N S l->∀ p ∈ l,(∃ cr,S.get (dm B (bX m) p.1)=some cr/\vB B m N cr p.2)\/Nat.ble S.nx (dm B (bX m) p.1)=true
 |[],_,p,h=>by cases h
 |q::l,hc,p,h=>by
  rcases List.mem_cons.1 h with rfl|h
  ·exact hc.1
  ·exact hc.2.mem p h
def nq (B:Nat) (m:List (Nat × Nat)):List Nat->Bool
 |[]=>true
 |j::l=>l.all (fun i=>!Nat.beq (dm B (bX m) i) (dm B (bX m) j)) && nq B m l
theorem nq.inj {B:Nat}{m:List (Nat × Nat)}:∀ {l:List Nat},nq B m l=true->∀ i j,i ∈ l->j ∈ l->dm B (bX m) i=dm B (bX m) j->i=j
 |[],_,i,j,h,_,_=>by cases h
 |a::l,hd,i,j,hi,hj,e=>by
  simp only [nq,Bool.and_eq_true,List.all_eq_true,Bool.not_eq_true'] at hd
  have ne:∀ x ∈ l,dm B (bX m) x ≠ dm B (bX m) a:=fun x hx h=>by
   have:=hd.1 x hx
   rw [h,Nat.beq_refl] at this
   cases this
  by_cases h1:i=a
  ·by_cases h2:j=a
   ·rw [h1,h2]
   ·subst h1;exact absurd e.symm (ne _ ((List.mem_cons.1 hj).resolve_left h2))
  ·by_cases h2:j=a
   ·subst h2;exact absurd e (ne _ ((List.mem_cons.1 hi).resolve_left h1))
   ·exact nq.inj hd.2 i j ((List.mem_cons.1 hi).resolve_left h1) ((List.mem_cons.1 hj).resolve_left h2) e
def d_ (l:List (Nat × AV)) (ds:List DE):AA:=⟨jK (fun _=>.u) l,ds⟩
def aE (l:List (Nat × Ob)) (N:Nat):ae:=⟨iS l,N⟩
structure Canon (B N:Nat) (m:List (Nat × Nat)) (α:AA) (S:ae) (l:List (Nat × AV)) (ds:List DE) (so:List (Nat × Ob)):Prop where
 aei:zz B m N α.tm l
 df:α.df=ds
 agz:rX B m N S so
 agA:nq B m (so.map (·.1))=true
 bn:Nat.ble B N=true
 dl:ds.all (fun d=>Nat.blt d.k B)=true
section
variable {P:Program}{w0:World}{rd:Bool}{n:Nat}{A:Nat->Prop}{g gs:Gh}{S S':ae}{w ws:World}{B N:Nat}{m:List (Nat × Nat)}{α:AA}{l:List (Nat × AV)}{ds:List DE}{so:List (Nat × Ob)}{a:Act}
theorem dZ {i j:Nat}(h:Nat.blt i j=true):i < j:=Nat.le_of_ble_eq_true h
theorem g8.rep {a b:AV}{x:Value}(hN:B<=N) (h:g8 B m N a b) (hr:aL g w a x):aL (g.e8 B N (bX m)) w b x:=by
 cases h with
 |aC hk=>exact hr.e8 hN hk
 |@new j k sz off len cx e hj =>
  subst e
  cases hr with
  |ob hk hc hp hx hle=>exact .ob (g:=g.e8 B N (bX m)) (k:=j) ⟨Nat.le_of_ble_eq_true hj,hk⟩ hc hp hx hle
 |@ll j k sz len e hj =>
  subst e
  cases hr with
  |iW=>exact .iW
  |gr hk hx hle=>exact .gr (g:=g.e8 B N (bX m)) (k:=j) ⟨Nat.le_of_ble_eq_true hj,hk⟩ hx hle
 |iW =>
  cases hr with
  |nil hc=>rw [hc rfl];exact .iW
  |sl hn=>exact absurd rfl hn
 |@tN j k sz i q e hj =>
  subst e
  cases hr with
  |pt hk=>exact .pt (g:=g.e8 B N (bX m)) (k:=j) ⟨Nat.le_of_ble_eq_true hj,hk⟩
 |@tO j k e hj =>
  subst e
  cases hr with
  |mp hk=>exact .mp (g:=g.e8 B N (bX m)) (k:=j) ⟨Nat.le_of_ble_eq_true hj,hk⟩
theorem vB.rep {o o':Ob}{b cp:Nat}(hN:B<=N) (h:vB B m N o o') (hr:dF g w b cp o):dF (g.e8 B N (bX m)) w b cp o':=by
 cases h with
 |same hk=>exact hr.e8 hN hk
 |@arr sz fz rows cL ex hc =>
  obtain⟨hl,ha⟩:=hc.at
  obtain⟨cs,ty,h1,h2,h3,h4,h5,h6,h7⟩:=hr
  refine⟨cs,ty,h1,h2,by rw [<-hl];exact h3,fun he=>by rw [<-hl];exact h4 he,fun i row hr=>?_,by rw [<-hl];exact h6,h7⟩
  obtain⟨YC,e1,e2⟩:=ha i row hr
  obtain⟨ef,eH⟩:=e2.at
  refine⟨by rw [<-ef];exact (h5 i YC e1).1,fun j a hj=>?_⟩
  obtain⟨a0,e3,e4⟩:=eH j a hj
  obtain⟨x,hx,dO⟩:=(h5 i YC e1).2 j a0 e3
  exact⟨x,hx,e4.rep hN dO⟩
theorem Canon.st (hC:Canon B N m α S l ds so) (hS:St w0 A g S w):St w0 A (g.e8 B N (bX m)) (aE so N) w :=
 St.e8 (S':=aE so N) hS (Nat.le_of_ble_eq_true hC.bn) (fun j o h=>by
   rcases hC.agz.mem _ (jq h) with ⟨cr,h0,hc⟩|hv
   case inr=>exact .inr (Nat.le_of_ble_eq_true hv)
   exact .inl ⟨cr,h0,fun b cp hr=>hc.rep (Nat.le_of_ble_eq_true hC.bn) hr,fun J hJ=>by subst hJ;cases hc;rfl⟩)
  (fun i j o p hi hj e=>nq.inj hC.agA i j (List.mem_map.2 ⟨_,jq hi,rfl⟩) (List.mem_map.2 ⟨_,jq hj,rfl⟩) e)
theorem B9 (hN:B<=N) (hA:b7 g w n α a):∀ {l:List (Nat × AV)},zz B m N α.tm l->(∀ t,t < n->aL (g.e8 B N (bX m)) w (jK (fun _=>.u) l t) (a.tmps.getD t undef))/\∀ t,n<=t->jK (fun _=>.u) l t=.u
 |[],_=>⟨fun _ _=>.u,fun _ _=>rfl⟩
 |(s,b)::l,h=>by
  obtain⟨h1,h2⟩:=B9 hN hA h.2
  have hs:sI B m N α.tm s b:=h.1
  refine⟨fun t ht=>?_,fun t ht=>?_⟩
  ·show aL _ w (bP (jK (fun _=>.u) l) s b t) _
   by_cases e:t=s
   ·subst e
    rw [aG]
    have hr:=hA.tm t ht
    cases hs with
    |aC e hk=>rw [e] at hr;exact hr.e8 hN hk
    |@new j sz off len cx e hj =>
     rw [e] at hr
     exact g8.rep hN (.new rfl hj) hr
    |@ll j sz len e hj=>rw [e] at hr;exact g8.rep hN (.ll rfl hj) hr
    |@iW j sz e=>rw [e] at hr;exact g8.rep hN .iW hr
    |@tN j sz i q e hj=>rw [e] at hr;exact g8.rep hN (.tN rfl hj) hr
    |@tO j e hj=>rw [e] at hr;exact g8.rep hN (.tO rfl hj) hr
   ·rw [aN _ _ e];exact h1 t ht
  ·show bP (jK (fun _=>.u) l) s b t=.u
   by_cases e:t=s
   ·subst e
    rw [aG]
    have hr:=hA.out t ht
    cases hs with
    |aC e hk=>exact e.symm.trans hr
    |new e hj=>rw [hr] at e;cases e
    |ll e hj=>rw [hr] at e;cases e
    |iW e=>rw [hr] at e;cases e
    |tN e hj=>rw [hr] at e;cases e
    |tO e hj=>rw [hr] at e;cases e
   ·rw [aN _ _ e];exact h2 t ht
theorem Canon.GY (hC:Canon B N m α S l ds so) (hA:b7 g w n α a):b7 (g.e8 B N (bX m)) w n (d_ l ds) a:=by
 have hN:=Nat.le_of_ble_eq_true hC.bn
 obtain⟨h1,h2⟩:=B9 hN hA hC.aei
 have hd:=hC.dl
 rw [List.all_eq_true] at hd
 refine⟨hA.size,h1,h2,?_,fun k hk=>?_⟩
 ·rw [hA.df,hC.df]
  refine List.map_congr_left fun k hk=>?_
  refine (vg ?_).symm
  show g.ob (dm B (bX m) k.k)=_
  rw [jW (dZ (hd k hk))]
 ·have:=dZ (hd k hk)
  refine⟨by omega,?_⟩
  rw [jW this]
  exact hA.sZ k (by rw [hC.df];exact hk)
def rV (P:Program) (w0:World) (rd:Bool) (n B:Nat) (c:Code) (α:AA) (S:ae) (ex:Exit) (aB:AA) (S':ae):Prop :=
 ∀ (F:Fence) (m:Nat) (A:Nat->Prop) (g gs:Gh) (a:Act) (w ws:World),iF F->F.round.isSome=rd->St w0 A g S w->b7 g w n α a->Ext A gs ws g w->(∀ k,gs.al k->k < B)->∀ (b:Frame) (k:List Item) (cs:List Frame),b.roundOf=F.round->F.fn b.fn->F.room (cs.length+1+m) ->
  ∃ e a' w',lR w0 n A gs ws ex aB S' e a' w'/\ArrivesIn (Machine.fenced P F) P (lone (b.atR a (.code c::.inLoop c::k)) cs w) b k cs e a' w'
section
variable {c:Code}{bN aB:AA}{bZ:ae}{ex:Exit}
theorem rV.step (h:cy P w0 rd n c α S .normal bN bZ) (hC:Canon B N m bN bZ l ds so) (k:rV P w0 rd n B c (d_ l ds) (aE so N) ex aB S'):rV P w0 rd n B c α S ex aB S':=by
 intro F mm A g gs a w ws hF hR hS hA hE hB b q cs n0 hb hr
 obtain⟨e,jN,iG,hq,ma⟩:=h F mm A g a w hF hR hS hA b (.inLoop c::q) cs n0 hb hr
 obtain⟨rfl,xV,yP,yQ,aej⟩:=hq
 obtain⟨M1,M3,M4,Hh,Ak⟩:=k F mm A _ gs jN iG ws hF hR (hC.st yP) (hC.GY yQ) ((hE.trans aej).e8 (Nat.le_of_ble_eq_true hC.bn) hB) hB b q cs n0 hb hr
 exact⟨M1,M3,M4,Hh,.of_steps (StepsIn.trans ma (.one (fenced_calm hb hr rfl) stepR_inLoop)) Ak⟩
theorem rV.done (h:cy P w0 rd n c α S ex aB S') (he:ex ≠ .normal):rV P w0 rd n B c α S ex aB S':=by
 intro F mm A g gs a w ws hF hR hS hA hE hB b q cs n0 hb hr
 obtain⟨e,jN,iG,hq,ma⟩:=h F mm A g a w hF hR hS hA b (.inLoop c::q) cs n0 hb hr
 obtain⟨rfl,hq⟩:=hq
 exact⟨e,jN,iG,lR.ext hE ⟨rfl,hq⟩,.pass (x:=.inLoop c) rfl (fun _ _=>.inl he) ma⟩
theorem rV.start (hn:Nat.ble S.nx B=true) (hC:Canon B N m α S l ds so) (k:rV P w0 rd n B c (d_ l ds) (aE so N) ex aB S'):sQ P w0 rd n c α S ex aB S':=by
 intro F mm A g a w hF hR hS hA b q cs n0 hb hr
 have hB:∀ k,g.al k->k < B:=fun k hk=>Nat.lt_of_lt_of_le (hS.al k hk) (Nat.le_of_ble_eq_true hn)
 exact k F mm A _ g a w w hF hR (hC.st hS) (hC.GY hA) ((Ext.refl A g w).e8 (Nat.le_of_ble_eq_true hC.bn) hB) hB b q cs n0 hb hr
end
def FL {σ:Type}(P:Program) (w0:World) (rd:Bool) (n B N:Nat) (st:σ->List (Nat × AV)) (ds:List DE) (so:σ->List (Nat × Ob)) (I:σ->Prop) (μ:σ->Nat) (Q:Exit->AA->ae->Prop) (K:List iq) (k:Nat):Exit->AA->ae->Prop :=
 fun ex α S=>match ex with|.normal=>∃ s m,I s/\μ s < k/\Canon B N m α S (st s) ds (so s)|e=>ab P w0 rd n Q (.out e K) α S
variable {Q:Exit->AA->ae->Prop}{K:List iq}
theorem ab.aP {σ:Type}(B N:Nat) (m:List (Nat × Nat)) (st:σ->List (Nat × AV)) (ds:List DE) (so:σ->List (Nat × Ob)) (I:σ->Prop) (μ:σ->Nat) (s0:σ) {c:QC}(h0:I s0) (hn:Nat.ble S.nx B=true) (hC:Canon B N m α S (st s0) ds (so s0))
  (h:∀ s,I s->ab P w0 rd n (FL P w0 rd n B N st ds so I μ Q K (μ s)) (.run c []) (d_ (st s) ds) (aE (so s) N)):ab P w0 rd n Q (.run (.loop c) K) α S:=by
 intro c0 hc hd
 obtain⟨c1,rfl,h1⟩:=Mk hc
 have key:∀ (k:Nat) (s:σ),I s->μ s=k->∃ ex aB S',rV P w0 rd n B c1 (d_ (st s) ds) (aE (so s) N) ex aB S'/\cU P w0 rd n Q K ex aB S':=by
  intro k
  induction k using Nat.strongRecOn with
  |_ k ih =>
   intro s hI hk
   obtain⟨ex,bN,bZ,h3,h4⟩:Wp P w0 rd n c1 (FL P w0 rd n B N st ds so I μ Q K (μ s)) (d_ (st s) ds) (aE (so s) N):=h s hI c1 h1 hd
   cases ex with
   |normal =>
    obtain⟨s',m',hI',au,hC'⟩:=h4
    obtain⟨ex,aB,S',h5,h6⟩:=ih (μ s') (by omega) s' hI' rfl
    exact⟨ex,aB,S',rV.step h3 hC' h5,h6⟩
   |_=>exact⟨_,bN,bZ,rV.done h3 (by simp),h4⟩
 obtain⟨ex,aB,S',h2,h3⟩:=key _ s0 h0 rfl
 exact⟨ex,aB,S',cy.loop (rV.start hn hC h2),h3⟩
theorem ab.aK {σ:Type}{st:σ->List (Nat × AV)}{so:σ->List (Nat × Ob)}{I:σ->Prop}{μ:σ->Nat}{k:Nat}(s:σ) (m:List (Nat × Nat)) (hI:I s) (hk:μ s < k) (hC:Canon B N m α S (st s) ds (so s)) :
  ab P w0 rd n (FL P w0 rd n B N st ds so I μ Q K k) (.out .normal []) α S:=⟨s,m,hI,hk,hC⟩
theorem ab.ao {σ:Type}{st:σ->List (Nat × AV)}{so:σ->List (Nat × Ob)}{I:σ->Prop}{μ:σ->Nat}{k id:Nat}(h:ab P w0 rd n Q (.out (.exit id) K) α S):ab P w0 rd n (FL P w0 rd n B N st ds so I μ Q K k) (.out (.exit id) []) α S:=h
theorem ab.bK {σ:Type}{st:σ->List (Nat × AV)}{so:σ->List (Nat × Ob)}{I:σ->Prop}{μ:σ->Nat}{k:Nat}(h:ab P w0 rd n Q (.out .ret K) α S):ab P w0 rd n (FL P w0 rd n B N st ds so I μ Q K k) (.out .ret []) α S:=h
end
section
variable {P:Program}{w0:World}{rd:Bool}{n:Nat}{o:Op}{α:AA}{S S':ae}{r:AV}{q:dz}{dr:Bool}
def jz (f:Nat->AV):Option QO->Int->Option Int
 |none,d=>some d
 |some x,_=>match x.ev f with
  |.v (.int _ i)=>some i
  |_=>none
theorem qv {lo:Option Operand}{d i:Int}(h:jz α.tm (lo.map qo) d=some i):kh (lo.map α.ev) d=some i:=by
 cases lo with
 |none=>exact h
 |some x =>
  simp only [Option.map_some,jz,aU] at h
  simp only [Option.map_some,kh]
  split at h
  ·rename_i e;rw [e];exact h
  ·cases h
theorem GN {k:SK}{x:QO}{lo hi:Option QO}(h:res P.toTables o=some (.slice k x lo hi none)):∃ t u l1 h1,o=.slice t u l1 h1 none/\x=qo u/\lo=l1.map qo/\hi=h1.map qo /\
  ((k=.str/\P.underlying t=some .string)\/∃ e m,k=.sl m/\P.underlying t=some (.slice e)/\cS P e=some m):=by
 cases o with
 |slice t u l1 h1 m1 =>
  simp only [res,b_,ec] at h
  split at h
  ·rename_i hu
   simp only [Option.some.injEq,dz.slice.injEq,Option.map_eq_none_iff] at h
   obtain⟨rfl,rfl,rfl,rfl,rfl⟩:=h
   exact⟨_,_,_,_,rfl,rfl,rfl,rfl,.inl ⟨rfl,hu⟩⟩
  ·rename_i e hu
   split at h
   ·rename_i m hs
    simp only [Option.some.injEq,dz.slice.injEq,Option.map_eq_none_iff] at h
    obtain⟨rfl,rfl,rfl,rfl,rfl⟩:=h
    exact⟨_,_,_,_,rfl,rfl,rfl,rfl,.inr ⟨_,_,rfl,hu,hs⟩⟩
   ·cases h
  ·cases h
 |_ =>
  simp only [res] at h
  repeat' split at h
  all_goals cases h
theorem ad.afu {x:QO}{lo hi:Option QO}{s:ByteArray}{l h:Int}(h1:x.ev α.tm=.v (.string s)) (h2:jz α.tm lo 0=some l) (h3:jz α.tm hi s.size=some h) (h4:0<=l) (h5:l<=h) (h6:h<=s.size) :
  ad P w0 dr (.slice .str x lo hi none) α S (.v (.string (s.extract l.toNat h.toNat))) S:=by
 refine ad.of rfl fun o hr=>?_
 obtain⟨t,u,l1,i1,rfl,rfl,rfl,rfl,hu|⟨e,m,hk,_⟩⟩:=GN hr
 ·rw [aU] at h1
  simp only [bm,jO,Option.map_none,h1,hu.2,qv h2,qv h3]
  exact⟨h4,h5,h6,rfl,rfl⟩
 ·cases hk
theorem ad.agB {m:Nat}{x:QO}{lo hi:Option QO}{ex:Bool}{rows:List (List AV)}{l h:Int}(h1:x.ev α.tm=.sl ex rows) (h2:jz α.tm lo 0=some l) (h3:jz α.tm hi rows.length=some h) (h0:∀ row ∈ rows,row.length=m) (h4:0<=l) (h5:l<=h) (h6:h<=rows.length) :
  ad P w0 dr (.slice (.sl m) x lo hi none) α S (.sl false ((rows.take h.toNat).drop l.toNat)) S:=by
 refine ad.of rfl fun o hr=>?_
 obtain⟨t,u,l1,i1,rfl,rfl,rfl,rfl,hu|⟨e,m',hk,hu,hs⟩⟩:=GN hr
 ·cases hu.1
 ·injection hk with hk
  subst hk
  rw [aU] at h1
  simp only [bm,jO,Option.map_none,h1,hu,qv h2,qv h3,hs]
  exact⟨fun row hr=>by rw [h0 row hr],rfl,h4,h5,h6,rfl,rfl⟩
theorem lQ {sz by_:Nat}{a b:QO}(h:res P.toTables o=some (.append sz by_ a b)):∃ c t t2 u v e e2 z,o=.call c/\c.callee=.builtin .append/\c.argTypes.toList=[t,t2]/\c.args.toList=[u,v]/\a=qo u/\b=qo v/\fJ P t=some e/\fJ P t2=some e2/\cY P e=some z /\
  cS P e=some sz/\gm P e=some by_/\Nat.beq z.cells.size sz=true/\Nat.blt 0 by_=true:=by
 cases o<;>simp only [res,b_,ec,kI,gV,jR] at h<;>(repeat' split at h)<;>(try cases h)
 rename_i hb
 simp only [Bool.and_eq_true] at hb
 exact⟨_,_,_,_,_,_,_,_,rfl,by assumption,by assumption,by assumption,rfl,rfl,by assumption,by assumption,by assumption,by assumption,by assumption,hb.1,hb.2⟩
def dv (S:ae) (b:AV):Option (List (List AV)):=match rowsOf S b,l_ b with
 |some l,some k=>match Nat.beq k l.length with|true=>some l|false=>none
 |_,_=>none
theorem dp {S:ae}{b:AV}{l:List (List AV)}(h:dv S b=some l):rowsOf S b=some l/\l_ b=some l.length:=by
 unfold dv at h
 split at h
 ·rename_i h1 h2
  split at h
  ·rename_i e
   obtain rfl:=Option.some.inj h
   rw [Nat.eq_of_beq_eq_true e] at h2
   exact⟨h1,h2⟩
  ·cases h
 ·cases h
theorem ad.append {sz by_:Nat}{a b:QO}{more:List (List AV)}(hm:rowsOf S (b.ev α.tm)=some more) (hl:l_ (b.ev α.tm)=some more.length)
  (h:∀ e z,cY P e=some z->cS P e=some sz->gm P e=some by_->Nat.blt 0 by_=true->jm P e (qQ r S') S more (a.ev α.tm)):ad P w0 dr (.append sz by_ a b) α S r S':=by
 refine ad.of rfl fun o hr=>?_
 obtain⟨c,t,t2,u,v,e,e2,z,rfl,h1,h2,h3,rfl,rfl,h4,h5,h6,h7,h8,h9,P8⟩:=lQ hr
 rw [aU] at hm hl h
 simp only [bm,h1,lu,h2,h3,List.map_cons,List.map_nil,h4,h5,h6,h7,h9]
 exact bp.mk hm ⟨hl,h e z h6 h7 h8 P8⟩
theorem ad.C9 {sz by_:Nat}{a b:QO}{rows:List (List AV)}(h1:a.ev α.tm=.sl true rows) (hm:dv S (b.ev α.tm)=some []):ad P w0 dr (.append sz by_ a b) α S (.sl true rows) S:=by
 refine ad.append (dp hm).1 (dp hm).2 fun e z hz hs hb hp=>?_
 rw [h1]
 exact⟨rfl,rfl⟩
theorem ad.Ai {sz by_:Nat}{a b:QO}{rows more:List (List AV)}{x:List AV}(h1:a.ev α.tm=.sl true rows) (hm:dv S (b.ev α.tm)=some (x::more)) (h2:∀ row ∈ rows,row.length=sz) (h3:∀ row ∈ x::more,row.length=sz)
  (h4:(rows.length+(x::more).length)*by_<=35184372088832):ad P w0 dr (.append sz by_ a b) α S (.ob S.nx sz 0 (rows.length+(x::more).length) none) (S.new (.arr sz (rows++x::more) 0 false)):=by
 refine ad.append (dp hm).1 (dp hm).2 fun e z hz hs hb hp=>?_
 rw [h1]
 simp only [jm,hs,hb,hp]
 exact⟨h2,h3,h4,rfl,rfl⟩
theorem ad.Hc {sz by_ k fz len:Nat}{ex:Bool}{a b:QO}{rows more:List (List AV)}{x:List AV}(h1:a.ev α.tm=.ob k sz 0 len none) (hk:S.get k=some (.arr sz rows fz ex)) (hm:dv S (b.ev α.tm)=some (x::more)) (h0:fz<=len) (h2:len<=rows.length)
  (h3:∀ row ∈ x::more,row.length=sz/\row.all cn=true) (h4:(len+(x::more).length)*by_<=35184372088832) :
  ad P w0 dr (.append sz by_ a b) α S (.ob S.nx sz 0 (len+(x::more).length) none) ((S.set k none).new (.arr sz (rows.take len++x::more) fz false)):=by
 refine ad.append (dp hm).1 (dp hm).2 fun e z hz hs hb hp=>?_
 rw [h1]
 simp only [jm]
 refine bp.mk (qR hk) ?_
 simp only [hs,hb,hp,Nat.beq_refl,Bool.and_self,Bool.true_and]
 exact⟨h0,h2,h3,h4,rfl,rfl⟩
theorem ad.yO {sz by_ k fz len sz':Nat}{ex:Bool}{a b:QO}{rows:List (List AV)}(h1:a.ev α.tm=.ob k sz' 0 len none) (hk:S.get k=some (.arr sz' rows fz ex)) (hm:dv S (b.ev α.tm)=some []) :
  ad P w0 dr (.append sz by_ a b) α S (.ob k sz' 0 len none) S:=by
 refine ad.append (dp hm).1 (dp hm).2 fun e z hz hs hb hp=>?_
 rw [h1]
 simp only [jm]
 exact bp.mk (qR hk) ⟨rfl,rfl⟩
theorem FO {z:List AV}{by_:Nat}{l c:QO}(h:res P.toTables o=some (.jo z by_ l c)):∃ t u v e zv sz,o=.makeSlice t u v/\l=qo u/\c=qo v/\fJ P t=some e/\cY P e=some zv/\cS P e=some sz/\gm P e=some by_ /\
  z=zv.cells.toList.map bV/\Nat.beq zv.cells.size sz=true/\Nat.blt 0 sz=true:=by
 cases o with
 |makeSlice t u v =>
  simp only [res,ec,kI,gV,jR] at h
  split at h
  ·rename_i e he
   split at h
   ·rename_i zv sz b1 hz hs hb
    split at h
    ·rename_i hc
     simp only [Bool.and_eq_true] at hc
     simp only [Option.some.injEq,dz.jo.injEq] at h
     obtain⟨rfl,rfl,rfl,rfl⟩:=h
     exact⟨_,_,_,_,_,_,rfl,rfl,rfl,he,hz,hs,hb,rfl,hc.1,hc.2⟩
    ·cases h
   ·cases h
  ·cases h
 |_ =>
  simp only [res] at h
  repeat' split at h
  all_goals cases h
theorem ad.mks {z:List AV}{by_:Nat}{l c:QO}{k k':IntKind}{a b:Int}(h1:l.ev α.tm=.v (.int k a)) (h2:c.ev α.tm=.v (.int k' b)) (h3:0<=a) (h4:a=b) (h5:a*by_<=35184372088832) (h6:a<=9223372036854775807) :
  ad P w0 dr (.jo z by_ l c) α S (.ob S.nx z.length 0 a.toNat none) (S.new (.arr z.length (List.replicate a.toNat z) 0 true)):=by
 refine ad.of rfl fun o hr=>?_
 obtain⟨t,u,v,e,zv,sz,rfl,rfl,rfl,e1,e2,e3,e4,rfl,e5,e6⟩:=FO hr
 have hz:(zv.cells.toList.map bV).length=sz:=by rw [<-Nat.eq_of_beq_eq_true e5];simp
 rw [aU] at h1 h2
 rw [hz]
 simp only [bm,h1,h2,e1,e2,e3,e4,e5,e6,Bool.and_self]
 exact⟨h3,h4,h5,h6,rfl,rfl⟩
theorem ad.U9 {x:QO}{s:ByteArray}(h1:x.ev α.tm=.v (.string s)):ad P w0 dr (.vw x) α S (.pt S.nx 0 0 0) (S.new (.si s 0)):=by
 refine ad.of rfl fun o hr=>?_
 cases o<;>simp only [res,b_] at hr<;>(repeat' split at hr)<;>(try cases hr)
 rw [aU] at h1
 simp only [bm, *]
 exact⟨rfl,rfl⟩
theorem ad.G9 {x:QO}{k sz pos:Nat}{s:ByteArray}(h1:x.ev α.tm=.pt k sz 0 0) (hk:S.get k=some (.si s pos)) (hp:pos < s.size) :
  ad P w0 dr (.qg x) α S (.bc [.v (.bool true),.v (.int .i64 pos),.v (.int .i32 (Utf8.decode s pos).1)]) (S.set k (some (.si s (pos+(Utf8.decode s pos).2)))):=by
 refine ad.of rfl fun o hr=>?_
 cases o<;>simp only [res,b_] at hr<;>(repeat' split at hr)<;>(try cases hr)
 rw [aU] at h1
 simp only [bm,h1]
 refine bp.mk (a:=(s,pos)) (by simp only [De,hk]) ⟨true,by simpa using hp,rfl,rfl⟩
theorem ad.Wa {x:QO}{k sz pos:Nat}{s:ByteArray}(h1:x.ev α.tm=.pt k sz 0 0) (hk:S.get k=some (.si s pos)) (hp:s.size<=pos):ad P w0 dr (.qg x) α S (.bc [.v (.bool false)]) S:=by
 refine ad.of rfl fun o hr=>?_
 cases o<;>simp only [res,b_] at hr<;>(repeat' split at hr)<;>(try cases hr)
 rw [aU] at h1
 simp only [bm,h1]
 refine bp.mk (a:=(s,pos)) (by simp only [De,hk]) ⟨false,by simpa using hp,rfl,rfl⟩
end
section
variable {P:Program}{w0:World}{rd:Bool}{n:Nat}{α:AA}{S:ae}{ex:Exit}{rs:Array ResultVar}{r r':AV}{Q:Exit->AA->ae->Prop}{l:List QI}{K:List iq}{dr:Bool}
theorem ab.G9 {d:Option Nat}{g:Option (Nat × Bool)}{x:QO}{k sz pos:Nat}{s:ByteArray}(hw:cb α.tm g=some true) (h1:x.ev α.tm=.pt k sz 0 0) (hk:S.get k=some (.si s pos))
  (k1:pos < s.size->∀ (j c:Int) (p:Nat),j=pos->c=(Utf8.decode s pos).1->p=pos+(Utf8.decode s pos).2->ab P w0 rd n Q (.bz dr l K) (cG d α (.bc [.v (.bool true),.v (.int .i64 j),.v (.int .i32 c)])) (S.set k (some (.si s p))))
  (k2:s.size<=pos->ab P w0 rd n Q (.bz dr l K) (cG d α (.bc [.v (.bool false)])) S):ab P w0 rd n Q (.bz dr (⟨d,g,.qg x⟩::l) K) α S:=by
 rcases Nat.lt_or_ge pos s.size with h|h
 ·exact ab.op (i:=⟨d,g,.qg x⟩) hw (ad.G9 h1 hk h) (k1 h _ _ _ rfl rfl rfl)
 ·exact ab.op (i:=⟨d,g,.qg x⟩) hw (ad.Wa h1 hk h) (k2 h)
theorem ab.gen {i:QI}{S':ae}{T:Type}(F:T->AV) {p:T}(hw:cb α.tm i.g=some true) (h:ad P w0 dr i.q α S (F p) S') (k:∀ p',p'=p->ab P w0 rd n Q (.bz dr l K) (cG i.d α (F p')) S'):ab P w0 rd n Q (.bz dr (i::l) K) α S:=ab.op hw h (k p rfl)
theorem ad.NQ {ρ:Hd}{T:Type}{f:T->List AV}{xs:List T}{m:Nat}{x:QO}{lo hi:Option QO}{ex:Bool}{i j:Int}(h1:x.ev α.tm=.sl ex (ρ.h (List.map f) xs)) (h2:jz α.tm lo 0=some i) (h3:jz α.tm hi (ρ.h (List.map f) xs).length=some j)
  (h0:∀ x,(f x).length=m) (h4:0<=i) (h5:i<=j) (h6:j<=xs.length):ad P w0 dr (.slice (.sl m) x lo hi none) α S (bY ρ f false ((xs.take j.toNat).drop i.toNat)) S:=by
 have:=ad.agB (P:=P) (w0:=w0) (dr:=dr) (S:=S) h1 h2 h3 (aw h0) h4 h5 (by rw [af];exact h6)
 rw [dE,List.map_drop,List.map_take,<-ρ.eq (List.map f) xs]
 exact this
def Wk (a b:AV):Prop:=∀ (g:Gh) (w:World) (x:Value),aL g w a x->aL g w b x
def EI:List AV->List AV->Prop
 |[],[]=>True
 |a::l,b::m=>Wk a b/\EI l m
 |_,_=>False
theorem Wk.refl (a:AV):Wk a a:=fun _ _ _ h=>h
theorem EI.len:∀ {l m:List AV},EI l m->l.length=m.length
 |[],[],_=>rfl
 |_::_,_::_,h=>by simp [h.2.len]
 |[],_::_,h=>h.elim
 |_::_,[],h=>h.elim
theorem EI.at:∀ {l m:List AV},EI l m->∀ (i:Nat) (b:AV),m[i]?=some b->∃ a,l[i]?=some a/\Wk a b
 |[],[],_,i,b,h=>by simp at h
 |a::l,b::m,hw,i,c,h=>by
  cases i with
  |zero=>simp at h;subst h;exact⟨a,rfl,hw.1⟩
  |succ i=>simp at h;obtain⟨d,h1,h2⟩:=hw.2.at i c h;exact⟨d,by simpa using h1,h2⟩
 |[],_::_,h,_,_,_=>h.elim
 |_::_,[],h,_,_,_=>h.elim
theorem Wk.sl {ex:Bool}{rows:List (List AV)}:Wk (.sl ex rows) (.sl false rows):=fun g w x hr=>by
 cases hr with
 |nil hc=>exact .nil (fun h=>by cases h)
 |sl hn hc hle hl h hr=>exact .sl hn (fun h=>by cases h) hle hl h hr
theorem aV.wk {f:FuncId}{args dN:List AV}{S':ae}(h:aV P w0 f args S r S') (hw:EI dN args):aV P w0 f dN S r S':=by
 refine⟨h.1,fun F m A g bO w hF hS hA=>h.2 F m A g bO w hF hS ⟨hA.1.trans hw.len,fun i a x ha hx=>?_⟩⟩
 obtain⟨b,h1,h2⟩:=hw.at i a ha
 exact h2 _ _ _ (hA.2 i b x h1 hx)
theorem ad.nt {f:QO}{aZ9:List QO}{g:FuncId}{args dN:List AV}(h:e7 (f.ev α.tm) (aZ9.map (·.ev α.tm))=some (g,dN)) (hc:ah P w0 g args r) (hp:c_ args) (hw:EI dN args):ad P w0 dr (.call f aZ9) α S r S:=ad.call h ((hc.AM hp S).wk hw) fun _=>rfl
variable {ρ:Hd}{T:Type}{f:T->List AV}{acc:List T}{x:T}
theorem qp {B:Nat}{ex:Bool}:cD B (.sl ex []):=.sl fun r hr=>by cases hr
theorem s8 {B sz fz:Nat}{ex:Bool}(h:∀ x ∈ acc,∀ a ∈ f x,Pure a):jF B (.arr sz (ρ.h (List.map f) acc) fz ex):=by
 rw [ρ.eq]
 intro row hr a ha
 obtain⟨x,hx,rfl⟩:=List.mem_map.1 hr
 exact (h x hx a ha).bM
end
def Gh.pre (g:Gh) (ι:Nat->Nat) (M:Nat):Gh:=⟨fun j=>g.ob (ι j),fun j=>g.cp (ι j),fun j=>j < M/\g.al (ι j),g.fz,g.fo⟩
def Rn (ι:Nat->Nat) (M:Nat) (a b:AV):Prop:=∀ (g:Gh) (w:World) (x:Value),aL g w a x->aL (g.pre ι M) w b x
def kF (ι:Nat->Nat) (M:Nat) (cr o:Ob):Prop:=(∀ (g:Gh) (w:World) (b cp:Nat),dF g w b cp cr->dF (g.pre ι M) w b cp o)/\∀ J,o=.fo J->cr=.fo J
structure Bk (ι:Nat->Nat) (gc g:Gh):Prop where
 al:∀ j,gc.al j->g.al (ι j)
 ob:∀ j,gc.al j->g.ob (ι j)=gc.ob j
 cp:∀ j,gc.al j->g.cp (ι j)=gc.cp j
 fz:g.fz=gc.fz
def Rb (ι:Nat->Nat) (b a:AV):Prop:=∀ (gc g:Gh) (w:World) (x:Value),Bk ι gc g->aL gc w b x->aL g w a x
def kY (ι:Nat->Nat) (o eO:Ob):Prop:=(∀ (gc g:Gh) (w:World) (b cp:Nat),Bk ι gc g->(∀ J,o=.fo J->g.fo=gc.fo)->dF gc w b cp o->dF g w b cp eO)/\∀ J,eO=.fo J->o=.fo J
def gP (ι:Nat->Nat) (M T:Nat) (j:Nat):Nat:=match Nat.blt j M with|true=>ι j|false=>T+j
theorem m9 {ι:Nat->Nat}{M T j:Nat}(h:j < M):gP ι M T j=ι j:=by
 have:Nat.blt j M=true:=Nat.ble_eq_true_of_le h
 simp only [gP,this]
theorem oS {ι:Nat->Nat}{M T j:Nat}(h:M<=j):gP ι M T j=T+j:=by
 have:Nat.blt j M=false:=by
  cases e:Nat.blt j M with
  |false=>rfl
  |true=>exact absurd (Nat.le_of_ble_eq_true e) (by omega)
 simp only [gP,this]
structure Fits (ι:Nat->Nat) (S S' T T':ae):Prop where
 inj:∀ i j,i < S.nx->j < S.nx->ι i=ι j->i=j
 lt:∀ j,j < S.nx->ι j < T.nx
 hS:∀ j o,S.get j=some o->∃ cr,T.get (ι j)=some cr/\kF ι S.nx cr o
 hT:∀ k eO,T'.get k=some eO->(∃ j o,gP ι S.nx T.nx j=k/\S'.get j=some o/\kY (gP ι S.nx T.nx) o eO)\/(k < T.nx/\(∀ j,j < S.nx->ι j ≠ k)/\T.get k=some eO)
 nx:T'.nx=T.nx+S'.nx\/(S'.nx<=S.nx/\T'.nx=T.nx)
 fo:(∀ k J,T.get k=some (.fo J)->∃ j,j < S.nx/\ι j=k)\/(∀ j J,S'.get j ≠ some (.fo J))
section
variable {w0:World}{A:Nat->Prop}{g:Gh}{S S' T T':ae}{w:World}{ι:Nat->Nat}
def A3 (gc:Gh) (S:ae) (w:World) (b:Nat):Prop:=w.heap.size<=b\/∃ j o,S.get j=some o/\gc.al j/\(b=gc.ob j\/∃ J,o=.fo J/\gc.fo (gc.ob j) b)
theorem Fits.sub (hF:Fits ι S S' T T') (hT:St w0 A g T w) {b:Nat}(h:A3 (g.pre ι S.nx) S w b):A b:=by
 rcases h with h|⟨j,o,h1,h2,h3⟩
 ·exact hT.up b h
 ·obtain⟨cr,h4,h5,h6⟩:=hF.hS j o h1
  rcases h3 with rfl|⟨J,rfl,h7⟩
  ·exact (hT.cH _ cr h4 h2.2).1
  ·exact (hT.iD _ J (by rw [<-h6 J rfl];exact h4) h2.2 b h7).1
theorem Fits.inner (hF:Fits ι S S' T T') (hT:St w0 A g T w):St w0 (A3 (g.pre ι S.nx) S w) (g.pre ι S.nx) S w :=
 ⟨hT.base,fun b hb=>.inl hb,fun b hb=>hT.lo b (hF.sub hT hb),fun k hk=>hk.1,fun k o hk ha=>by
   obtain⟨cr,h4,h5,h6⟩:=hF.hS k o hk
   obtain⟨h7,h8,h9⟩:=hT.cH _ cr h4 ha.2
   exact⟨.inr ⟨k,o,hk,ha,.inl rfl⟩,h8,h5 _ _ _ _ h9⟩,
  fun j k o p hj hk aj ak e=>by
   obtain⟨cr,h4,_⟩:=hF.hS j o hj
   obtain⟨uI,h5,_⟩:=hF.hS k p hk
   exact hF.inj j k aj.1 ak.1 (hT.inj _ _ cr uI h4 h5 aj.2 ak.2 e),
  hT.cK,hT.nn,fun k J hk ha c hc=>by
   obtain⟨cr,h4,_,h6⟩:=hF.hS k _ hk
   exact⟨.inr ⟨k,_,hk,ha,.inr ⟨J,rfl,hc⟩⟩,(hT.iD _ J (by rw [<-h6 J rfl];exact h4) ha.2 c hc).2⟩,
  fun k J j o hk ha hj aj bH hc=>by
   obtain⟨cr,h4,_,h6⟩:=hF.hS k _ hk
   obtain⟨uI,h5,_⟩:=hF.hS j o hj
   exact hT.j2 _ J _ uI (by rw [<-h6 J rfl];exact h4) ha.2 h5 aj.2 (fun e=>bH (hF.inj j k aj.1 ha.1 e)) hc,
  fun j k J J' hj hk aj ak=>by
   obtain⟨cr,h4,_,h6⟩:=hF.hS j _ hj
   obtain⟨uI,h5,_,h7⟩:=hF.hS k _ hk
   exact hF.inj j k aj.1 ak.1 (hT.me _ _ J J' (by rw [<-h6 J rfl];exact h4) (by rw [<-h7 J' rfl];exact h5) aj.2 ak.2)⟩
theorem Fits.YD (hF:Fits ι S S' T T') {i j:Nat}(h:gP ι S.nx T.nx i=gP ι S.nx T.nx j):i=j:=by
 rcases Nat.lt_or_ge i S.nx with h1|h1<;>rcases Nat.lt_or_ge j S.nx with h2|h2
 ·rw [m9 h1,m9 h2] at h;exact hF.inj i j h1 h2 h
 ·rw [m9 h1,oS h2] at h;have:=hF.lt i h1;omega
 ·rw [oS h1,m9 h2] at h;have:=hF.lt j h2;omega
 ·rw [oS h1,oS h2] at h;omega
theorem Fits.outer (hF:Fits ι S S' T T') (hT:St w0 A g T w) {gc:Gh}{w':World}(iu:St w0 (A3 (g.pre ι S.nx) S w) gc S' w') (hE:Ext (A3 (g.pre ι S.nx) S w) (g.pre ι S.nx) w gc w') :
  ∃ g',St w0 A g' T' w'/\Ext A g w g' w'/\Bk (gP ι S.nx T.nx) gc g':=by
 classical
 obtain⟨X,Te,YE⟩:∃ X:Nat->Nat->Prop,(∀ j J,S'.get j=some (.fo J)->X=gc.fo)/\(∀ k J,T.get k=some (.fo J)->(∀ j,j < S.nx->ι j ≠ k)->X=g.fo):=by
  rcases hF.fo with h|h
  ·exact⟨gc.fo,fun _ _ _=>rfl,fun k J hk hn=>by obtain⟨j,h1,h2⟩:=h k J hk;exact absurd h2 (hn j h1)⟩
  ·exact⟨g.fo,fun j J hj=>absurd hj (h j J),fun _ _ _ _=>rfl⟩
 let o:=gP ι S.nx T.nx
 let g':Gh:=⟨fun k=>if h:∃ j,o j=k then gc.ob h.choose else g.ob k,fun k=>if h:∃ j,o j=k then gc.cp h.choose else g.cp k,fun k=>if h:∃ j,o j=k then gc.al h.choose else g.al k,gc.fz,X⟩
 have ch:∀ j (h:∃ i,o i=o j),h.choose=j:=fun j h=>hF.YD h.choose_spec
 have e1:∀ j,g'.ob (o j)=gc.ob j:=fun j=>by
  have h:∃ i,o i=o j:=⟨j,rfl⟩
  show (if h:∃ i,o i=o j then gc.ob h.choose else _)=_
  rw [dif_pos h,ch j h]
 have e2:∀ j,g'.cp (o j)=gc.cp j:=fun j=>by
  have h:∃ i,o i=o j:=⟨j,rfl⟩
  show (if h:∃ i,o i=o j then gc.cp h.choose else _)=_
  rw [dif_pos h,ch j h]
 have e3:∀ j,g'.al (o j)=gc.al j:=fun j=>by
  have h:∃ i,o i=o j:=⟨j,rfl⟩
  show (if h:∃ i,o i=o j then gc.al h.choose else _)=_
  rw [dif_pos h,ch j h]
 have f1:∀ k,(∀ j,o j ≠ k)->g'.ob k=g.ob k:=fun k hk=>dif_neg fun ⟨j,hj⟩=>hk j hj
 have f2:∀ k,(∀ j,o j ≠ k)->g'.cp k=g.cp k:=fun k hk=>dif_neg fun ⟨j,hj⟩=>hk j hj
 have f3:∀ k,(∀ j,o j ≠ k)->g'.al k=g.al k:=fun k hk=>dif_neg fun ⟨j,hj⟩=>hk j hj
 have aC:∀ k,g.al k->(∃ j,j < S.nx/\o j=k/\ι j=k/\(g.pre ι S.nx).al j)\/∀ j,o j ≠ k:=by
  intro k hk
  by_cases h:∃ j,o j=k
  ·obtain⟨j,hj⟩:=h
   rcases Nat.lt_or_ge j S.nx with h1|h1
   ·have h2:ι j=k:=by rw [<-hj];exact (m9 h1).symm
    exact .inl ⟨j,h1,hj,h2,h1,by rw [h2];exact hk⟩
   ·have h2:o j=T.nx+j:=oS h1
    have:=hT.al k hk
    omega
  ·exact .inr fun j hj=>h ⟨j,hj⟩
 have free:∀ k,k < T.nx->(∀ j,j < S.nx->ι j ≠ k)->∀ j,o j ≠ k:=by
  intro k hk h j hj
  rcases Nat.lt_or_ge j S.nx with h1|h1
  ·exact h j h1 (by rw [<-hj];exact (m9 h1).symm)
  ·have h2:o j=T.nx+j:=oS h1
   omega
 have out:∀ k p,T.get k=some p->g.al k->(∀ j,j < S.nx->ι j ≠ k)->¬ A3 (g.pre ι S.nx) S w (g.ob k):=by
  rintro k p hk ha hn (h|⟨j,q,h1,h2,h3⟩)
  ·exact absurd (hT.cH k p hk ha).2.1 (by omega)
  ·obtain⟨cr,h4,_,h6⟩:=hF.hS j q h1
   rcases h3 with h3|⟨J,rfl,h7⟩
   ·exact hn j h2.1 (hT.inj k (ι j) p cr hk h4 ha h2.2 h3).symm
   ·exact hT.j2 (ι j) J k p (by rw [<-h6 J rfl];exact h4) h2.2 hk ha (fun e=>hn j h2.1 e.symm) h7
 have hL:Later g w g' w':=by
  refine⟨fun k hk=>?_,fun k hk=>?_,fun k hk=>?_,hE.fz,hE.cell⟩
  ·rcases aC k hk with ⟨j,h1,h2,h3,h4⟩|h
   ·rw [<-h2,e3];exact hE.al j h4
   ·rw [f3 k h];exact hk
  ·rcases aC k hk with ⟨j,h1,h2,h3,h4⟩|h
   ·rw [<-h2,e1,hE.ob j h4,h2,<-h3];rfl
   ·exact f1 k h
  ·rcases aC k hk with ⟨j,h1,h2,h3,h4⟩|h
   ·rw [<-h2,e2,hE.cp j h4,h2,<-h3];rfl
   ·exact f2 k h
 have hEx:Ext A g w g' w':={ hL with size:=hE.size,aT:=fun b hb hA=>hE.aT b hb fun h=>hA (hF.sub hT h),gH:=fun b q h=>(hE.gH b q h).imp id (hF.sub hT) }
 have hB:Bk o gc g':=⟨fun j hj=>by rw [e3];exact hj,fun j _=>e1 j,fun j _=>e2 j,rfl⟩
 refine⟨g',⟨iu.base,fun b hb=>hT.up b (Nat.le_trans hE.size hb),hT.lo,fun k hk=>?_,fun k eO hk ha=>?_,fun k l eO wj hk hl ak po e=>?_,iu.cK,iu.nn,fun k J hk ha c hc=>?_,fun k J l wj hk ha hl po bH hc=>?_,fun k l J J' hk hl ak po=>?_⟩,hEx,hB⟩
 ·by_cases h:∃ j,o j=k
  ·obtain⟨j,rfl⟩:=h
   rw [e3] at hk
   have h1:=iu.al j hk
   rcases Nat.lt_or_ge j S.nx with h2|h2
   ·rw [show o j=ι j from m9 h2];have:=hF.lt j h2;rcases hF.nx with e|⟨_,e⟩<;>omega
   ·rw [show o j=T.nx+j from oS h2];rcases hF.nx with e|⟨_,e⟩<;>omega
  ·rw [f3 k fun j hj=>h ⟨j,hj⟩] at hk
   have:=hT.al k hk
   rcases hF.nx with e|⟨_,e⟩<;>omega
 ·rcases hF.hT k eO hk with ⟨j,p,rfl,h1,h2,h3⟩|⟨h1,h2,h3⟩
  ·have cC:gc.al j:=by rw [<-e3];exact ha
   obtain⟨h4,h5,h6⟩:=iu.cH j p h1 cC
   rw [show g'.ob (gP ι S.nx T.nx j)=gc.ob j from e1 j,show g'.cp (gP ι S.nx T.nx j)=gc.cp j from e2 j]
   exact⟨hF.sub hT h4,h5,h2 gc g' w' _ _ hB (fun J hJ=>Te j J (by rw [<-hJ];exact h1)) h6⟩
  ·have hn:=free k h1 h2
   rw [f3 k hn] at ha
   rw [f1 k hn,f2 k hn]
   obtain⟨h4,h5,h6⟩:=hT.cH k eO h3 ha
   have ir:=out k eO h3 ha h2
   refine⟨h4,Nat.lt_of_lt_of_le h5 hE.size,h6.later hL (hE.aT _ h5 ir) (fun q hq=>(hE.gH _ q hq).resolve_right ir) fun J hJ=>?_⟩
   subst hJ
   have hno:∀ c,g.fo (g.ob k) c->¬ A3 (g.pre ι S.nx) S w c:=by
    rintro c hc (h|⟨j,q,q1,q2,q3⟩)
    ·exact absurd (hT.iD k J h3 ha c hc).2 (by omega)
    ·obtain⟨cr,q4,_,q6⟩:=hF.hS j q q1
     rcases q3 with rfl|⟨J',rfl,q7⟩
     ·exact hT.j2 k J _ cr h3 ha q4 q2.2 (h2 j q2.1) hc
     ·exact h2 j q2.1 (hT.me _ _ J' J (by rw [<-q6 J' rfl];exact q4) h3 q2.2 ha)
   refine⟨by show X (g.ob k)=g.fo (g.ob k);rw [YE k J h3 h2],hE.size,fun c hc=>hE.aT c (hT.iD k J h3 ha c hc).2 (hno c hc),fun c q hc hq=>(hE.gH c q hq).resolve_right (hno c hc)⟩
 ·rcases hF.hT k eO hk with ⟨i,p,rfl,h1,h2⟩|⟨h1,h2,h3⟩<;>rcases hF.hT l wj hl with ⟨j,q,rfl,k1,k2⟩|⟨k1,k2,k3⟩
  ·have e':gc.ob i=gc.ob j:=by rw [<-e1,<-e1];exact e
   rw [iu.inj i j p q h1 k1 (by rw [<-e3];exact ak) (by rw [<-e3];exact po) e']
  ·have hn:=free l k1 k2
   rw [f3 l hn] at po
   rw [f1 l hn,show g'.ob (gP ι S.nx T.nx i)=gc.ob i from e1 i] at e
   exact absurd (e ▸ (iu.cH i p h1 (by rw [<-e3];exact ak)).1) (out l wj k3 po k2)
  ·have hn:=free k h1 h2
   rw [f3 k hn] at ak
   rw [f1 k hn,show g'.ob (gP ι S.nx T.nx j)=gc.ob j from e1 j] at e
   exact absurd (e ▸ (iu.cH j q k1 (by rw [<-e3];exact po)).1) (out k eO h3 ak h2)
  ·have hn:=free k h1 h2
   have hm:=free l k1 k2
   rw [f3 k hn] at ak
   rw [f3 l hm] at po
   rw [f1 k hn,f1 l hm] at e
   exact hT.inj k l eO wj h3 k3 ak po e
 ·rcases hF.hT k _ hk with ⟨j,p,rfl,h1,h2,h3⟩|⟨h1,h2,h3⟩
  ·have hp:S'.get j=some (.fo J):=by rw [<-h3 J rfl];exact h1
   have nm:gc.fo (gc.ob j) c:=by rw [<-Te j J hp,<-e1 j];exact hc
   obtain⟨h4,h5⟩:=iu.iD j J hp (by rw [<-e3];exact ha) c nm
   exact⟨hF.sub hT h4,h5⟩
  ·have hn:=free k h1 h2
   rw [f3 k hn] at ha
   have nm:g.fo (g.ob k) c:=by rw [<-YE k J h3 h2,<-f1 k hn];exact hc
   obtain⟨h4,h5⟩:=hT.iD k J h3 ha c nm
   exact⟨h4,Nat.lt_of_lt_of_le h5 hE.size⟩
 ·rcases hF.hT k _ hk with ⟨i,p,rfl,h1,h2,h3⟩|⟨h1,h2,h3⟩
  ·have hp:S'.get i=some (.fo J):=by rw [<-h3 J rfl];exact h1
   have cC:gc.al i:=by rw [<-e3];exact ha
   rcases hF.hT l wj hl with ⟨j,q,rfl,k1,k2⟩|⟨k1,k2,k3⟩
   ·have nm:gc.fo (gc.ob i) (gc.ob j):=by rw [<-Te i J hp,<-e1 i,<-e1 j];exact hc
    exact iu.j2 i J j q hp cC k1 (by rw [<-e3];exact po) (fun e=>bH (by rw [e])) nm
   ·have hn:=free l k1 k2
    rw [f3 l hn] at po
    have nm:gc.fo (gc.ob i) (g.ob l):=by rw [<-Te i J hp,<-e1 i,<-f1 l hn];exact hc
    exact out l wj k3 po k2 (iu.iD i J hp cC _ nm).1
  ·have hn:=free k h1 h2
   rw [f3 k hn] at ha
   have hX:=YE k J h3 h2
   rcases hF.hT l wj hl with ⟨j,q,rfl,k1,k2⟩|⟨k1,k2,k3⟩
   ·have nm:g.fo (g.ob k) (gc.ob j):=by rw [<-hX,<-f1 k hn,<-e1 j];exact hc
    rcases (iu.cH j q k1 (by rw [<-e3];exact po)).1 with h|⟨i,q,q1,q2,q3⟩
    ·exact absurd (hT.iD k J h3 ha _ nm).2 (by omega)
    ·obtain⟨cr,q4,_,q6⟩:=hF.hS i q q1
     rcases q3 with q3|⟨J',rfl,q7⟩
     ·rw [q3] at nm;exact hT.j2 k J _ cr h3 ha q4 q2.2 (h2 i q2.1) nm
     ·exact h2 i q2.1 (hT.me _ _ J' J (by rw [<-q6 J' rfl];exact q4) h3 q2.2 ha)
   ·have hm:=free l k1 k2
    rw [f3 l hm] at po
    have nm:g.fo (g.ob k) (g.ob l):=by rw [<-hX,<-f1 k hn,<-f1 l hm];exact hc
    exact hT.j2 k J l wj h3 ha k3 po bH nm
 ·rcases hF.hT k _ hk with ⟨i,p,rfl,h1,h2,h3⟩|⟨h1,h2,h3⟩<;>rcases hF.hT l _ hl with ⟨j,q,rfl,k1,k2,k3⟩|⟨k1,k2,k3⟩
  ·rw [iu.me i j J J' (by rw [<-h3 J rfl];exact h1) (by rw [<-k3 J' rfl];exact k1) (by rw [<-e3];exact ak) (by rw [<-e3];exact po)]
  ·rcases hF.fo with h|h
   ·obtain⟨x,h4,h5⟩:=h l J' k3
    exact absurd h5 (k2 x h4)
   ·exact absurd (by rw [<-h3 J rfl];exact h1) (h i J)
  ·rcases hF.fo with h|h
   ·obtain⟨x,h4,h5⟩:=h k J h3
    exact absurd h5 (h2 x h4)
   ·exact absurd (by rw [<-k3 J' rfl];exact k1) (h j J')
  ·rw [f3 k (free k h1 h2)] at ak
   rw [f3 l (free l k1 k2)] at po
   exact hT.me k l J J' h3 k3 ak po
end
section
variable {P:Program}{w0:World}{S S' T T':ae}{ι:Nat->Nat}{f:FuncId}{args gI:List AV}{r qD:AV}
theorem aV.frame (h:aV P w0 f args S r S') (hF:Fits ι S S' T T') (hl:gI.length=args.length) (ha:∀ (i:Nat) (a b:AV),gI[i]?=some a->args[i]?=some b->Rn ι S.nx a b) (hr:Rb (gP ι S.nx T.nx) r qD):aV P w0 f gI T qD T':=by
 refine⟨h.1,fun F m A g bO w hW hT hA=>(h.2 F m _ _ bO w hW (hF.inner hT) ⟨hA.1.trans hl,fun i b x hb hx=>?_⟩).mono ?_⟩
 ·have hi:i < gI.length:=by rw [hl];exact (List.getElem?_eq_some_iff.1 hb).1
  have h0:=List.getElem?_eq_getElem hi
  exact ha i _ b h0 hb _ _ _ (hA.2 i _ x h0 hx)
 ·rintro e w' ⟨v,gc,rfl,h1,h2,h3⟩
  obtain⟨g',k1,k2,k3⟩:=hF.outer hT h2 h3
  exact⟨v,g',rfl,hr gc g' w' v k3 h1,k1,k2⟩
end
end Go.Proofs.YtgphljokbodciaaGreat
