import Derived.Laws.BytesString
import Derived.Shelf.SlIterI.Collect
import Derived.Shelf.SlIterI.Sorted
import Derived.Shelf.SortM.Plain
import Derived.Shelf.SortM.SortNone
import Derived.Test.YtgjfgekaclobaaaGreatProg
import Derived.Test.YtgjfgekaclobaaaGreatCm14
namespace Go.Proofs.YtgjfgekaclobaaaGreat
set_option linter.unusedVariables false
set_option linter.unusedSimpArgs false
open Go.RowKit
section
variable {P:Program}{w0:World}{n:Nat}{o:Op}{α:AA}{S S':aa}{r:AV}{q:cB}{dr:Bool}
theorem Qv {op:BinOp}{isB:BK}{t:TypeId}{a b:AV}{e:Bool}(hB:isB=.b->P.underlying t=some .bool) (h:E1 op isB a b=some e):∃ x y,a=.v x/\b=.v y/\nI P op t x y=some (.bool e)/\(∀ k i j,x=.int k i->y=.int k j->arith op i j=none)/\(∀ s s',x=.string s->y=.string s'->op ≠ .add):=by
 unfold E1 at h
 split at h
 ·rename_i k a k' b
  split at h
  ·rename_i hk
   refine⟨_,_,rfl,rfl,?_,?_,fun s s' h=>by cases h⟩
   ·simp only [nI,hk]
    cases op<;>simp only [Option.some.injEq,reduceCtorEq] at h ⊢<;>subst h<;>rfl
   ·intro k i j h1 h2
    cases op<;>simp only [reduceCtorEq] at h<;>rfl
  ·cases h
 ·rename_i a b
  refine⟨_,_,rfl,rfl,?_,(fun k i j h=>by cases h),fun s s' h1 h2 he=>?_⟩
  ·simp only [nI]
   cases op<;>simp only [Option.some.injEq,reduceCtorEq] at h ⊢<;>subst h<;>rfl
  ·subst he;simp at h
 ·rename_i a b
  refine⟨_,_,rfl,rfl,?_,(fun k i j h=>by cases h),fun s s' h=>by cases h⟩
  split at h
  ·simp only [nI,hB rfl];simp only [Option.some.injEq] at h;subst h;rfl
  ·simp only [nI,hB rfl];simp only [Option.some.injEq] at h;subst h;rfl
  ·cases h
 ·cases h
theorem mT {op:BinOp}{isB:BK}{x y:QO}(h:res P.toTables o=some (.bin op isB x y)):∃ t u v s,o=.binOp op t u v s/\x=qo u/\y=qo v/\(isB=.b->P.underlying t=some .bool):=by
 cases o with
 |binOp RN t u v s =>
  simp only [res,a7] at h
  split at h
  ·rename_i hu
   injection h with h;injection h with h1 h2 h3 h4
   subst h1 h2 h3 h4
   exact⟨_,_,_,_,rfl,rfl,rfl,fun _=>hu⟩
  ·injection h with h;injection h with h1 h2 h3 h4
   subst h1 h2 h3 h4
   exact⟨_,_,_,_,rfl,rfl,rfl,fun h=>by cases h⟩
  ·injection h with h;injection h with h1 h2 h3 h4
   subst h1 h2 h3 h4
   exact⟨_,_,_,_,rfl,rfl,rfl,fun h=>by cases h⟩
  ·injection h with h;injection h with h1 h2 h3 h4
   subst h1 h2 h3 h4
   exact⟨_,_,_,_,rfl,rfl,rfl,fun h=>by cases h⟩
  ·split at h<;>cases h
  ·injection h with h;injection h with h1 h2 h3 h4
   subst h1 h2 h3 h4
   exact⟨_,_,_,_,rfl,rfl,rfl,fun h=>by cases h⟩
 |_ =>
  simp only [res] at h
  repeat' split at h
  all_goals cases h
theorem ad.bit {op:BinOp}{isB:BK}{x y:QO}{e:Bool}(h:E1 op isB (x.ev α.tm) (y.ev α.tm)=some e):ad P w0 dr (.bin op isB x y) α S (.v (.bool e)) S:=by
 refine ad.of rfl fun o hr=>?_
 obtain⟨t,u,v,s,rfl,rfl,rfl,hB⟩:=mT hr
 rw [aD,aD] at h
 obtain⟨x,y,h1,h2,h3,h4,h5⟩:=Qv hB h
 simp only [aK,h1,h2]
 split
 ·rename_i k a k' b e1 e2
  injection e1 with e1;injection e2 with e2
  subst e1 e2
  split
  ·rename_i c hc
   split
   ·rename_i hk
    have:k=k':=of_decide_eq_true hk
    subst this
    rw [h4 _ _ _ rfl rfl] at hc;cases hc
   ·rename_i hk
    simp only [nI] at h3
    rw [hk] at h3
    simp at h3
  ·rw [h3];exact oL.mk ⟨rfl,rfl⟩
 ·rename_i a b e1 e2
  injection e1 with e1;injection e2 with e2
  subst e1 e2
  have h6:=h5 _ _ rfl rfl
  split
  ·exact absurd rfl h6
  ·rw [h3];exact oL.mk ⟨rfl,rfl⟩
 ·rename_i a b ha hb e1 e2
  injection e1 with e1;injection e2 with e2
  subst e1 e2
  rw [h3];exact oL.mk ⟨rfl,rfl⟩
 ·rename_i h7 h8 h9
  exact absurd rfl (h9 x y rfl)
theorem ad.Y4 {op:BinOp}{isB:BK}{x y:QO}{k:IntKind}{a b c:Int}(h1:x.ev α.tm=.v (.int k a)) (h2:y.ev α.tm=.v (.int k b)) (h:arith op a b=some c):ad P w0 dr (.bin op isB x y) α S (.v (.int k (k.wrap c))) S:=by
 refine ad.of rfl fun o hr=>?_
 obtain⟨t,u,v,s,rfl,rfl,rfl,hB⟩:=mT hr
 rw [aD] at h1 h2
 simp only [aK,h1,h2,h,decide_true]
 exact⟨_,rfl,rfl,rfl⟩
theorem ad.cat {isB:BK}{x y:QO}{a b:ByteArray}(h1:x.ev α.tm=.v (.string a)) (h2:y.ev α.tm=.v (.string b)) (h:a.size+b.size<=9223372036854775807):ad P w0 dr (.bin .add isB x y) α S (.v (.string (a++b))) S:=by
 refine ad.of rfl fun o hr=>?_
 obtain⟨t,u,v,s,rfl,rfl,rfl,hB⟩:=mT hr
 rw [aD] at h1 h2
 simp only [aK,h1,h2]
 exact⟨h,rfl,rfl⟩
theorem ad.neg {x:QO}{k:IntKind}{a:Int}(h1:x.ev α.tm=.v (.int k a)):ad P w0 dr (.neg x) α S (.v (.int k (k.wrap (0 - a)))) S:=by
 refine ad.of rfl fun o hr=>?_
 cases o<;>simp only [res] at hr<;>(repeat' split at hr)<;>(try cases hr)
 rw [aD] at h1
 simp only [aK,h1]
 exact⟨_,rfl,rfl,rfl⟩
theorem ad.conv {x:QO}{k k':IntKind}{a:Int}(h1:x.ev α.tm=.v (.int k' a)):ad P w0 dr (.conv k x) α S (.v (.int k (k.wrap a))) S:=by
 refine ad.of rfl fun o hr=>?_
 cases o<;>simp only [res,a7] at hr<;>(repeat' split at hr)<;>(try cases hr)
 rename_i e1 e2
 rw [aD] at h1
 simp only [aK,h1,e1,e2]
 exact⟨_,rfl,rfl,rfl⟩
theorem ad.oo {x:QO}{a:ByteArray}(h1:x.ev α.tm=.v (.string a)):ad P w0 dr (.oo x) α S (.v (.string a)) S:=by
 refine ad.of rfl fun o hr=>?_
 cases o<;>simp only [res,a7] at hr<;>(repeat' split at hr)<;>(try cases hr)
 rename_i e1 e2
 rw [aD] at h1
 simp only [aK,h1,e1,e2]
 exact⟨rfl,rfl⟩
def dZ (f:AV) (args:List AV):Option (FuncId × List AV):=match f with
 |.v (.func (.func g) a b)=>match a.toList,b.toList with
  |[],[]=>some (g,args)
  |_,_=>none
 |.fn (.func g) first cap=>some (g,first++args++cap)
 |_=>none
theorem jZ {f:QO}{args:List QO}(h:res P.toTables o=some (.call f args)):∃ c u,o=.call c/\c.callee=.value u/\f=qo u/\args=c.args.toList.map qo:=by
 cases o with
 |call c =>
  simp only [res] at h
  split at h
  ·rename_i u hu
   injection h with h;injection h with h1 h2
   exact⟨c,u,rfl,hu,h1.symm,h2.symm⟩
  ·repeat' split at h
   all_goals cases h
  ·cases h
 |_ =>
  simp only [res] at h
  repeat' split at h
  all_goals cases h
theorem iO {l:List Operand}:(l.map qo).map (·.ev α.tm)=l.map α.ev:=by
 rw [List.map_map]
 exact List.map_congr_left fun x _=>aD x
theorem ad.call {f:QO}{aZ9:List QO}{g:FuncId}{args:List AV}(h:dZ (f.ev α.tm) (aZ9.map (·.ev α.tm))=some (g,args)) (hc:aE P w0 g args S r S') (hd:dr=true->S'=S):ad P w0 dr (.call f aZ9) α S r S':=by
 cases dr with
 |false =>
  intro n o hr
  refine de.zr ?_
  obtain⟨c,u,ho,hu,rfl,rfl⟩:=jZ hr
  rw [iO,aD] at h
  unfold dZ at h
  rw [ho]
  simp only [aK,hu]
  split at h
  ·rename_i g' a b he
   split at h
   ·rename_i e1 e2
    injection h with h;injection h with h1 h2
    subst h1 h2
    simp only [uD,he,e1,e2]
    exact⟨r,S',hc,rfl,rfl⟩
   ·cases h
  ·rename_i g' a b he
   injection h with h;injection h with h1 h2
   subst h1 h2
   simp only [uD,he]
   exact⟨r,S',hc,rfl,rfl⟩
  ·cases h
 |true =>
  intro n o hr
  refine DK.Y1 ?_
  obtain⟨c,u,ho,hu,rfl,rfl⟩:=jZ hr
  rw [iO,aD] at h
  unfold dZ at h
  obtain rfl:=hd rfl
  rw [ho]
  simp only [jI,hu]
  split at h
  ·rename_i g' a b he
   split at h
   ·rename_i e1 e2
    injection h with h;injection h with h1 h2
    subst h1 h2
    simp only [w7,he,e1,e2]
    exact⟨r,hc,rfl,rfl⟩
   ·cases h
  ·rename_i g' a b he
   injection h with h;injection h with h1 h2
   subst h1 h2
   simp only [w7,he]
   exact⟨r,hc,rfl,rfl⟩
  ·cases h
def KK (str:Bool):AV->Option Nat
 |.sl _ rows=>match str with|false=>some rows.length|true=>none
 |.ob _ _ _ len _=>match str with|false=>some len|true=>none
 |.v (.string s)=>match str with|true=>some s.size|false=>none
 |_=>none
theorem ad.len {str:Bool}{x:QO}{m:Nat}(h:KK str (x.ev α.tm)=some m):ad P w0 dr (.len str x) α S (.v (.int .i64 m)) S:=by
 refine ad.of rfl fun o hr=>?_
 cases o<;>simp only [res,a7] at hr<;>(repeat' split at hr)<;>(try cases hr)
 all_goals
  rw [aD] at h
  simp only [aK,j6,List.map_cons,List.map_nil, *]
  refine aL.mk (a:=m) ?_ ⟨rfl,rfl⟩
  unfold lenOf
  unfold KK at h
  split at h<;>(try split at h)<;>(try cases h)<;>first|contradiction|simp only [isStr,kQ, *]
theorem ad.ind {m:Nat}{x i:QO}{ex:Bool}{rows:List (List AV)}{row:List AV}{k:IntKind}{j:Int}(h1:x.ev α.tm=.sl ex rows) (h2:i.ev α.tm=.v (.int k j)) (h3:idx rows j=some row) (h4:∀ r ∈ rows,r.length=m):ad P w0 dr (.lx m x i) α S (.ip row) S:=by
 refine ad.of rfl fun o hr=>?_
 cases o<;>simp only [res,a7,cL] at hr<;>(repeat' split at hr)<;>(try cases hr)
 rw [aD] at h1 h2
 simp only [aK, *]
 exact aL.mk rfl ⟨h4,rfl,rfl⟩
theorem ad.RO {m:Nat}{x i:QO}{k off len:Nat}{cx:Option Nat}{ik:IntKind}{j:Int}(h1:x.ev α.tm=.ob k m off len cx) (h2:i.ev α.tm=.v (.int ik j)) (h3:0<=j) (h4:j < len):ad P w0 dr (.lx m x i) α S (.pt k m (off+j.toNat) 0) S:=by
 refine ad.of rfl fun o hr=>?_
 cases o<;>simp only [res,a7,cL] at hr<;>(repeat' split at hr)<;>(try cases hr)
 rw [aD] at h1 h2
 rename_i e1 _ e2
 simp only [aK,h1,h2,e1,e2]
 exact⟨trivial,h3,h4,rfl,rfl⟩
theorem ad.KL {x i:QO}{s:ByteArray}{ik:IntKind}{j:Int}{b:UInt8}(h1:x.ev α.tm=.v (.string s)) (h2:i.ev α.tm=.v (.int ik j)) (h3:idx s.data.toList j=some b):ad P w0 dr (.sR x i) α S (.v (.int .u8 b.toNat)) S:=by
 refine ad.of rfl fun o hr=>?_
 cases o<;>simp only [res,a7,cL] at hr<;>(repeat' split at hr)<;>(try cases hr)
 rw [aD] at h1 h2
 simp only [aK, *]
 exact aL.mk rfl ⟨rfl,rfl⟩
theorem ad.min {x y:QO}{k:IntKind}{a b:Int}(h1:x.ev α.tm=.v (.int k a)) (h2:y.ev α.tm=.v (.int k b)):ad P w0 dr (.min x y) α S (.v (.int k (min a b))) S:=by
 refine ad.of rfl fun o hr=>?_
 cases o<;>simp only [res,a7] at hr<;>(repeat' split at hr)<;>(try cases hr)
 rw [aD] at h1 h2
 simp only [aK,j6,List.map_cons,List.map_nil,decide_true, *]
 exact⟨rfl,rfl⟩
theorem ad.max {x y:QO}{k:IntKind}{a b:Int}(h1:x.ev α.tm=.v (.int k a)) (h2:y.ev α.tm=.v (.int k b)):ad P w0 dr (.max x y) α S (.v (.int k (max a b))) S:=by
 refine ad.of rfl fun o hr=>?_
 cases o<;>simp only [res,a7] at hr<;>(repeat' split at hr)<;>(try cases hr)
 rw [aD] at h1 h2
 simp only [aK,j6,List.map_cons,List.map_nil,decide_true, *]
 exact⟨rfl,rfl⟩
theorem ad.rem {isB:BK}{x y:QO}{k:IntKind}{a b:Int}(h1:x.ev α.tm=.v (.int k a)) (h2:y.ev α.tm=.v (.int k b)) (hb:b ≠ 0):ad P w0 false (.bin .rem isB x y) α S (.v (.int k (a.tmod b))) S:=by
 refine ad.run fun n o hr=>?_
 obtain⟨t,u,v,s,ho,rfl,rfl,hB⟩:=mT hr
 rw [aD] at h1 h2
 refine aI.quiet fun A g q w hS hA=>?_
 have e1:=hA.ev u
 have e2:=hA.ev v
 rw [h1] at e1
 rw [h2] at e2
 refine⟨_,?_,.v⟩
 simp [execOp,ho,bg e1,bg e2,eqGuard,binOp,Op.intDiv,hb]
end
section
variable {P:Program}{w0:World}{rd:Bool}{n:Nat}{α ag:AA}{S S':aa}{Q:Exit->AA->aa->Prop}{ex:Exit}{r:AV}{i:QI}{l:List QI}{K:List ig}{dr:Bool}{cf oK:QF}
theorem ab.op (hw:bB α.tm i.g=some true) (h:ad P w0 dr i.q α S r S') (k:ab P w0 rd n Q (.aR dr l K) (bJ i.d α r) S'):ab P w0 rd n Q (.aR dr (i::l) K) α S:=ff.op hw h k
theorem ab.bif {e:Bool}(hw:bB α.tm i.g=some true) (h:ad P w0 dr i.q α S (.v (.bool e)) S') (k1:e=true->ab P w0 rd n Q (.aR dr l K) (bJ i.d α (.v (.bool true))) S') (k2:e=false->ab P w0 rd n Q (.aR dr l K) (bJ i.d α (.v (.bool false))) S') :
  ab P w0 rd n Q (.aR dr (i::l) K) α S:=by
 refine ff.op hw h ?_
 cases e with
 |true=>exact k1 rfl
 |false=>exact k2 rfl
theorem ab.int {ik:IntKind}{e:Int}(hw:bB α.tm i.g=some true) (h:ad P w0 dr i.q α S (.v (.int ik e)) S') (k:∀ d,d=e->ab P w0 rd n Q (.aR dr l K) (bJ i.d α (.v (.int ik d))) S'):ab P w0 rd n Q (.aR dr (i::l) K) α S:=ff.op hw h (k e rfl)
theorem ab.str {e:ByteArray}(hw:bB α.tm i.g=some true) (h:ad P w0 dr i.q α S (.v (.string e)) S') (k:∀ d,d=e->ab P w0 rd n Q (.aR dr l K) (bJ i.d α (.v (.string d))) S'):ab P w0 rd n Q (.aR dr (i::l) K) α S:=ff.op hw h (k e rfl)
theorem Nt {c:Int}(h1:-9223372036854775808<=c) (h2:c<=9223372036854775807):IntKind.i64.wrap c=c:=wrap64 h1 h2
theorem ad.xf {op:BinOp}{isB:BK}{x y:QO}{a b c:Int}(h1:x.ev α.tm=.v (.int .i64 a)) (h2:y.ev α.tm=.v (.int .i64 b)) (h:arith op a b=some c) (hl:-9223372036854775808<=c) (hh:c<=9223372036854775807):ad P w0 dr (.bin op isB x y) α S (.v (.int .i64 c)) S:=by
 have:=ad.Y4 (P:=P) (w0:=w0) (S:=S) (dr:=dr) (isB:=isB) h1 h2 h
 rw [Nt hl hh] at this
 exact this
theorem ad.RP {x:QO}{k':IntKind}{a:Int}(h1:x.ev α.tm=.v (.int k' a)) (hl:-9223372036854775808<=a) (hh:a<=9223372036854775807):ad P w0 dr (.conv .i64 x) α S (.v (.int .i64 a)) S:=by
 have:=ad.conv (P:=P) (w0:=w0) (S:=S) (dr:=dr) (k:=.i64) h1
 rw [Nt hl hh] at this
 exact this
theorem ad.b9 {f:QO}{aZ9:List QO}{g:FuncId}{args:List AV}(h:dZ (f.ev α.tm) (aZ9.map (·.ev α.tm))=some (g,args)) (hc:av P w0 g args r) (hp:du args):ad P w0 dr (.call f aZ9) α S r S:=ad.call h (hc.AW hp S) fun _=>rfl
theorem ad.E4 {f:QO}{aZ9:List QO}{g:FuncId}{args iH:List AV}(h:dZ (f.ev α.tm) (aZ9.map (·.ev α.tm))=some (g,iH)) (hc:av P w0 g args r) (hp:du args) (hs:pV r) (hf:jg S iH args):ad P w0 dr (.call f aZ9) α S r S:=ad.call h (hc.aad hp hs hf) fun _=>rfl
def lpQ (P:Program) (w0:World) (rd:Bool) (n:Nat) (I:Nat->AA->aa->Prop) (Q:Exit->AA->aa->Prop) (K:List ig) (k:Nat):Exit->AA->aa->Prop :=
 fun ex α S=>match ex with|.normal=>∃ j,j < k/\I j α S|e=>ab P w0 rd n Q (.out e K) α S
def LpI {σ:Type}(st:σ->List (Nat × AV)) (ds:List DE) (so:σ->aa) (I:σ->Prop) (μ:σ->Nat) (k:Nat) (α:AA) (S:aa):Prop:=∃ s,I s/\μ s=k/\α.has (st s)/\α.df=ds/\S=so s
def jj (f:Nat->AV):List (Nat × AV)->Nat->AV
 |[]=>f
 |p::l=>aX (jj f l) p.1 p.2
theorem ab.next {σ:Type}{st:σ->List (Nat × AV)}{ds:List DE}{so:σ->aa}{I:σ->Prop}{μ:σ->Nat}{k:Nat}(s:σ) (hI:I s) (hk:μ s < k) (h:α.has (st s)) (hd:α.df=ds) (hS:S=so s) :
  ab P w0 rd n (lpQ P w0 rd n (LpI st ds so I μ) Q K k) (.out .normal []) α S:=⟨μ s,hk,s,hI,rfl,h,hd,hS⟩
inductive QR where
 |t (n:Nat)
 |cell (k:LK) (n:Nat)
def pY (T:Tables):List ResultVar->Option (List QR)
 |[]=>some []
 |.tmp n::l=>match pY T l with
  |some l'=>some (.t n::l')
  |none=>none
 |.cell n t::l=>match A3 T t,pY T l with
  |some k,some l'=>some (.cell k n::l')
  |_,_=>none
def jJ (f:Nat->AV) (S:aa):List QR->Option (List AV)
 |[]=>some []
 |.t n::l=>match jJ f S l with
  |some l'=>some (f n::l')
  |none=>none
 |.cell k n::l=>match jt k S (f n),jJ f S l with
  |some a,some l'=>some (a::l')
  |_,_=>none
def vX (qs:List QR) (ex:Exit) (α:AA) (S:aa):Option (AV × aa):=match EX ex,sZ S α.df with
 |true,true=>match jJ α.tm (gH S α.df) qs with
  |some [a]=>some (a,gH S α.df)
  |some l=>some (.aC l,gH S α.df)
  |none=>none
 |_,_=>none
def oM (qs:List QR) (R:AV->aa->Prop) (ex:Exit) (α:AA) (S:aa):Prop:=∃ r S',vX qs ex α S=some (r,S')/\R r S'
theorem vY {l:List ResultVar}:∀ {qs:List QR}{m:List AV},pY P.toTables l=some qs->jJ α.tm S qs=some m->s4 P α S l=some m:=by
 induction l with
 |nil=>intro qs m h k;obtain rfl:=Option.some.inj h;exact k
 |cons v l ih =>
  intro qs m h k
  cases v with
  |tmp n =>
   simp only [pY] at h
   split at h
   ·rename_i l' hl
    obtain rfl:=Option.some.inj h
    simp only [jJ] at k
    split at k
    ·rename_i m' hm
     obtain rfl:=Option.some.inj k
     simp only [s4,E5,ih hl hm]
    ·cases k
   ·cases h
  |cell n t =>
   simp only [pY] at h
   split at h
   ·rename_i lk l' hk hl
    obtain rfl:=Option.some.inj h
    simp only [jJ] at k
    split at k
    ·rename_i a m' ha hm
     obtain rfl:=Option.some.inj k
     rw [<-zo hk] at ha
     simp only [s4,E5,ha,ih hl hm]
    ·cases k
   ·cases h
theorem xg {rs:Array ResultVar}{qs:List QR}{R:AV->aa->Prop}(hr:pY P.toTables rs.toList=some qs) (h:oM qs R ex α S):A8 P rs R ex α S:=by
 obtain⟨r,S',h,k⟩:=h
 unfold vX at h
 split at h
 ·rename_i he hd
  have key:∀ m,jJ α.tm (gH S α.df) qs=some m->s4 P α (gH S α.df) rs.toList=some m:=fun m hm=>vY hr hm
  unfold A8
  rw [hd]
  have fin:rz P rs α (gH S α.df)=some r/\gH S α.df=S':=by
   split at h
   ·rename_i a hq
    injection h with h;injection h with h1 h2
    subst h1
    exact⟨by unfold rz;rw [key _ hq],h2⟩
   ·rename_i l aP hq
    injection h with h;injection h with h1 h2
    subst h1
    refine⟨?_,h2⟩
    unfold rz
    rw [key _ hq]
    split
    ·rename_i e;injection e with e;subst e;exact (aP _ rfl).elim
    ·rename_i e;injection e with e;subst e;rfl
    ·rename_i e;cases e
   ·cases h
  rw [fin.1,fin.2]
  cases ex<;>first|exact k|cases he
 ·cases h
theorem ab.fin {qs:List QR}{R:AV->aa->Prop}(h:vX qs ex α S=some (r,S')) (k:R r S'):ab P w0 rd n (oM qs R) (.out ex []) α S:=⟨r,S',h,k⟩
structure bQ (P:Program) (f:FuncId) (q:QC × List QR) (n:Nat):Prop where
 out:∃ fn c,P.funcs[f]?=some fn/\fn.body=some c/\fn.ntmps=n/\pY P.toTables fn.results.toList=some q.2/\comp P.toTables n c=some q.1/\cg P c=true/\∀ (xs:Array Value) (w:World),(callFunc f xs).run P w=.ok (.enter f xs) w
def AG (T:Tables) (fn:Func):Option (QC × List QR):=match fn.body with
 |some c=>match comp T fn.ntmps c,pY T fn.results.toList with
  |some q,some qs=>some (q,qs)
  |_,_=>none
 |none=>none
def xh (P:Program) (fn:Func):Bool:=match fn.body with|some c=>cg P c|none=>false
theorem bQ.of {f:FuncId}{q:QC × List QR}{fn:Func}{T:Tables}(hf:P.funcs[f]?=some fn) (hq:AG T fn=some q) (hT:P.toTables=T) (hn:fn.ntmps=n) (hd:xh P fn=true)
  (hc:∀ (xs:Array Value) (w:World),(callFunc f xs).run P w=.ok (.enter f xs) w):bQ P f q n:=by
 subst hT
 unfold AG at hq
 unfold xh at hd
 cases hb:fn.body with
 |none=>rw [hb] at hq;cases hq
 |some c =>
  rw [hb] at hq hd
  simp only at hq
  split at hq
  ·rename_i q1 qs h1 h2
   obtain rfl:=Option.some.inj hq
   exact⟨⟨fn,c,hf,hb,hn,h2,by rw [<-hn];exact h1,hd,hc⟩⟩
  ·cases hq
theorem ab.mono {Q':Exit->AA->aa->Prop}(hm:∀ ex α S,Q ex α S->Q' ex α S) {c:QC}(h:ab P w0 rd n Q (.run c []) α S):ab P w0 rd n Q' (.run c []) α S:=by
 intro c0 hc hd
 obtain⟨ex,ag,S',h1,h2⟩:=h c0 hc hd
 exact⟨ex,ag,S',h1,hm _ _ _ h2⟩
theorem bQ.eQ {f:FuncId}{q:QC × List QR}{args:List AV}(F:bQ P f q n) (aT:args.length<=n) (hp:Pure r) (h:ab P w0 false n (oM q.2 fun r' S=>bX S r' r) (.run q.1 []) ⟨j7 args,[]⟩ aa.none_):av P w0 f args r:=by
 obtain⟨fn,c,hf,hb,hn,hr,hq,hd,hc⟩:=F.out
 exact av.of_wp hf hb hc hn aT hp (ab.mono (fun ex α S=>xg hr) h c hq hd)
theorem bQ.w8 {f:FuncId}{q:QC × List QR}{args:List AV}{R:AV->aa->Prop}(F:bQ P f q n) (aT:args.length<=n) (h:ab P w0 false n (oM q.2 R) (.run q.1 []) ⟨j7 args,[]⟩ S):∃ r S',aE P w0 f args S r S'/\R r S':=by
 obtain⟨fn,c,hf,hb,hn,hr,hq,hd,hc⟩:=F.out
 exact aE.of_wp hf hb hc hn aT (ab.mono (fun ex α S=>xg hr) h c hq hd)
theorem bX.of_eq {S:aa}{a b:AV}(h:a=b):bX S a b:=by subst h;exact bX.refl _
end
structure Hd where
 h:{α β:Type}->(α->β)->α->β
 eq:∀ {α β:Type}(f:α->β) (a:α),h f a=f a
def Hd.plain:Hd:=⟨fun f a=>f a,fun _ _=>rfl⟩
def dw (ρ:Hd) {T:Type}(f:T->List AV) (ex:Bool) (l:List T):AV:=.sl ex (ρ.h (List.map f) l)
section
variable {ρ:Hd}{T:Type}{f:T->List AV}{l:List T}{ex:Bool}
theorem ij:dw ρ f ex l=.sl ex (l.map f):=by rw [dw,ρ.eq]
theorem aF:(ρ.h (List.map f) l).length=l.length:=by rw [ρ.eq,List.length_map]
theorem ky {i:Int}{k:Nat}{x:T}(hi:i=(k:Int)) (h:l[k]?=some x):idx (ρ.h (List.map f) l) i=some (f x):=by
 rw [ρ.eq]
 exact Qq hi h
theorem kz {m:Nat}(h:∀ x,(f x).length=m):∀ r ∈ ρ.h (List.map f) l,r.length=m:=by
 rw [ρ.eq]
 intro r hr
 obtain⟨x,_,rfl⟩:=List.mem_map.1 hr
 exact h x
theorem eR (h:∀ x ∈ l,∀ a ∈ f x,Pure a):Pure (dw ρ f ex l):=by
 rw [ij]
 refine .sl fun row hr a ha=>?_
 obtain⟨x,hx,rfl⟩:=List.mem_map.1 hr
 exact h x hx a ha
end
section
open Go.Shelf
def Tryz.zw:Go.Shelf.Ren:=⟨fun|7=>374|10=>406|n=>n,fun|23=>371|26=>3|3=>3|28=>258|0=>0|27=>257|33=>197|4=>4|n=>n,fun|n=>n⟩
theorem Tryz.Uz:Go.Proofs.SlLaysZI.n7 Tryz.prog Tryz.zw:={
 mixed:=by kernel_rfl
 f7:=⟨Tryz.f374.name,by decide,Tryz.func374.trans (congrArg some (by kernel_rfl))⟩
 f10:=⟨Tryz.f406.name,by decide,Tryz.func406.trans (congrArg some (by kernel_rfl))⟩
 t0:=Tryz.underlying0
 a0:=Tryz.isAgg0
 z0:=Tryz.sizeOf0
 v0:=Tryz.zeroValue0
 t4:=Tryz.underlying4
 a4:=Tryz.isAgg4
 z4:=Tryz.sizeOf4
 v4:=Tryz.zeroValue4
 t23:=Tryz.underlying371
 a23:=Tryz.isAgg371
 z23:=Tryz.sizeOf371
 v23:=Tryz.zeroValue371
 t26:=Tryz.underlying3
 a26:=Tryz.isAgg3
 z26:=Tryz.sizeOf3
 v26:=Tryz.zeroValue3
 t27:=Tryz.underlying257
 a27:=Tryz.isAgg257
 z27:=Tryz.sizeOf257
 v27:=Tryz.zeroValue257
 t28:=Tryz.underlying258
 a28:=Tryz.isAgg258
 z28:=Tryz.sizeOf258
 v28:=Tryz.zeroValue258
 t33:=Tryz.underlying197
 a33:=Tryz.isAgg197
 z33:=Tryz.sizeOf197
 v33:=Tryz.zeroValue197 }
def Tryz.vo:Go.Shelf.Ren:=⟨fun|6=>373|8=>404|9=>405|11=>427|13=>429|12=>428|23=>443|24=>444|14=>434|15=>435|16=>436|17=>437|18=>438|19=>439|20=>440|21=>441|22=>442|25=>454|26=>455|27=>456|28=>457|29=>458|30=>283|31=>462|n=>n,fun|26=>3|28=>258|24=>38|0=>0|3=>3|37=>41|48=>423|50=>435|4=>4|40=>428|39=>427|45=>213|5=>5|9=>9|51=>442|55=>446|57=>450|58=>451|33=>197|n=>n,fun|n=>n⟩
theorem Tryz.Qw:Go.Proofs.SlLaysZI.n6 Tryz.prog Tryz.vo:={
 mixed:=by kernel_rfl
 f6:=⟨Tryz.f373.name,by decide,Tryz.func373.trans (congrArg some (by kernel_rfl))⟩
 f8:=⟨Tryz.f404.name,by decide,Tryz.func404.trans (congrArg some (by kernel_rfl))⟩
 f11:=⟨Tryz.f427.name,by decide,Tryz.func427.trans (congrArg some (by kernel_rfl))⟩
 t0:=Tryz.underlying0
 a0:=Tryz.isAgg0
 z0:=Tryz.sizeOf0
 v0:=Tryz.zeroValue0
 t24:=Tryz.underlying38
 a24:=Tryz.isAgg38
 z24:=Tryz.sizeOf38
 v24:=Tryz.zeroValue38
 t26:=Tryz.underlying3
 a26:=Tryz.isAgg3
 z26:=Tryz.sizeOf3
 v26:=Tryz.zeroValue3
 t28:=Tryz.underlying258
 a28:=Tryz.isAgg258
 z28:=Tryz.sizeOf258
 v28:=Tryz.zeroValue258
 i26:=by kernel_rfl }
def Tryz.I4:Go.Shelf.Ren:=⟨fun|5=>405|8=>429|7=>428|19=>443|20=>444|10=>434|11=>435|12=>436|13=>437|14=>438|15=>439|16=>440|17=>441|18=>442|30=>454|31=>455|32=>456|33=>457|34=>458|35=>283|40=>462|n=>n,fun|23=>38|25=>3|3=>3|32=>41|22=>38|0=>0|44=>423|46=>435|4=>4|36=>428|35=>427|41=>213|5=>5|9=>9|53=>442|57=>446|63=>450|64=>451|n=>n,fun|n=>n⟩
theorem Tryz.Nu:Go.Proofs.SlLaysM.n5 Tryz.prog Tryz.I4:={
 mixed:=by kernel_rfl
 f5:=⟨Tryz.f405.name,by decide,Tryz.func405.trans (congrArg some (by kernel_rfl))⟩
 f7:=⟨Tryz.f428.name,by decide,Tryz.func428.trans (congrArg some (by kernel_rfl))⟩
 f8:=Tryz.func429.trans (congrArg some (by kernel_rfl))
 f10:=⟨Tryz.f434.name,by decide,Tryz.func434.trans (congrArg some (by kernel_rfl))⟩
 f11:=⟨Tryz.f435.name,by decide,Tryz.func435.trans (congrArg some (by kernel_rfl))⟩
 f12:=⟨Tryz.f436.name,by decide,Tryz.func436.trans (congrArg some (by kernel_rfl))⟩
 f13:=⟨Tryz.f437.name,by decide,Tryz.func437.trans (congrArg some (by kernel_rfl))⟩
 f14:=⟨Tryz.f438.name,by decide,Tryz.func438.trans (congrArg some (by kernel_rfl))⟩
 f15:=⟨Tryz.f439.name,by decide,Tryz.func439.trans (congrArg some (by kernel_rfl))⟩
 f16:=⟨Tryz.f440.name,by decide,Tryz.func440.trans (congrArg some (by kernel_rfl))⟩
 f17:=⟨Tryz.f441.name,by decide,Tryz.func441.trans (congrArg some (by kernel_rfl))⟩
 f18:=⟨Tryz.f442.name,by decide,Tryz.func442.trans (congrArg some (by kernel_rfl))⟩
 f19:=Tryz.func443.trans (congrArg some (by kernel_rfl))
 f20:=Tryz.func444.trans (congrArg some (by kernel_rfl))
 f30:=⟨Tryz.f454.name,by decide,Tryz.func454.trans (congrArg some (by kernel_rfl))⟩
 f31:=Tryz.func455.trans (congrArg some (by kernel_rfl))
 f32:=Tryz.func456.trans (congrArg some (by kernel_rfl))
 f33:=⟨Tryz.f457.name,by decide,Tryz.func457.trans (congrArg some (by kernel_rfl))⟩
 f34:=⟨Tryz.f458.name,by decide,Tryz.func458.trans (congrArg some (by kernel_rfl))⟩
 f35:=⟨Tryz.f283.name,by decide,Tryz.func283.trans (congrArg some (by kernel_rfl))⟩
 f40:=⟨Tryz.f462.name,by decide,Tryz.func462.trans (congrArg some (by kernel_rfl))⟩
 t0:=Tryz.underlying0
 a0:=Tryz.isAgg0
 z0:=Tryz.sizeOf0
 v0:=Tryz.zeroValue0
 t3:=Tryz.underlying3
 a3:=Tryz.isAgg3
 z3:=Tryz.sizeOf3
 v3:=Tryz.zeroValue3
 t4:=Tryz.underlying4
 a4:=Tryz.isAgg4
 z4:=Tryz.sizeOf4
 v4:=Tryz.zeroValue4
 t5:=Tryz.underlying5
 a5:=Tryz.isAgg5
 z5:=Tryz.sizeOf5
 v5:=Tryz.zeroValue5
 t9:=Tryz.underlying9
 a9:=Tryz.isAgg9
 z9:=Tryz.sizeOf9
 v9:=Tryz.zeroValue9
 t22:=Tryz.underlying38
 a22:=Tryz.isAgg38
 z22:=Tryz.sizeOf38
 v22:=Tryz.zeroValue38
 t23:=Tryz.underlying38
 a23:=Tryz.isAgg38
 z23:=Tryz.sizeOf38
 v23:=Tryz.zeroValue38
 t25:=Tryz.underlying3
 a25:=Tryz.isAgg3
 z25:=Tryz.sizeOf3
 v25:=Tryz.zeroValue3
 t32:=Tryz.underlying41
 a32:=Tryz.isAgg41
 z32:=Tryz.sizeOf41
 v32:=Tryz.zeroValue41
 t35:=Tryz.underlying427
 a35:=Tryz.isAgg427
 z35:=Tryz.sizeOf427
 v35:=Tryz.zeroValue427
 t36:=Tryz.underlying428
 a36:=Tryz.isAgg428
 z36:=Tryz.sizeOf428
 v36:=Tryz.zeroValue428
 t41:=Tryz.underlying213
 a41:=Tryz.isAgg213
 z41:=Tryz.sizeOf213
 v41:=Tryz.zeroValue213
 t44:=Tryz.underlying423
 a44:=Tryz.isAgg423
 z44:=Tryz.sizeOf423
 v44:=Tryz.zeroValue423
 t46:=Tryz.underlying435
 a46:=Tryz.isAgg435
 z46:=Tryz.sizeOf435
 v46:=Tryz.zeroValue435
 t53:=Tryz.underlying442
 a53:=Tryz.isAgg442
 z53:=Tryz.sizeOf442
 v53:=Tryz.zeroValue442
 t57:=Tryz.underlying446
 a57:=Tryz.isAgg446
 z57:=Tryz.sizeOf446
 v57:=Tryz.zeroValue446
 t63:=Tryz.underlying450
 a63:=Tryz.isAgg450
 z63:=Tryz.sizeOf450
 v63:=Tryz.zeroValue450
 t64:=Tryz.underlying451
 a64:=Tryz.isAgg451
 z64:=Tryz.sizeOf451
 v64:=Tryz.zeroValue451 }
end
end Go.Proofs.YtgjfgekaclobaaaGreat
