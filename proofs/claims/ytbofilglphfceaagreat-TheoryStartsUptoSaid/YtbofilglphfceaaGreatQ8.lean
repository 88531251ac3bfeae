import Derived.Laws.BytesString
import Derived.Test.YtbofilglphfceaaGreatQ7
namespace Go.Proofs.YtbofilglphfceaaGreat
set_option linter.unusedVariables false
set_option linter.unusedSimpArgs false
open Go.RowKit
section
variable {P:Program}{w0:World}{n:Nat}{o:Op}{α:AA}{S S':ae}{r:AV}{q:dm}{dr:Bool}
theorem RL {op:BinOp}{isB:BK}{t:TypeId}{a b:AV}{e:Bool}(hB:isB=.b->P.underlying t=some .bool) (h:Gm op isB a b=some e):∃ x y,a=.v x/\b=.v y/\oQ P op t x y=some (.bool e)/\(∀ k i j,x=.int k i->y=.int k j->arith op i j=none)/\(∀ s s',x=.string s->y=.string s'->op ≠ .add):=by
 unfold Gm at h
 split at h
 ·rename_i k a k' b
  split at h
  ·rename_i hk
   refine⟨_,_,rfl,rfl,?_,?_,fun s s' h=>by cases h⟩
   ·simp only [oQ,hk]
    cases op<;>simp only [Option.some.injEq,reduceCtorEq] at h ⊢<;>subst h<;>rfl
   ·intro k i j h1 h2
    cases op<;>simp only [reduceCtorEq] at h<;>rfl
  ·cases h
 ·rename_i a b
  refine⟨_,_,rfl,rfl,?_,(fun k i j h=>by cases h),fun s s' h1 h2 he=>?_⟩
  ·simp only [oQ]
   cases op<;>simp only [Option.some.injEq,reduceCtorEq] at h ⊢<;>subst h<;>rfl
  ·subst he;simp at h
 ·rename_i a b
  refine⟨_,_,rfl,rfl,?_,(fun k i j h=>by cases h),fun s s' h=>by cases h⟩
  split at h
  ·simp only [oQ,hB rfl];simp only [Option.some.injEq] at h;subst h;rfl
  ·simp only [oQ,hB rfl];simp only [Option.some.injEq] at h;subst h;rfl
  ·cases h
 ·cases h
theorem pG {op:BinOp}{isB:BK}{x y:QO}(h:res P.toTables o=some (.bin op isB x y)):∃ t u v s,o=.binOp op t u v s/\x=qo u/\y=qo v/\(isB=.b->P.underlying t=some .bool):=by
 cases o with
 |binOp op' t u v s =>
  simp only [res,b9] at h
  split at h
  ·rename_i hu
   injection h with h;injection h with h1 h2 h3 h4
   subst h1 h2 h3 h4
   exact⟨_,_,_,_,rfl,rfl,rfl,fun _=>hu⟩
  ·injection h with h;injection h with h1 h2 h3 h4
   subst h1 h2 h3 h4
   exact⟨_,_,_,_,rfl,rfl,rfl,fun h=>by cases h⟩
  ·split at h<;>cases h
  ·injection h with h;injection h with h1 h2 h3 h4
   subst h1 h2 h3 h4
   exact⟨_,_,_,_,rfl,rfl,rfl,fun h=>by cases h⟩
 |_ =>
  simp only [res] at h
  repeat' split at h
  all_goals cases h
theorem ad.bit {op:BinOp}{isB:BK}{x y:QO}{e:Bool}(h:Gm op isB (x.ev α.tm) (y.ev α.tm)=some e):ad P w0 dr (.bin op isB x y) α S (.v (.bool e)) S:=by
 refine ad.of rfl fun o hr=>?_
 obtain⟨t,u,v,s,rfl,rfl,rfl,hB⟩:=pG hr
 rw [aR,aR] at h
 obtain⟨x,y,h1,h2,h3,h4,h5⟩:=RL hB h
 simp only [bo,h1,h2]
 split
 ·rename_i k a k' b e1 e2
  injection e1 with e1;injection e2 with e2
  subst e1 e2
  split
  ·rename_i c hc
   split
   ·rename_i hk
    have:k=k':=of_decide_eq_true hk
    subst this
    rw [h4 _ _ _ rfl rfl] at hc;cases hc
   ·rename_i hk
    simp only [oQ] at h3
    rw [hk] at h3
    simp at h3
  ·rw [h3];exact qc.mk ⟨rfl,rfl⟩
 ·rename_i a b e1 e2
  injection e1 with e1;injection e2 with e2
  subst e1 e2
  have h6:=h5 _ _ rfl rfl
  split
  ·exact absurd rfl h6
  ·rw [h3];exact qc.mk ⟨rfl,rfl⟩
 ·rename_i a b ha hb e1 e2
  injection e1 with e1;injection e2 with e2
  subst e1 e2
  rw [h3];exact qc.mk ⟨rfl,rfl⟩
 ·rename_i h7 h8 h9
  exact absurd rfl (h9 x y rfl)
theorem ad.ari {op:BinOp}{isB:BK}{x y:QO}{k:IntKind}{a b c:Int}(h1:x.ev α.tm=.v (.int k a)) (h2:y.ev α.tm=.v (.int k b)) (h:arith op a b=some c):ad P w0 dr (.bin op isB x y) α S (.v (.int k (k.wrap c))) S:=by
 refine ad.of rfl fun o hr=>?_
 obtain⟨t,u,v,s,rfl,rfl,rfl,hB⟩:=pG hr
 rw [aR] at h1 h2
 simp only [bo,h1,h2,h,decide_true]
 exact⟨_,rfl,rfl,rfl⟩
theorem ad.cat {isB:BK}{x y:QO}{a b:ByteArray}(h1:x.ev α.tm=.v (.string a)) (h2:y.ev α.tm=.v (.string b)) (h:a.size+b.size<=9223372036854775807):ad P w0 dr (.bin .add isB x y) α S (.v (.string (a++b))) S:=by
 refine ad.of rfl fun o hr=>?_
 obtain⟨t,u,v,s,rfl,rfl,rfl,hB⟩:=pG hr
 rw [aR] at h1 h2
 simp only [bo,h1,h2]
 exact⟨h,rfl,rfl⟩
theorem ad.neg {x:QO}{k:IntKind}{a:Int}(h1:x.ev α.tm=.v (.int k a)):ad P w0 dr (.neg x) α S (.v (.int k (k.wrap (0 - a)))) S:=by
 refine ad.of rfl fun o hr=>?_
 cases o<;>simp only [res] at hr<;>(repeat' split at hr)<;>(try cases hr)
 rw [aR] at h1
 simp only [bo,h1]
 exact⟨_,rfl,rfl,rfl⟩
theorem ad.conv {x:QO}{k k':IntKind}{a:Int}(h1:x.ev α.tm=.v (.int k' a)):ad P w0 dr (.conv k x) α S (.v (.int k (k.wrap a))) S:=by
 refine ad.of rfl fun o hr=>?_
 cases o<;>simp only [res,b9] at hr<;>(repeat' split at hr)<;>(try cases hr)
 rename_i e1 e2
 rw [aR] at h1
 simp only [bo,h1,e1,e2]
 exact⟨_,rfl,rfl,rfl⟩
theorem ad.pd {x:QO}{a:ByteArray}(h1:x.ev α.tm=.v (.string a)):ad P w0 dr (.pd x) α S (.v (.string a)) S:=by
 refine ad.of rfl fun o hr=>?_
 cases o<;>simp only [res,b9] at hr<;>(repeat' split at hr)<;>(try cases hr)
 rename_i e1 e2
 rw [aR] at h1
 simp only [bo,h1,e1,e2]
 exact⟨rfl,rfl⟩
def eL (f:AV) (args:List AV):Option (FuncId × List AV):=match f with
 |.v (.func (.func g) a b)=>match a.toList,b.toList with
  |[],[]=>some (g,args)
  |_,_=>none
 |.fn (.func g) first cap=>some (g,first++args++cap)
 |_=>none
theorem l7 {f:QO}{args:List QO}(h:res P.toTables o=some (.call f args)):∃ c u,o=.call c/\c.callee=.value u/\f=qo u/\args=c.args.toList.map qo:=by
 cases o with
 |call c =>
  simp only [res] at h
  split at h
  ·rename_i u hu
   injection h with h;injection h with h1 h2
   exact⟨c,u,rfl,hu,h1.symm,h2.symm⟩
  ·repeat' split at h
   all_goals cases h
  ·cases h
 |_ =>
  simp only [res] at h
  repeat' split at h
  all_goals cases h
theorem ml {l:List Operand}:(l.map qo).map (·.ev α.tm)=l.map α.ev:=by
 rw [List.map_map]
 exact List.map_congr_left fun x _=>aR x
theorem ad.call {f:QO}{aZ9:List QO}{g:FuncId}{args:List AV}(h:eL (f.ev α.tm) (aZ9.map (·.ev α.tm))=some (g,args)) (hc:bc P w0 g args S r S') (hd:dr=true->S'=S):ad P w0 dr (.call f aZ9) α S r S':=by
 cases dr with
 |false =>
  intro n o hr
  refine ew.Az ?_
  obtain⟨c,u,ho,hu,rfl,rfl⟩:=l7 hr
  rw [ml,aR] at h
  unfold eL at h
  rw [ho]
  simp only [bo,hu]
  split at h
  ·rename_i g' a b he
   split at h
   ·rename_i e1 e2
    injection h with h;injection h with h1 h2
    subst h1 h2
    simp only [vK,he,e1,e2]
    exact⟨r,S',hc,rfl,rfl⟩
   ·cases h
  ·rename_i g' a b he
   injection h with h;injection h with h1 h2
   subst h1 h2
   simp only [vK,he]
   exact⟨r,S',hc,rfl,rfl⟩
  ·cases h
 |true =>
  intro n o hr
  refine FD.ofD ?_
  obtain⟨c,u,ho,hu,rfl,rfl⟩:=l7 hr
  rw [ml,aR] at h
  unfold eL at h
  obtain rfl:=hd rfl
  rw [ho]
  simp only [qW,hu]
  split at h
  ·rename_i g' a b he
   split at h
   ·rename_i e1 e2
    injection h with h;injection h with h1 h2
    subst h1 h2
    simp only [zc,he,e1,e2]
    exact⟨r,hc,rfl,rfl⟩
   ·cases h
  ·rename_i g' a b he
   injection h with h;injection h with h1 h2
   subst h1 h2
   simp only [zc,he]
   exact⟨r,hc,rfl,rfl⟩
  ·cases h
def LY (str:Bool):AV->Option Nat
 |.sl _ rows=>match str with|false=>some rows.length|true=>none
 |.ob _ _ _ len _=>match str with|false=>some len|true=>none
 |.v (.string s)=>match str with|true=>some s.size|false=>none
 |_=>none
theorem ad.len {str:Bool}{x:QO}{m:Nat}(h:LY str (x.ev α.tm)=some m):ad P w0 dr (.len str x) α S (.v (.int .i64 m)) S:=by
 refine ad.of rfl fun o hr=>?_
 cases o<;>simp only [res,b9] at hr<;>(repeat' split at hr)<;>(try cases hr)
 all_goals
  rw [aR] at h
  simp only [bo,kJ,List.map_cons,List.map_nil, *]
  refine bm.mk (a:=m) ?_ ⟨rfl,rfl⟩
  unfold lenOf
  unfold LY at h
  split at h<;>(try split at h)<;>(try cases h)<;>first|contradiction|simp only [isStr,lL, *]
theorem ad.ind {m:Nat}{x i:QO}{ex:Bool}{rows:List (List AV)}{row:List AV}{k:IntKind}{j:Int}(h1:x.ev α.tm=.sl ex rows) (h2:i.ev α.tm=.v (.int k j)) (h3:idx rows j=some row) (h4:∀ r ∈ rows,r.length=m):ad P w0 dr (.qV m x i) α S (.ip row) S:=by
 refine ad.of rfl fun o hr=>?_
 cases o<;>simp only [res,b9,dY] at hr<;>(repeat' split at hr)<;>(try cases hr)
 rw [aR] at h1 h2
 simp only [bo, *]
 exact bm.mk rfl ⟨h4,rfl,rfl⟩
theorem ad.abN {m:Nat}{x i:QO}{k off len:Nat}{cx:Option Nat}{ik:IntKind}{j:Int}(h1:x.ev α.tm=.ob k m off len cx) (h2:i.ev α.tm=.v (.int ik j)) (h3:0<=j) (h4:j < len):ad P w0 dr (.qV m x i) α S (.pt k m (off+j.toNat) 0) S:=by
 refine ad.of rfl fun o hr=>?_
 cases o<;>simp only [res,b9,dY] at hr<;>(repeat' split at hr)<;>(try cases hr)
 rw [aR] at h1 h2
 rename_i e1 _ e2
 simp only [bo,h1,h2,e1,e2]
 exact⟨trivial,h3,h4,rfl,rfl⟩
theorem ad.Cg {x i:QO}{s:ByteArray}{ik:IntKind}{j:Int}{b:UInt8}(h1:x.ev α.tm=.v (.string s)) (h2:i.ev α.tm=.v (.int ik j)) (h3:idx s.data.toList j=some b):ad P w0 dr (.sS x i) α S (.v (.int .u8 b.toNat)) S:=by
 refine ad.of rfl fun o hr=>?_
 cases o<;>simp only [res,b9,dY] at hr<;>(repeat' split at hr)<;>(try cases hr)
 rw [aR] at h1 h2
 simp only [bo, *]
 exact bm.mk rfl ⟨rfl,rfl⟩
theorem ad.min {x y:QO}{k:IntKind}{a b:Int}(h1:x.ev α.tm=.v (.int k a)) (h2:y.ev α.tm=.v (.int k b)):ad P w0 dr (.min x y) α S (.v (.int k (min a b))) S:=by
 refine ad.of rfl fun o hr=>?_
 cases o<;>simp only [res,b9] at hr<;>(repeat' split at hr)<;>(try cases hr)
 rw [aR] at h1 h2
 simp only [bo,kJ,List.map_cons,List.map_nil,decide_true, *]
 exact⟨rfl,rfl⟩
theorem ad.max {x y:QO}{k:IntKind}{a b:Int}(h1:x.ev α.tm=.v (.int k a)) (h2:y.ev α.tm=.v (.int k b)):ad P w0 dr (.max x y) α S (.v (.int k (max a b))) S:=by
 refine ad.of rfl fun o hr=>?_
 cases o<;>simp only [res,b9] at hr<;>(repeat' split at hr)<;>(try cases hr)
 rw [aR] at h1 h2
 simp only [bo,kJ,List.map_cons,List.map_nil,decide_true, *]
 exact⟨rfl,rfl⟩
end
section
variable {P:Program}{w0:World}{rd:Bool}{n:Nat}{α aA:AA}{S S':ae}{Q:Exit->AA->ae->Prop}{ex:Exit}{r:AV}{i:QI}{l:List QI}{K:List iC}{dr:Bool}{cf pR:QF}
theorem ab.op (hw:cj α.tm i.g=some true) (h:ad P w0 dr i.q α S r S') (k:ab P w0 rd n Q (.bD dr l K) (cD i.d α r) S'):ab P w0 rd n Q (.bD dr (i::l) K) α S:=ea.op hw h k
theorem ab.a_ {e:Bool}(hw:cj α.tm i.g=some true) (h:ad P w0 dr i.q α S (.v (.bool e)) S') (k1:e=true->ab P w0 rd n Q (.bD dr l K) (cD i.d α (.v (.bool true))) S') (k2:e=false->ab P w0 rd n Q (.bD dr l K) (cD i.d α (.v (.bool false))) S') :
  ab P w0 rd n Q (.bD dr (i::l) K) α S:=by
 refine ea.op hw h ?_
 cases e with
 |true=>exact k1 rfl
 |false=>exact k2 rfl
theorem ab.int {ik:IntKind}{e:Int}(hw:cj α.tm i.g=some true) (h:ad P w0 dr i.q α S (.v (.int ik e)) S') (k:∀ d,d=e->ab P w0 rd n Q (.bD dr l K) (cD i.d α (.v (.int ik d))) S'):ab P w0 rd n Q (.bD dr (i::l) K) α S:=ea.op hw h (k e rfl)
theorem ab.str {e:ByteArray}(hw:cj α.tm i.g=some true) (h:ad P w0 dr i.q α S (.v (.string e)) S') (k:∀ d,d=e->ab P w0 rd n Q (.bD dr l K) (cD i.d α (.v (.string d))) S'):ab P w0 rd n Q (.bD dr (i::l) K) α S:=ea.op hw h (k e rfl)
theorem Qp {c:Int}(h1:-9223372036854775808<=c) (h2:c<=9223372036854775807):IntKind.i64.wrap c=c:=wrap64 h1 h2
theorem ad.xS {op:BinOp}{isB:BK}{x y:QO}{a b c:Int}(h1:x.ev α.tm=.v (.int .i64 a)) (h2:y.ev α.tm=.v (.int .i64 b)) (h:arith op a b=some c) (hl:-9223372036854775808<=c) (hh:c<=9223372036854775807):ad P w0 dr (.bin op isB x y) α S (.v (.int .i64 c)) S:=by
 have:=ad.ari (P:=P) (w0:=w0) (S:=S) (dr:=dr) (isB:=isB) h1 h2 h
 rw [Qp hl hh] at this
 exact this
theorem ad.Sw {x:QO}{k':IntKind}{a:Int}(h1:x.ev α.tm=.v (.int k' a)) (hl:-9223372036854775808<=a) (hh:a<=9223372036854775807):ad P w0 dr (.conv .i64 x) α S (.v (.int .i64 a)) S:=by
 have:=ad.conv (P:=P) (w0:=w0) (S:=S) (dr:=dr) (k:=.i64) h1
 rw [Qp hl hh] at this
 exact this
theorem ad.ag {f:QO}{aZ9:List QO}{g:FuncId}{args:List AV}(h:eL (f.ev α.tm) (aZ9.map (·.ev α.tm))=some (g,args)) (hc:ah P w0 g args r) (hp:db args):ad P w0 dr (.call f aZ9) α S r S:=ad.call h (hc.zQ hp S) fun _=>rfl
theorem ad.pf {f:QO}{aZ9:List QO}{g:FuncId}{args dO:List AV}(h:eL (f.ev α.tm) (aZ9.map (·.ev α.tm))=some (g,dO)) (hc:ah P w0 g args r) (hp:db args) (hs:pT r) (hf:ff S dO args):ad P w0 dr (.call f aZ9) α S r S:=ad.call h (hc.B6 hp hs hf) fun _=>rfl
def jk (f:Nat->AV):List (Nat × AV)->Nat->AV
 |[]=>f
 |p::l=>bO (jk f l) p.1 p.2
inductive QR where
 |t (n:Nat)
 |cell (k:LK) (n:Nat)
def rY (T:Tables):List ResultVar->Option (List QR)
 |[]=>some []
 |.tmp n::l=>match rY T l with
  |some l'=>some (.t n::l')
  |none=>none
 |.cell n t::l=>match DU T t,rY T l with
  |some k,some l'=>some (.cell k n::l')
  |_,_=>none
def l0 (f:Nat->AV) (S:ae):List QR->Option (List AV)
 |[]=>some []
 |.t n::l=>match l0 f S l with
  |some l'=>some (f n::l')
  |none=>none
 |.cell k n::l=>match kQ k S (f n),l0 f S l with
  |some a,some l'=>some (a::l')
  |_,_=>none
def sU (qs:List QR) (ex:Exit) (α:AA) (S:ae):Option (AV × ae):=match Bl ex,vc S α.df with
 |true,true=>match l0 α.tm (iB S α.df) qs with
  |some [a]=>some (a,iB S α.df)
  |some l=>some (.bg l,iB S α.df)
  |none=>none
 |_,_=>none
def mO (qs:List QR) (R:AV->ae->Prop) (ex:Exit) (α:AA) (S:ae):Prop:=∃ r S',sU qs ex α S=some (r,S')/\R r S'
theorem M5 {l:List ResultVar}:∀ {qs:List QR}{m:List AV},rY P.toTables l=some qs->l0 α.tm S qs=some m->vb P α S l=some m:=by
 induction l with
 |nil=>intro qs m h k;obtain rfl:=Option.some.inj h;exact k
 |cons v l ih =>
  intro qs m h k
  cases v with
  |tmp n =>
   simp only [rY] at h
   split at h
   ·rename_i l' hl
    obtain rfl:=Option.some.inj h
    simp only [l0] at k
    split at k
    ·rename_i m' hm
     obtain rfl:=Option.some.inj k
     simp only [vb,GR,ih hl hm]
    ·cases k
   ·cases h
  |cell n t =>
   simp only [rY] at h
   split at h
   ·rename_i lk l' hk hl
    obtain rfl:=Option.some.inj h
    simp only [l0] at k
    split at k
    ·rename_i a m' ha hm
     obtain rfl:=Option.some.inj k
     rw [<-Bh hk] at ha
     simp only [vb,GR,ha,ih hl hm]
    ·cases k
   ·cases h
theorem uj {rs:Array ResultVar}{qs:List QR}{R:AV->ae->Prop}(hr:rY P.toTables rs.toList=some qs) (h:mO qs R ex α S):Dp P rs R ex α S:=by
 obtain⟨r,S',h,k⟩:=h
 unfold sU at h
 split at h
 ·rename_i he hd
  have key:∀ m,l0 α.tm (iB S α.df) qs=some m->vb P α (iB S α.df) rs.toList=some m:=fun m hm=>M5 hr hm
  unfold Dp
  rw [hd]
  have fin:xu P rs α (iB S α.df)=some r/\iB S α.df=S':=by
   split at h
   ·rename_i a hq
    injection h with h;injection h with h1 h2
    subst h1
    exact⟨by unfold xu;rw [key _ hq],h2⟩
   ·rename_i l bG hq
    injection h with h;injection h with h1 h2
    subst h1
    refine⟨?_,h2⟩
    unfold xu
    rw [key _ hq]
    split
    ·rename_i e;injection e with e;subst e;exact (bG _ rfl).elim
    ·rename_i e;injection e with e;subst e;rfl
    ·rename_i e;cases e
   ·cases h
  rw [fin.1,fin.2]
  cases ex<;>first|exact k|cases he
 ·cases h
theorem ab.fin {qs:List QR}{R:AV->ae->Prop}(h:sU qs ex α S=some (r,S')) (k:R r S'):ab P w0 rd n (mO qs R) (.out ex []) α S:=⟨r,S',h,k⟩
structure aH (P:Program) (f:FuncId) (q:QC × List QR) (n:Nat):Prop where
 out:∃ fn c,P.funcs[f]?=some fn/\fn.body=some c/\fn.ntmps=n/\rY P.toTables fn.results.toList=some q.2/\comp P.toTables n c=some q.1/\cH P c=true/\∀ (xs:Array Value) (w:World),(callFunc f xs).run P w=.ok (.enter f xs) w
def Bn (T:Tables) (fn:Func):Option (QC × List QR):=match fn.body with
 |some c=>match comp T fn.ntmps c,rY T fn.results.toList with
  |some q,some qs=>some (q,qs)
  |_,_=>none
 |none=>none
def xT (P:Program) (fn:Func):Bool:=match fn.body with|some c=>cH P c|none=>false
theorem aH.of {f:FuncId}{q:QC × List QR}{fn:Func}{T:Tables}(hf:P.funcs[f]?=some fn) (hq:Bn T fn=some q) (hT:P.toTables=T) (hn:fn.ntmps=n) (hd:xT P fn=true)
  (hc:∀ (xs:Array Value) (w:World),(callFunc f xs).run P w=.ok (.enter f xs) w):aH P f q n:=by
 subst hT
 unfold Bn at hq
 unfold xT at hd
 cases hb:fn.body with
 |none=>rw [hb] at hq;cases hq
 |some c =>
  rw [hb] at hq hd
  simp only at hq
  split at hq
  ·rename_i q1 qs h1 h2
   obtain rfl:=Option.some.inj hq
   exact⟨⟨fn,c,hf,hb,hn,h2,by rw [<-hn];exact h1,hd,hc⟩⟩
  ·cases hq
theorem ab.mono {Q':Exit->AA->ae->Prop}(hm:∀ ex α S,Q ex α S->Q' ex α S) {c:QC}(h:ab P w0 rd n Q (.run c []) α S):ab P w0 rd n Q' (.run c []) α S:=by
 intro c0 hc hd
 obtain⟨ex,aA,S',h1,h2⟩:=h c0 hc hd
 exact⟨ex,aA,S',h1,hm _ _ _ h2⟩
theorem aH.aG {f:FuncId}{q:QC × List QR}{args:List AV}(F:aH P f q n) (bA:args.length<=n) (hp:Pure r) (h:ab P w0 false n (mO q.2 fun r' S=>aU S r' r) (.run q.1 []) ⟨kg args,[]⟩ ae.none_):ah P w0 f args r:=by
 obtain⟨fn,c,hf,hb,hn,hr,hq,hd,hc⟩:=F.out
 exact ah.of_wp hf hb hc hn bA hp (ab.mono (fun ex α S=>uj hr) h c hq hd)
theorem aH.As {f:FuncId}{q:QC × List QR}{args:List AV}{R:AV->ae->Prop}(F:aH P f q n) (bA:args.length<=n) (h:ab P w0 false n (mO q.2 R) (.run q.1 []) ⟨kg args,[]⟩ S):∃ r S',bc P w0 f args S r S'/\R r S':=by
 obtain⟨fn,c,hf,hb,hn,hr,hq,hd,hc⟩:=F.out
 exact bc.of_wp hf hb hc hn bA (ab.mono (fun ex α S=>uj hr) h c hq hd)
theorem aU.of_eq {S:ae}{a b:AV}(h:a=b):aU S a b:=by subst h;exact aU.refl _
end
structure Hd where
 h:{α β:Type}->(α->β)->α->β
 eq:∀ {α β:Type}(f:α->β) (a:α),h f a=f a
def Hd.plain:Hd:=⟨fun f a=>f a,fun _ _=>rfl⟩
def b8 (ρ:Hd) {T:Type}(f:T->List AV) (ex:Bool) (l:List T):AV:=.sl ex (ρ.h (List.map f) l)
section
variable {ρ:Hd}{T:Type}{f:T->List AV}{l:List T}{ex:Bool}
theorem dx:b8 ρ f ex l=.sl ex (l.map f):=by rw [b8,ρ.eq]
theorem af:(ρ.h (List.map f) l).length=l.length:=by rw [ρ.eq,List.length_map]
theorem ay {i:Int}{k:Nat}{x:T}(hi:i=(k:Int)) (h:l[k]?=some x):idx (ρ.h (List.map f) l) i=some (f x):=by
 rw [ρ.eq]
 exact RK hi h
theorem aw {m:Nat}(h:∀ x,(f x).length=m):∀ r ∈ ρ.h (List.map f) l,r.length=m:=by
 rw [ρ.eq]
 intro r hr
 obtain⟨x,_,rfl⟩:=List.mem_map.1 hr
 exact h x
theorem h_ (h:∀ x ∈ l,∀ a ∈ f x,Pure a):Pure (b8 ρ f ex l):=by
 rw [dx]
 refine .sl fun row hr a ha=>?_
 obtain⟨x,hx,rfl⟩:=List.mem_map.1 hr
 exact h x hx a ha
end
inductive dH (B:Nat):AV->Prop where
 |u:dH B .u
 |v {x:Value}:dH B (.v x)
 |agg {l:List AV}(h:∀ a ∈ l,dH B a):dH B (.agg l)
 |bg {l:List AV}(h:∀ a ∈ l,dH B a):dH B (.bg l)
 |sl {ex:Bool}{rows:List (List AV)}(h:∀ row ∈ rows,∀ a ∈ row,dH B a):dH B (.sl ex rows)
 |ip {cs:List AV}(h:∀ a ∈ cs,dH B a):dH B (.ip cs)
 |ob {k sz off len:Nat}{cx:Option Nat}(h:k < B):dH B (.ob k sz off len cx)
 |pt {k sz i j:Nat}(h:k < B):dH B (.pt k sz i j)
 |mp {k:Nat}(h:k < B):dH B (.mp k)
 |yl {k:Nat}(h:k < B):dH B (.yl k)
 |gr {k sz len:Nat}(h:k < B):dH B (.gr k sz len)
 |fn {f:Fn}{l m:List AV}(h3:∀ a ∈ l,dH B a) (h4:∀ a ∈ m,dH B a):dH B (.fn f l m)
theorem Pure.b_ {B:Nat}{a:AV}(h:Pure a):dH B a:=by
 induction h with
 |v=>exact .v
 |agg _ ih=>exact .agg ih
 |bg _ ih=>exact .bg ih
 |sl _ ih=>exact .sl ih
 |ip _ ih=>exact .ip ih
 |fn _ _ Ju CD=>exact .fn Ju CD
theorem aJ.b_ {g g':Gh}{w:World}{B:Nat}(bN:∀ k,k < B->g.al k->g'.al k) (gB:∀ k,k < B->g'.ob k=g.ob k) (nr:∀ k,k < B->g'.cp k=g.cp k) (hf:∀ b o,g.fz b o->g'.fz b o) {a:AV}{x:Value}(h:aJ g w a x) (hp:dH B a) :
  aJ g' w a x:=by
 induction h with
 |u=>exact .u
 |v=>exact .v
 |agg hs h ih=>cases hp with|agg hp=>exact .agg hs fun i a x h1 h2=>ih i a x h1 h2 (hp _ (List.mem_of_getElem? h1))
 |bg hs h ih=>cases hp with|bg hp=>exact .bg hs fun i a x h1 h2=>ih i a x h1 h2 (hp _ (List.mem_of_getElem? h1))
 |nil hc=>exact .nil hc
 |sl hn mK hle hl h hr ih =>
  cases hp with
  |sl hp =>
   exact .sl hn mK hle hl (fun i j row a h1 h2=>⟨hf _ _ (h i j row a h1 h2).1,(h i j row a h1 h2).2⟩)
    (fun i j row a h1 h2=>ih i j row a h1 h2 (hp _ (List.mem_of_getElem? h1) _ (List.mem_of_getElem? h2)))
 |ip h hr ih =>
  cases hp with
  |ip hp=>exact .ip (fun j a h1=>⟨hf _ _ (h j a h1).1,(h j a h1).2⟩) (fun j a h1=>ih j a h1 (hp _ (List.mem_of_getElem? h1)))
 |ob hk hc h1 hx hle=>cases hp with|ob hp=>rw [<-gB _ hp];exact .ob (bN _ hp hk) hc (by rw [nr _ hp];exact h1) (by rw [nr _ hp];exact hx) hle
 |pt hk=>cases hp with|pt hp=>rw [<-gB _ hp];exact .pt (bN _ hp hk)
 |mp hk=>cases hp with|mp hp=>rw [<-gB _ hp];exact .mp (bN _ hp hk)
 |yl hk=>cases hp with|yl hp=>rw [<-gB _ hp];exact .yl (bN _ hp hk)
 |iQ=>exact .iQ
 |gr hk hx hle=>cases hp with|gr hp=>rw [<-gB _ hp];exact .gr (bN _ hp hk) (by rw [nr _ hp];exact hx) hle
 |fn h1 h2 h3 h4 IZ I0 =>
  cases hp with
  |fn hp hq=>exact .fn h1 h2 (fun i a x h1 h2=>IZ i a x h1 h2 (hp _ (List.mem_of_getElem? h1))) (fun i a x h1 h2=>I0 i a x h1 h2 (hq _ (List.mem_of_getElem? h1)))
def oy (B:Nat):Ob->Prop
 |.arr _ rows _ _=>∀ row ∈ rows,∀ a ∈ row,dH B a
 |.mp es=>∀ e ∈ es,dH B e.2
 |.lp _ _ tm _ _ _=>∀ t,dH B (tm t)
 |.df=>True
 |.si _ _=>True
 |.fo _=>True
 |.un=>True
def cW (B:Nat) (f:Nat->Nat) (j:Nat):Nat:=match Nat.blt j B with|true=>j|false=>f j
theorem jo {B j:Nat}{f:Nat->Nat}(h:j < B):cW B f j=j:=by
 have:Nat.blt j B=true:=Nat.ble_eq_true_of_le h
 simp only [cW,this]
def Gh.e_ (g:Gh) (B N:Nat) (f:Nat->Nat):Gh:=⟨fun j=>g.ob (cW B f j),fun j=>g.cp (cW B f j),fun j=>j < N/\g.al (cW B f j),g.fz,g.fo⟩
section
variable {w0:World}{A:Nat->Prop}{g gs:Gh}{S S':ae}{w ws:World}{B:Nat}{f:Nat->Nat}
theorem aJ.e_ {a:AV}{x:Value}{N:Nat}(hN:B<=N) (h:aJ g w a x) (hp:dH B a):aJ (g.e_ B N f) w a x:=by
 refine aJ.b_ (g:=g) (g':=g.e_ B N f) (B:=B) (fun k hk ha=>(⟨by omega,by rw [jo hk];exact ha⟩:k < N/\g.al (cW B f k))) (fun k hk=>?_) (fun k hk=>?_) (fun b o h=>h) h hp
 ·show g.ob (cW B f k)=g.ob k
  rw [jo hk]
 ·show g.cp (cW B f k)=g.cp k
  rw [jo hk]
theorem dC.e_ {b cp N:Nat}{o:Ob}(hN:B<=N) (h:dC g w b cp o) (hk:oy B o):dC (g.e_ B N f) w b cp o:=by
 cases o with
 |arr sz rows fz ex =>
  obtain⟨cs,ty,h1,h2,h3,h4,h5,h6,h7⟩:=h
  refine⟨cs,ty,h1,h2,h3,h4,fun i row hr=>⟨(h5 i row hr).1,fun j a ha=>?_⟩,h6,h7⟩
  obtain⟨x,hx,dw⟩:=(h5 i row hr).2 j a ha
  exact⟨x,hx,dw.e_ hN (hk _ (List.mem_of_getElem? hr) _ (List.mem_of_getElem? ha))⟩
 |mp es =>
  obtain⟨entries,clock,h1,h2,h3⟩:=h
  refine⟨entries,clock,h1,h2,fun i k a ha=>?_⟩
  obtain⟨e,he,jh,hr⟩:=h3 i k a ha
  exact⟨e,he,jh,hr.e_ hN (hk _ (List.mem_of_getElem? ha))⟩
 |lp st sO tm ps assign body =>
  obtain⟨L,h1,h2,h3,h4,h5,h6,h7,h8⟩:=h
  exact⟨L,h1,h2,h3,h4,h5,h6,fun t ht=>(h7 t ht).e_ hN (hk t),h8⟩
 |df=>exact h
 |si s pos=>exact h
 |fo J=>exact h
 |un=>exact h.elim
theorem St.e_ (hS:St w0 A g S w) (hN:B<=S'.nx) (mV:∀ j o,S'.get j=some o->(∃ ck,S.get (cW B f j)=some ck/\(∀ b cp,dC g w b cp ck->dC (g.e_ B S'.nx f) w b cp o)/\∀ J,o=.fo J->ck=.fo J)\/S.nx<=cW B f j)
  (wo:∀ i j o p,S'.get i=some o->S'.get j=some p->cW B f i=cW B f j->i=j):St w0 A (g.e_ B S'.nx f) S' w:=by
 have hs:∀ j o,S'.get j=some o->(g.e_ B S'.nx f).al j->∃ ck,S.get (cW B f j)=some ck/\(∀ b cp,dC g w b cp ck->dC (g.e_ B S'.nx f) w b cp o)/\∀ J,o=.fo J->ck=.fo J:=fun j o hj ha=>(mV j o hj).resolve_right fun h=>absurd (hS.al _ ha.2) (by omega)
 refine⟨hS.base,hS.up,hS.lo,fun k hk=>hk.1,fun k o hk ha=>?_,fun i j o p hi hj ai aj e=>?_,hS.cG,hS.mL,fun k J hk ha=>?_,fun k J j o hk ha hj aj bG=>?_,fun j k J J' hj hk aj ak=>?_⟩
 ·obtain⟨ck,h0,ht,_⟩:=hs k o hk ha
  obtain⟨h1,h2,h3⟩:=hS.cC _ ck h0 ha.2
  exact⟨h1,h2,ht _ _ h3⟩
 ·obtain⟨ck,h0,_⟩:=hs i o hi ai
  obtain⟨tI,h1,_⟩:=hs j p hj aj
  exact wo i j o p hi hj (hS.inj _ _ ck tI h0 h1 ai.2 aj.2 e)
 ·obtain⟨ck,h0,_,h1⟩:=hs k _ hk ha
  exact hS.gX _ J (by rw [<-h1 J rfl];exact h0) ha.2
 ·obtain⟨ck,h0,_,h1⟩:=hs k _ hk ha
  obtain⟨tI,h2,_⟩:=hs j _ hj aj
  exact hS.jE _ J _ tI (by rw [<-h1 J rfl];exact h0) ha.2 h2 aj.2 (fun e=>bG (wo j k o _ hj hk e))
 ·obtain⟨ck,h0,_,h1⟩:=hs j _ hj aj
  obtain⟨tI,h2,_,h3⟩:=hs k _ hk ak
  exact wo j k _ _ hj hk (hS.lP _ _ J J' (by rw [<-h1 J rfl];exact h0) (by rw [<-h3 J' rfl];exact h2) aj.2 ak.2)
theorem Ext.e_ {N:Nat}(hE:Ext A gs ws g w) (hN:B<=N) (hB:∀ k,gs.al k->k < B):Ext A gs ws (g.e_ B N f) w :=
 { al:=fun k hk=>⟨by have:=hB k hk;omega,by rw [jo (hB k hk)];exact hE.al k hk⟩
   ob:=fun k hk=>by show g.ob (cW B f k)=gs.ob k;rw [jo (hB k hk)];exact hE.ob k hk
   cp:=fun k hk=>by show g.cp (cW B f k)=gs.cp k;rw [jo (hB k hk)];exact hE.cp k hk
   fz:=hE.fz
   cell:=hE.cell
   size:=hE.size
   aV:=hE.aV
   f_:=hE.f_ }
end
def bX:List (Nat × Nat)->Nat->Nat
 |[],j=>j
 |p::m,j=>match Nat.beq p.1 j with|true=>p.2|false=>bX m j
def ix:List (Nat × Ob)->Nat->Option Ob
 |[],_=>none
 |p::l,j=>match Nat.beq p.1 j with|true=>some p.2|false=>ix l j
theorem iR:∀ {l:List (Nat × Ob)}{j:Nat}{o:Ob},ix l j=some o->(j,o) ∈ l
 |[],j,o,h=>by cases h
 |(a,b)::l,j,o,h=>by
  simp only [ix] at h
  split at h
  ·rename_i e
   obtain rfl:=Nat.eq_of_beq_eq_true e
   obtain rfl:=Option.some.inj h
   simp
  ·exact List.mem_cons_of_mem _ (iR h)
inductive rL (B:Nat) (m:List (Nat × Nat)) (N:Nat) (f:Nat->AV):Nat->AV->Prop where
 |aD {t:Nat}{a:AV}(h:f t=a) (hk:dH B a):rL B m N f t a
 |new {t j sz off len:Nat}{cx:Option Nat}(h:f t=.ob (cW B (bX m) j) sz off len cx) (hj:Nat.blt j N=true):rL B m N f t (.ob j sz off len cx)
 |lI {t j sz len:Nat}(h:f t=.gr (cW B (bX m) j) sz len) (hj:Nat.blt j N=true):rL B m N f t (.gr j sz len)
 |iQ {t j sz:Nat}(h:f t=.sl true []):rL B m N f t (.gr j sz 0)
 |sW {t j sz i q:Nat}(h:f t=.pt (cW B (bX m) j) sz i q) (hj:Nat.blt j N=true):rL B m N f t (.pt j sz i q)
 |sX {t j:Nat}(h:f t=.mp (cW B (bX m) j)) (hj:Nat.blt j N=true):rL B m N f t (.mp j)
def y4 (B:Nat) (m:List (Nat × Nat)) (N:Nat) (f:Nat->AV):List (Nat × AV)->Prop
 |[]=>True
 |p::l=>rL B m N f p.1 p.2/\y4 B m N f l
inductive gF (B:Nat) (m:List (Nat × Nat)) (N:Nat):AV->AV->Prop where
 |aD {a:AV}(hk:dH B a):gF B m N a a
 |new {j k sz off len:Nat}{cx:Option Nat}(h:k=cW B (bX m) j) (hj:Nat.blt j N=true):gF B m N (.ob k sz off len cx) (.ob j sz off len cx)
 |lI {j k sz len:Nat}(h:k=cW B (bX m) j) (hj:Nat.blt j N=true):gF B m N (.gr k sz len) (.gr j sz len)
 |iQ {j sz:Nat}:gF B m N (.sl true []) (.gr j sz 0)
 |sW {j k sz i q:Nat}(h:k=cW B (bX m) j) (hj:Nat.blt j N=true):gF B m N (.pt k sz i q) (.pt j sz i q)
 |sX {j k:Nat}(h:k=cW B (bX m) j) (hj:Nat.blt j N=true):gF B m N (.mp k) (.mp j)
def sF (B:Nat) (m:List (Nat × Nat)) (N:Nat):List AV->List AV->Prop
 |[],[]=>True
 |a::l,b::l'=>gF B m N a b/\sF B m N l l'
 |_,_=>False
def yL (B:Nat) (m:List (Nat × Nat)) (N:Nat):List (List AV)->List (List AV)->Prop
 |[],[]=>True
 |a::l,b::l'=>sF B m N a b/\yL B m N l l'
 |_,_=>False
theorem sF.at {B N:Nat}{m:List (Nat × Nat)}:∀ {l l':List AV},sF B m N l l'->l.length=l'.length/\∀ (i:Nat) (b:AV),l'[i]?=some b->∃ a,l[i]?=some a/\gF B m N a b
 |[],[],_=>⟨rfl,fun i b h=>by simp at h⟩
 |a::l,b::l',hc=>⟨by simp [hc.2.at.1],fun i c h=>by
  cases i with
  |zero=>simp at h;subst h;exact⟨a,rfl,hc.1⟩
  |succ i=>simp at h;obtain⟨d,h1,h2⟩:=hc.2.at.2 i c h;exact⟨d,by simpa using h1,h2⟩⟩
 |[],_::_,h=>h.elim
 |_::_,[],h=>h.elim
theorem yL.at {B N:Nat}{m:List (Nat × Nat)}:∀ {l l':List (List AV)},yL B m N l l'->l.length=l'.length/\∀ (i:Nat) (b:List AV),l'[i]?=some b->∃ a,l[i]?=some a/\sF B m N a b
 |[],[],_=>⟨rfl,fun i b h=>by simp at h⟩
 |a::l,b::l',hc=>⟨by simp [hc.2.at.1],fun i c h=>by
  cases i with
  |zero=>simp at h;subst h;exact⟨a,rfl,hc.1⟩
  |succ i=>simp at h;obtain⟨d,h1,h2⟩:=hc.2.at.2 i c h;exact⟨d,by simpa using h1,h2⟩⟩
 |[],_::_,h=>h.elim
 |_::_,[],h=>h.elim
inductive u7 (B:Nat) (m:List (Nat × Nat)) (N:Nat):Ob->Ob->Prop where
 |same {o:Ob}(hk:oy B o):u7 B m N o o
 |arr {sz fz:Nat}{rows cI:List (List AV)}{ex:Bool}(h:yL B m N rows cI):u7 B m N (.arr sz rows fz ex) (.arr sz cI fz ex)
def q8 (B:Nat) (m:List (Nat × Nat)) (N:Nat) (S:ae):List (Nat × Ob)->Prop
 |[]=>True
 |p::l=>((∃ ck,S.get (cW B (bX m) p.1)=some ck/\u7 B m N ck p.2)\/Nat.ble S.nx (cW B (bX m) p.1)=true)/\q8 B m N S l
theorem q8.mem {B N:Nat}{m:List (Nat × Nat)}{S:ae}:∀ {l:List (Nat × Ob)},q8 B m N S l->∀ p ∈ l,(∃ ck,S.get (cW B (bX m) p.1)=some ck/\u7 B m N ck p.2)\/Nat.ble S.nx (cW B (bX m) p.1)=true
 |[],_,p,h=>by cases h
 |q::l,hc,p,h=>by
  rcases List.mem_cons.1 h with rfl|h
  ·exact hc.1
  ·exact hc.2.mem p h
def mN (B:Nat) (m:List (Nat × Nat)):List Nat->Bool
 |[]=>true
 |j::l=>l.all (fun i=>!Nat.beq (cW B (bX m) i) (cW B (bX m) j)) && mN B m l
theorem mN.inj {B:Nat}{m:List (Nat × Nat)}:∀ {l:List Nat},mN B m l=true->∀ i j,i ∈ l->j ∈ l->cW B (bX m) i=cW B (bX m) j->i=j
 |[],_,i,j,h,_,_=>by cases h
 |a::l,hd,i,j,hi,hj,e=>by
  simp only [mN,Bool.and_eq_true,List.all_eq_true,Bool.not_eq_true'] at hd
  have ne:∀ x ∈ l,cW B (bX m) x ≠ cW B (bX m) a:=fun x hx h=>by
   have:=hd.1 x hx
   rw [h,Nat.beq_refl] at this
   cases this
  by_cases h1:i=a
  ·by_cases h2:j=a
   ·rw [h1,h2]
   ·subst h1;exact absurd e.symm (ne _ ((List.mem_cons.1 hj).resolve_left h2))
  ·by_cases h2:j=a
   ·subst h2;exact absurd e (ne _ ((List.mem_cons.1 hi).resolve_left h1))
   ·exact mN.inj hd.2 i j ((List.mem_cons.1 hi).resolve_left h1) ((List.mem_cons.1 hj).resolve_left h2) e
def dX (l:List (Nat × AV)) (ds:List Nat):AA:=⟨jk (fun _=>.u) l,ds⟩
def aM (l:List (Nat × Ob)) (N:Nat):ae:=⟨ix l,N⟩
structure Canon (B N:Nat) (m:List (Nat × Nat)) (α:AA) (S:ae) (l:List (Nat × AV)) (ds:List Nat) (so:List (Nat × Ob)):Prop where
 Z2:y4 B m N α.tm l
 df:α.df=ds
 acX:q8 B m N S so
 acY:mN B m (so.map (·.1))=true
 bn:Nat.ble B N=true
 dl:ds.all (Nat.blt · B)=true
section
variable {P:Program}{w0:World}{rd:Bool}{n:Nat}{A:Nat->Prop}{g gs:Gh}{S S':ae}{w ws:World}{B N:Nat}{m:List (Nat × Nat)}{α:AA}{l:List (Nat × AV)}{ds:List Nat}{so:List (Nat × Ob)}{a:Act}
theorem dR {i j:Nat}(h:Nat.blt i j=true):i < j:=Nat.le_of_ble_eq_true h
theorem gF.rep {a b:AV}{x:Value}(hN:B<=N) (h:gF B m N a b) (hr:aJ g w a x):aJ (g.e_ B N (bX m)) w b x:=by
 cases h with
 |aD hk=>exact hr.e_ hN hk
 |@new j k sz off len cx e hj =>
  subst e
  cases hr with
  |ob hk hc hp hx hle=>exact .ob (g:=g.e_ B N (bX m)) (k:=j) ⟨Nat.le_of_ble_eq_true hj,hk⟩ hc hp hx hle
 |@lI j k sz len e hj =>
  subst e
  cases hr with
  |iQ=>exact .iQ
  |gr hk hx hle=>exact .gr (g:=g.e_ B N (bX m)) (k:=j) ⟨Nat.le_of_ble_eq_true hj,hk⟩ hx hle
 |iQ =>
  cases hr with
  |nil hc=>rw [hc rfl];exact .iQ
  |sl hn=>exact absurd rfl hn
 |@sW j k sz i q e hj =>
  subst e
  cases hr with
  |pt hk=>exact .pt (g:=g.e_ B N (bX m)) (k:=j) ⟨Nat.le_of_ble_eq_true hj,hk⟩
 |@sX j k e hj =>
  subst e
  cases hr with
  |mp hk=>exact .mp (g:=g.e_ B N (bX m)) (k:=j) ⟨Nat.le_of_ble_eq_true hj,hk⟩
theorem u7.rep {o o':Ob}{b cp:Nat}(hN:B<=N) (h:u7 B m N o o') (hr:dC g w b cp o):dC (g.e_ B N (bX m)) w b cp o':=by
 cases h with
 |same hk=>exact hr.e_ hN hk
 |@arr sz fz rows cI ex hc =>
  obtain⟨hl,ha⟩:=hc.at
  obtain⟨cs,ty,h1,h2,h3,h4,h5,h6,h7⟩:=hr
  refine⟨cs,ty,h1,h2,by rw [<-hl];exact h3,fun he=>by rw [<-hl];exact h4 he,fun i row hr=>?_,by rw [<-hl];exact h6,h7⟩
  obtain⟨V9,e1,e2⟩:=ha i row hr
  obtain⟨eP,ey⟩:=e2.at
  refine⟨by rw [<-eP];exact (h5 i V9 e1).1,fun j a hj=>?_⟩
  obtain⟨a0,e3,e4⟩:=ey j a hj
  obtain⟨x,hx,dw⟩:=(h5 i V9 e1).2 j a0 e3
  exact⟨x,hx,e4.rep hN dw⟩
theorem Canon.st (hC:Canon B N m α S l ds so) (hS:St w0 A g S w):St w0 A (g.e_ B N (bX m)) (aM so N) w :=
 St.e_ (S':=aM so N) hS (Nat.le_of_ble_eq_true hC.bn) (fun j o h=>by
   rcases hC.acX.mem _ (iR h) with ⟨ck,h0,hc⟩|hv
   case inr=>exact .inr (Nat.le_of_ble_eq_true hv)
   exact .inl ⟨ck,h0,fun b cp hr=>hc.rep (Nat.le_of_ble_eq_true hC.bn) hr,fun J hJ=>by subst hJ;cases hc;rfl⟩)
  (fun i j o p hi hj e=>mN.inj hC.acY i j (List.mem_map.2 ⟨_,iR hi,rfl⟩) (List.mem_map.2 ⟨_,iR hj,rfl⟩) e)
theorem Bj (hN:B<=N) (hA:bY g w n α a):∀ {l:List (Nat × AV)},y4 B m N α.tm l->(∀ t,t < n->aJ (g.e_ B N (bX m)) w (jk (fun _=>.u) l t) (a.tmps.getD t undef))/\∀ t,n<=t->jk (fun _=>.u) l t=.u
 |[],_=>⟨fun _ _=>.u,fun _ _=>rfl⟩
 |(s,b)::l,h=>by
  obtain⟨h1,h2⟩:=Bj hN hA h.2
  have hs:rL B m N α.tm s b:=h.1
  refine⟨fun t ht=>?_,fun t ht=>?_⟩
  ·show aJ _ w (bO (jk (fun _=>.u) l) s b t) _
   by_cases e:t=s
   ·subst e
    rw [aE]
    have hr:=hA.tm t ht
    cases hs with
    |aD e hk=>rw [e] at hr;exact hr.e_ hN hk
    |@new j sz off len cx e hj =>
     rw [e] at hr
     exact gF.rep hN (.new rfl hj) hr
    |@lI j sz len e hj=>rw [e] at hr;exact gF.rep hN (.lI rfl hj) hr
    |@iQ j sz e=>rw [e] at hr;exact gF.rep hN .iQ hr
    |@sW j sz i q e hj=>rw [e] at hr;exact gF.rep hN (.sW rfl hj) hr
    |@sX j e hj=>rw [e] at hr;exact gF.rep hN (.sX rfl hj) hr
   ·rw [aK _ _ e];exact h1 t ht
  ·show bO (jk (fun _=>.u) l) s b t=.u
   by_cases e:t=s
   ·subst e
    rw [aE]
    have hr:=hA.out t ht
    cases hs with
    |aD e hk=>exact e.symm.trans hr
    |new e hj=>rw [hr] at e;cases e
    |lI e hj=>rw [hr] at e;cases e
    |iQ e=>rw [hr] at e;cases e
    |sW e hj=>rw [hr] at e;cases e
    |sX e hj=>rw [hr] at e;cases e
   ·rw [aK _ _ e];exact h2 t ht
theorem Canon.FN (hC:Canon B N m α S l ds so) (hA:bY g w n α a):bY (g.e_ B N (bX m)) w n (dX l ds) a:=by
 have hN:=Nat.le_of_ble_eq_true hC.bn
 obtain⟨h1,h2⟩:=Bj hN hA hC.Z2
 have hd:=hC.dl
 rw [List.all_eq_true] at hd
 refine⟨hA.size,h1,h2,?_,fun k hk=>?_⟩
 ·rw [hA.df,hC.df]
  refine List.map_congr_left fun k hk=>?_
  show _=({ target:=.collected (g.ob (cW B (bX m) k)),args:=#[] }:Deferred)
  rw [jo (dR (hd k hk))]
 ·have:=dR (hd k hk)
  refine⟨by omega,?_⟩
  rw [jo this]
  exact hA.sb k (by rw [hC.df];exact hk)
def qO (P:Program) (w0:World) (rd:Bool) (n B:Nat) (c:Code) (α:AA) (S:ae) (ex:Exit) (aA:AA) (S':ae):Prop :=
 ∀ (F:Fence) (m:Nat) (A:Nat->Prop) (g gs:Gh) (a:Act) (w ws:World),g7 F->F.round.isSome=rd->St w0 A g S w->bY g w n α a->Ext A gs ws g w->(∀ k,gs.al k->k < B)->∀ (b:Frame) (k:List Item) (cs:List Frame),b.roundOf=F.round->F.fn b.fn->F.room (cs.length+1+m) ->
  ∃ e a' w',k_ w0 n A gs ws ex aA S' e a' w'/\ArrivesIn (Machine.fenced P F) P (lone (b.atR a (.code c::.inLoop c::k)) cs w) b k cs e a' w'
section
variable {c:Code}{bK aA:AA}{bZ:ae}{ex:Exit}
theorem qO.step (h:cu P w0 rd n c α S .normal bK bZ) (hC:Canon B N m bK bZ l ds so) (k:qO P w0 rd n B c (dX l ds) (aM so N) ex aA S'):qO P w0 rd n B c α S ex aA S':=by
 intro F mm A g gs a w ws hF hR hS hA hE hB b q cs nt hb hr
 obtain⟨e,ju,ia,hq,lK⟩:=h F mm A g a w hF hR hS hA b (.inLoop c::q) cs nt hb hr
 obtain⟨rfl,w8,xY,xZ,Z3⟩:=hq
 obtain⟨Lq,Lr,Ls,F6,zA⟩:=k F mm A _ gs ju ia ws hF hR (hC.st xY) (hC.FN xZ) ((hE.trans Z3).e_ (Nat.le_of_ble_eq_true hC.bn) hB) hB b q cs nt hb hr
 exact⟨Lq,Lr,Ls,F6,.of_steps (StepsIn.trans lK (.one (fenced_calm hb hr rfl) stepR_inLoop)) zA⟩
theorem qO.done (h:cu P w0 rd n c α S ex aA S') (he:ex ≠ .normal):qO P w0 rd n B c α S ex aA S':=by
 intro F mm A g gs a w ws hF hR hS hA hE hB b q cs nt hb hr
 obtain⟨e,ju,ia,hq,lK⟩:=h F mm A g a w hF hR hS hA b (.inLoop c::q) cs nt hb hr
 obtain⟨rfl,hq⟩:=hq
 exact⟨e,ju,ia,k_.ext hE ⟨rfl,hq⟩,.pass (x:=.inLoop c) rfl (fun _ _=>.inl he) lK⟩
theorem qO.start (hn:Nat.ble S.nx B=true) (hC:Canon B N m α S l ds so) (k:qO P w0 rd n B c (dX l ds) (aM so N) ex aA S'):rT P w0 rd n c α S ex aA S':=by
 intro F mm A g a w hF hR hS hA b q cs nt hb hr
 have hB:∀ k,g.al k->k < B:=fun k hk=>Nat.lt_of_lt_of_le (hS.al k hk) (Nat.le_of_ble_eq_true hn)
 exact k F mm A _ g a w w hF hR (hC.st hS) (hC.FN hA) ((Ext.refl A g w).e_ (Nat.le_of_ble_eq_true hC.bn) hB) hB b q cs nt hb hr
end
def EV {σ:Type}(P:Program) (w0:World) (rd:Bool) (n B N:Nat) (st:σ->List (Nat × AV)) (ds:List Nat) (so:σ->List (Nat × Ob)) (I:σ->Prop) (μ:σ->Nat) (Q:Exit->AA->ae->Prop) (K:List iC) (k:Nat):Exit->AA->ae->Prop :=
 fun ex α S=>match ex with|.normal=>∃ s m,I s/\μ s < k/\Canon B N m α S (st s) ds (so s)|e=>ab P w0 rd n Q (.out e K) α S
variable {Q:Exit->AA->ae->Prop}{K:List iC}
theorem ab.aP {σ:Type}(B N:Nat) (m:List (Nat × Nat)) (st:σ->List (Nat × AV)) (ds:List Nat) (so:σ->List (Nat × Ob)) (I:σ->Prop) (μ:σ->Nat) (s0:σ) {c:QC}(h0:I s0) (hn:Nat.ble S.nx B=true) (hC:Canon B N m α S (st s0) ds (so s0))
  (h:∀ s,I s->ab P w0 rd n (EV P w0 rd n B N st ds so I μ Q K (μ s)) (.run c []) (dX (st s) ds) (aM (so s) N)):ab P w0 rd n Q (.run (.loop c) K) α S:=by
 intro c0 hc hd
 obtain⟨c1,rfl,h1⟩:=KK hc
 have key:∀ (k:Nat) (s:σ),I s->μ s=k->∃ ex aA S',qO P w0 rd n B c1 (dX (st s) ds) (aM (so s) N) ex aA S'/\cS P w0 rd n Q K ex aA S':=by
  intro k
  induction k using Nat.strongRecOn with
  |_ k ih =>
   intro s hI hk
   obtain⟨ex,bK,bZ,h3,h4⟩:Wp P w0 rd n c1 (EV P w0 rd n B N st ds so I μ Q K (μ s)) (dX (st s) ds) (aM (so s) N):=h s hI c1 h1 hd
   cases ex with
   |normal =>
    obtain⟨s',m',hI',au,hC'⟩:=h4
    obtain⟨ex,aA,S',h5,h6⟩:=ih (μ s') (by omega) s' hI' rfl
    exact⟨ex,aA,S',qO.step h3 hC' h5,h6⟩
   |_=>exact⟨_,bK,bZ,qO.done h3 (by simp),h4⟩
 obtain⟨ex,aA,S',h2,h3⟩:=key _ s0 h0 rfl
 exact⟨ex,aA,S',cu.loop (qO.start hn hC h2),h3⟩
theorem ab.aL {σ:Type}{st:σ->List (Nat × AV)}{so:σ->List (Nat × Ob)}{I:σ->Prop}{μ:σ->Nat}{k:Nat}(s:σ) (m:List (Nat × Nat)) (hI:I s) (hk:μ s < k) (hC:Canon B N m α S (st s) ds (so s)) :
  ab P w0 rd n (EV P w0 rd n B N st ds so I μ Q K k) (.out .normal []) α S:=⟨s,m,hI,hk,hC⟩
theorem ab.ao {σ:Type}{st:σ->List (Nat × AV)}{so:σ->List (Nat × Ob)}{I:σ->Prop}{μ:σ->Nat}{k id:Nat}(h:ab P w0 rd n Q (.out (.exit id) K) α S):ab P w0 rd n (EV P w0 rd n B N st ds so I μ Q K k) (.out (.exit id) []) α S:=h
theorem ab.bJ {σ:Type}{st:σ->List (Nat × AV)}{so:σ->List (Nat × Ob)}{I:σ->Prop}{μ:σ->Nat}{k:Nat}(h:ab P w0 rd n Q (.out .ret K) α S):ab P w0 rd n (EV P w0 rd n B N st ds so I μ Q K k) (.out .ret []) α S:=h
end
end Go.Proofs.YtbofilglphfceaaGreat
