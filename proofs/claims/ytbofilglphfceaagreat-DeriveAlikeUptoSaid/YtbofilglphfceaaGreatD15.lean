import Derived.Laws.BytesString
import Derived.Test.YtbofilglphfceaaGreatD14
namespace Go.Proofs.YtbofilglphfceaaGreat
set_option linter.unusedVariables false
set_option linter.unusedSimpArgs false
open Go.RowKit
section
variable {P:Program}{w0:World}{n:Nat}{o:Op}{α:AA}{S S':U}{r:AV}{q:cj}{dr:Bool}
theorem HD {op:BinOp}{isB:BK}{t:TypeId}{a b:AV}{e:Bool}(hB:isB=.b->P.underlying t=some .bool) (h:yu op isB a b=some e):∃ x y,a=.v x/\b=.v y/\kB P op t x y=some (.bool e)/\(∀ k i j,x=.int k i->y=.int k j->arith op i j=none)/\(∀ s s',x=.string s->y=.string s'->op ≠ .add):=by
 unfold yu at h
 split at h
 ·rename_i k a k' b
  split at h
  ·rename_i hk
   refine⟨_,_,rfl,rfl,?_,?_,fun s s' h=>by cases h⟩
   ·simp only [kB,hk]
    cases op<;>simp only [Option.some.injEq,reduceCtorEq] at h ⊢<;>subst h<;>rfl
   ·intro k i j h1 h2
    cases op<;>simp only [reduceCtorEq] at h<;>rfl
  ·cases h
 ·rename_i a b
  refine⟨_,_,rfl,rfl,?_,(fun k i j h=>by cases h),fun s s' h1 h2 he=>?_⟩
  ·simp only [kB]
   cases op<;>simp only [Option.some.injEq,reduceCtorEq] at h ⊢<;>subst h<;>rfl
  ·subst he;simp at h
 ·rename_i a b
  refine⟨_,_,rfl,rfl,?_,(fun k i j h=>by cases h),fun s s' h=>by cases h⟩
  split at h
  ·simp only [kB,hB rfl];simp only [Option.some.injEq] at h;subst h;rfl
  ·simp only [kB,hB rfl];simp only [Option.some.injEq] at h;subst h;rfl
  ·cases h
 ·cases h
theorem lb {op:BinOp}{isB:BK}{x y:QO}(h:res P.toTables o=some (.bin op isB x y)):∃ t u v s,o=.binOp op t u v s/\x=qo u/\y=qo v/\(isB=.b->P.underlying t=some .bool):=by
 cases o with
 |binOp O7 t u v s =>
  simp only [res,aZ] at h
  split at h
  ·rename_i hu
   injection h with h;injection h with h1 h2 h3 h4
   subst h1 h2 h3 h4
   exact⟨_,_,_,_,rfl,rfl,rfl,fun _=>hu⟩
  ·injection h with h;injection h with h1 h2 h3 h4
   subst h1 h2 h3 h4
   exact⟨_,_,_,_,rfl,rfl,rfl,fun h=>by cases h⟩
  ·split at h<;>cases h
  ·injection h with h;injection h with h1 h2 h3 h4
   subst h1 h2 h3 h4
   exact⟨_,_,_,_,rfl,rfl,rfl,fun h=>by cases h⟩
 |_ =>
  simp only [res] at h
  repeat' split at h
  all_goals cases h
theorem aa.bit {op:BinOp}{isB:BK}{x y:QO}{e:Bool}(h:yu op isB (x.ev α.tm) (y.ev α.tm)=some e):aa P w0 dr (.bin op isB x y) α S (.v (.bool e)) S:=by
 refine aa.of rfl fun o hr=>?_
 obtain⟨t,u,v,s,rfl,rfl,rfl,hB⟩:=lb hr
 rw [ay,ay] at h
 obtain⟨x,y,h1,h2,h3,h4,h5⟩:=HD hB h
 simp only [aE,h1,h2]
 split
 ·rename_i k a k' b e1 e2
  injection e1 with e1;injection e2 with e2
  subst e1 e2
  split
  ·rename_i c hc
   split
   ·rename_i hk
    have:k=k':=of_decide_eq_true hk
    subst this
    rw [h4 _ _ _ rfl rfl] at hc;cases hc
   ·rename_i hk
    simp only [kB] at h3
    rw [hk] at h3
    simp at h3
  ·rw [h3];exact ly.mk ⟨rfl,rfl⟩
 ·rename_i a b e1 e2
  injection e1 with e1;injection e2 with e2
  subst e1 e2
  have h6:=h5 _ _ rfl rfl
  split
  ·exact absurd rfl h6
  ·rw [h3];exact ly.mk ⟨rfl,rfl⟩
 ·rename_i a b ha hb e1 e2
  injection e1 with e1;injection e2 with e2
  subst e1 e2
  rw [h3];exact ly.mk ⟨rfl,rfl⟩
 ·rename_i h7 h8 h9
  exact absurd rfl (h9 x y rfl)
theorem aa.O8 {op:BinOp}{isB:BK}{x y:QO}{k:IntKind}{a b c:Int}(h1:x.ev α.tm=.v (.int k a)) (h2:y.ev α.tm=.v (.int k b)) (h:arith op a b=some c):aa P w0 dr (.bin op isB x y) α S (.v (.int k (k.wrap c))) S:=by
 refine aa.of rfl fun o hr=>?_
 obtain⟨t,u,v,s,rfl,rfl,rfl,hB⟩:=lb hr
 rw [ay] at h1 h2
 simp only [aE,h1,h2,h,decide_true]
 exact⟨_,rfl,rfl,rfl⟩
theorem aa.cat {isB:BK}{x y:QO}{a b:ByteArray}(h1:x.ev α.tm=.v (.string a)) (h2:y.ev α.tm=.v (.string b)) (h:a.size+b.size<=9223372036854775807):aa P w0 dr (.bin .add isB x y) α S (.v (.string (a++b))) S:=by
 refine aa.of rfl fun o hr=>?_
 obtain⟨t,u,v,s,rfl,rfl,rfl,hB⟩:=lb hr
 rw [ay] at h1 h2
 simp only [aE,h1,h2]
 exact⟨h,rfl,rfl⟩
theorem aa.neg {x:QO}{k:IntKind}{a:Int}(h1:x.ev α.tm=.v (.int k a)):aa P w0 dr (.neg x) α S (.v (.int k (k.wrap (0 - a)))) S:=by
 refine aa.of rfl fun o hr=>?_
 cases o<;>simp only [res] at hr<;>(repeat' split at hr)<;>(try cases hr)
 rw [ay] at h1
 simp only [aE,h1]
 exact⟨_,rfl,rfl,rfl⟩
theorem aa.conv {x:QO}{k k':IntKind}{a:Int}(h1:x.ev α.tm=.v (.int k' a)):aa P w0 dr (.conv k x) α S (.v (.int k (k.wrap a))) S:=by
 refine aa.of rfl fun o hr=>?_
 cases o<;>simp only [res,aZ] at hr<;>(repeat' split at hr)<;>(try cases hr)
 rename_i e1 e2
 rw [ay] at h1
 simp only [aE,h1,e1,e2]
 exact⟨_,rfl,rfl,rfl⟩
theorem aa.kS {x:QO}{a:ByteArray}(h1:x.ev α.tm=.v (.string a)):aa P w0 dr (.kS x) α S (.v (.string a)) S:=by
 refine aa.of rfl fun o hr=>?_
 cases o<;>simp only [res,aZ] at hr<;>(repeat' split at hr)<;>(try cases hr)
 rename_i e1 e2
 rw [ay] at h1
 simp only [aE,h1,e1,e2]
 exact⟨rfl,rfl⟩
def fh (f:AV) (args:List AV):Option (FuncId × List AV):=match f with
 |.v (.func (.func g) a b)=>match a.toList,b.toList with
  |[],[]=>some (g,args)
  |_,_=>none
 |.fn (.func g) first cap=>some (g,first++args++cap)
 |_=>none
theorem lz {f:QO}{args:List QO}(h:res P.toTables o=some (.call f args)):∃ c u,o=.call c/\c.callee=.value u/\f=qo u/\args=c.args.toList.map qo:=by
 cases o with
 |call c =>
  simp only [res] at h
  split at h
  ·rename_i u hu
   injection h with h;injection h with h1 h2
   exact⟨c,u,rfl,hu,h1.symm,h2.symm⟩
  ·repeat' split at h
   all_goals cases h
  ·cases h
 |_ =>
  simp only [res] at h
  repeat' split at h
  all_goals cases h
theorem ld {l:List Operand}:(l.map qo).map (·.ev α.tm)=l.map α.ev:=by
 rw [List.map_map]
 exact List.map_congr_left fun x _=>ay x
theorem aa.call {f:QO}{aZ9:List QO}{g:FuncId}{args:List AV}(h:fh (f.ev α.tm) (aZ9.map (·.ev α.tm))=some (g,args)) (hc:aR P w0 g args S r S') (hd:dr=true->S'=S):aa P w0 dr (.call f aZ9) α S r S':=by
 cases dr with
 |false =>
  intro n o hr
  refine cP.tt ?_
  obtain⟨c,u,ho,hu,rfl,rfl⟩:=lz hr
  rw [ld,ay] at h
  unfold fh at h
  rw [ho]
  simp only [aE,hu]
  split at h
  ·rename_i g' a b he
   split at h
   ·rename_i e1 e2
    injection h with h;injection h with h1 h2
    subst h1 h2
    simp only [pj,he,e1,e2]
    exact⟨r,S',hc,rfl,rfl⟩
   ·cases h
  ·rename_i g' a b he
   injection h with h;injection h with h1 h2
   subst h1 h2
   simp only [pj,he]
   exact⟨r,S',hc,rfl,rfl⟩
  ·cases h
 |true =>
  intro n o hr
  refine w8.O5 ?_
  obtain⟨c,u,ho,hu,rfl,rfl⟩:=lz hr
  rw [ld,ay] at h
  unfold fh at h
  obtain rfl:=hd rfl
  rw [ho]
  simp only [pQ,hu]
  split at h
  ·rename_i g' a b he
   split at h
   ·rename_i e1 e2
    injection h with h;injection h with h1 h2
    subst h1 h2
    simp only [q_,he,e1,e2]
    exact⟨r,hc,rfl,rfl⟩
   ·cases h
  ·rename_i g' a b he
   injection h with h;injection h with h1 h2
   subst h1 h2
   simp only [q_,he]
   exact⟨r,hc,rfl,rfl⟩
  ·cases h
def DF (str:Bool):AV->Option Nat
 |.sl _ rows=>match str with|false=>some rows.length|true=>none
 |.ob _ _ _ len _=>match str with|false=>some len|true=>none
 |.v (.string s)=>match str with|true=>some s.size|false=>none
 |_=>none
theorem aa.len {str:Bool}{x:QO}{m:Nat}(h:DF str (x.ev α.tm)=some m):aa P w0 dr (.len str x) α S (.v (.int .i64 m)) S:=by
 refine aa.of rfl fun o hr=>?_
 cases o<;>simp only [res,aZ] at hr<;>(repeat' split at hr)<;>(try cases hr)
 all_goals
  rw [ay] at h
  simp only [aE,gO,List.map_cons,List.map_nil, *]
  refine aD.mk (a:=m) ?_ ⟨rfl,rfl⟩
  unfold lenOf
  unfold DF at h
  split at h<;>(try split at h)<;>(try cases h)<;>first|contradiction|simp only [isStr,ig, *]
theorem aa.ind {m:Nat}{x i:QO}{ex:Bool}{rows:List (List AV)}{row:List AV}{k:IntKind}{j:Int}(h1:x.ev α.tm=.sl ex rows) (h2:i.ev α.tm=.v (.int k j)) (h3:idx rows j=some row) (h4:∀ r ∈ rows,r.length=m):aa P w0 dr (.kT m x i) α S (.ip row) S:=by
 refine aa.of rfl fun o hr=>?_
 cases o<;>simp only [res,aZ,cA] at hr<;>(repeat' split at hr)<;>(try cases hr)
 rw [ay] at h1 h2
 simp only [aE, *]
 exact aD.mk rfl ⟨h4,rfl,rfl⟩
theorem aa.Iw {m:Nat}{x i:QO}{k off len:Nat}{cx:Option Nat}{ik:IntKind}{j:Int}(h1:x.ev α.tm=.ob k m off len cx) (h2:i.ev α.tm=.v (.int ik j)) (h3:0<=j) (h4:j < len):aa P w0 dr (.kT m x i) α S (.pt k m (off+j.toNat) 0) S:=by
 refine aa.of rfl fun o hr=>?_
 cases o<;>simp only [res,aZ,cA] at hr<;>(repeat' split at hr)<;>(try cases hr)
 rw [ay] at h1 h2
 rename_i e1 _ e2
 simp only [aE,h1,h2,e1,e2]
 exact⟨trivial,h3,h4,rfl,rfl⟩
theorem aa.P4 {x i:QO}{s:ByteArray}{ik:IntKind}{j:Int}{b:UInt8}(h1:x.ev α.tm=.v (.string s)) (h2:i.ev α.tm=.v (.int ik j)) (h3:idx s.data.toList j=some b):aa P w0 dr (.oq x i) α S (.v (.int .u8 b.toNat)) S:=by
 refine aa.of rfl fun o hr=>?_
 cases o<;>simp only [res,aZ,cA] at hr<;>(repeat' split at hr)<;>(try cases hr)
 rw [ay] at h1 h2
 simp only [aE, *]
 exact aD.mk rfl ⟨rfl,rfl⟩
theorem aa.min {x y:QO}{k:IntKind}{a b:Int}(h1:x.ev α.tm=.v (.int k a)) (h2:y.ev α.tm=.v (.int k b)):aa P w0 dr (.min x y) α S (.v (.int k (min a b))) S:=by
 refine aa.of rfl fun o hr=>?_
 cases o<;>simp only [res,aZ] at hr<;>(repeat' split at hr)<;>(try cases hr)
 rw [ay] at h1 h2
 simp only [aE,gO,List.map_cons,List.map_nil,decide_true, *]
 exact⟨rfl,rfl⟩
theorem aa.max {x y:QO}{k:IntKind}{a b:Int}(h1:x.ev α.tm=.v (.int k a)) (h2:y.ev α.tm=.v (.int k b)):aa P w0 dr (.max x y) α S (.v (.int k (max a b))) S:=by
 refine aa.of rfl fun o hr=>?_
 cases o<;>simp only [res,aZ] at hr<;>(repeat' split at hr)<;>(try cases hr)
 rw [ay] at h1 h2
 simp only [aE,gO,List.map_cons,List.map_nil,decide_true, *]
 exact⟨rfl,rfl⟩
theorem aa.rem {isB:BK}{x y:QO}{k:IntKind}{a b:Int}(h1:x.ev α.tm=.v (.int k a)) (h2:y.ev α.tm=.v (.int k b)) (hb:b ≠ 0):aa P w0 false (.bin .rem isB x y) α S (.v (.int k (a.tmod b))) S:=by
 refine aa.run fun n o hr=>?_
 obtain⟨t,u,v,s,ho,rfl,rfl,hB⟩:=lb hr
 rw [ay] at h1 h2
 refine aC.quiet fun A g q w hS hA=>?_
 have e1:=hA.ev u
 have e2:=hA.ev v
 rw [h1] at e1
 rw [h2] at e2
 refine⟨_,?_,.v⟩
 simp [execOp,ho,a_ e1,a_ e2,eqGuard,binOp,Op.intDiv,hb]
end
section
variable {P:Program}{w0:World}{rd:Bool}{n:Nat}{α af:AA}{S S':U}{Q:Exit->AA->U->Prop}{ex:Exit}{r:AV}{i:QI}{l:List QI}{K:List ji}{dr:Bool}{cf lx:QF}
theorem ab.op (hw:ca α.tm i.g=some true) (h:aa P w0 dr i.q α S r S') (k:ab P w0 rd n Q (.bB dr l K) (cH i.d α r) S'):ab P w0 rd n Q (.bB dr (i::l) K) α S:=dH.op hw h k
theorem ab.bif {e:Bool}(hw:ca α.tm i.g=some true) (h:aa P w0 dr i.q α S (.v (.bool e)) S') (k1:e=true->ab P w0 rd n Q (.bB dr l K) (cH i.d α (.v (.bool true))) S') (k2:e=false->ab P w0 rd n Q (.bB dr l K) (cH i.d α (.v (.bool false))) S') :
  ab P w0 rd n Q (.bB dr (i::l) K) α S:=by
 refine dH.op hw h ?_
 cases e with
 |true=>exact k1 rfl
 |false=>exact k2 rfl
theorem ab.int {ik:IntKind}{e:Int}(hw:ca α.tm i.g=some true) (h:aa P w0 dr i.q α S (.v (.int ik e)) S') (k:∀ d,d=e->ab P w0 rd n Q (.bB dr l K) (cH i.d α (.v (.int ik d))) S'):ab P w0 rd n Q (.bB dr (i::l) K) α S:=dH.op hw h (k e rfl)
theorem ab.str {e:ByteArray}(hw:ca α.tm i.g=some true) (h:aa P w0 dr i.q α S (.v (.string e)) S') (k:∀ d,d=e->ab P w0 rd n Q (.bB dr l K) (cH i.d α (.v (.string d))) S'):ab P w0 rd n Q (.bB dr (i::l) K) α S:=dH.op hw h (k e rfl)
theorem FI {c:Int}(h1:-9223372036854775808<=c) (h2:c<=9223372036854775807):IntKind.i64.wrap c=c:=wrap64 h1 h2
theorem aa.La {op:BinOp}{isB:BK}{x y:QO}{a b c:Int}(h1:x.ev α.tm=.v (.int .i64 a)) (h2:y.ev α.tm=.v (.int .i64 b)) (h:arith op a b=some c) (hl:-9223372036854775808<=c) (hh:c<=9223372036854775807):aa P w0 dr (.bin op isB x y) α S (.v (.int .i64 c)) S:=by
 have:=aa.O8 (P:=P) (w0:=w0) (S:=S) (dr:=dr) (isB:=isB) h1 h2 h
 rw [FI hl hh] at this
 exact this
theorem aa.Ix {x:QO}{k':IntKind}{a:Int}(h1:x.ev α.tm=.v (.int k' a)) (hl:-9223372036854775808<=a) (hh:a<=9223372036854775807):aa P w0 dr (.conv .i64 x) α S (.v (.int .i64 a)) S:=by
 have:=aa.conv (P:=P) (w0:=w0) (S:=S) (dr:=dr) (k:=.i64) h1
 rw [FI hl hh] at this
 exact this
theorem aa.aB {f:QO}{aZ9:List QO}{g:FuncId}{args:List AV}(h:fh (f.ev α.tm) (aZ9.map (·.ev α.tm))=some (g,args)) (hc:ag P w0 g args r) (hp:cF args):aa P w0 dr (.call f aZ9) α S r S:=aa.call h (hc.yj hp S) fun _=>rfl
theorem aa.FK {f:QO}{aZ9:List QO}{g:FuncId}{args ff:List AV}(h:fh (f.ev α.tm) (aZ9.map (·.ev α.tm))=some (g,ff)) (hc:ag P w0 g args r) (hp:cF args) (hs:mq r) (hf:gz S ff args):aa P w0 dr (.call f aZ9) α S r S:=aa.call h (hc.P0 hp hs hf) fun _=>rfl
def fN (f:Nat->AV):List (Nat × AV)->Nat->AV
 |[]=>f
 |p::l=>a6 (fN f l) p.1 p.2
inductive QR where
 |t (n:Nat)
 |cell (k:LK) (n:Nat)
def mw (T:Tables):List ResultVar->Option (List QR)
 |[]=>some []
 |.tmp n::l=>match mw T l with
  |some l'=>some (.t n::l')
  |none=>none
 |.cell n t::l=>match uJ T t,mw T l with
  |some k,some l'=>some (.cell k n::l')
  |_,_=>none
def iC (f:Nat->AV) (S:U):List QR->Option (List AV)
 |[]=>some []
 |.t n::l=>match iC f S l with
  |some l'=>some (f n::l')
  |none=>none
 |.cell k n::l=>match fY k S (f n),iC f S l with
  |some a,some l'=>some (a::l')
  |_,_=>none
def qz (qs:List QR) (ex:Exit) (α:AA) (S:U):Option (AV × U):=match FB ex,oz S α.df with
 |true,true=>match iC α.tm (eK S α.df) qs with
  |some [a]=>some (a,eK S α.df)
  |some l=>some (.aL l,eK S α.df)
  |none=>none
 |_,_=>none
def lA (qs:List QR) (R:AV->U->Prop) (ex:Exit) (α:AA) (S:U):Prop:=∃ r S',qz qs ex α S=some (r,S')/\R r S'
theorem DG {l:List ResultVar}:∀ {qs:List QR}{m:List AV},mw P.toTables l=some qs->iC α.tm S qs=some m->oA P α S l=some m:=by
 induction l with
 |nil=>intro qs m h k;obtain rfl:=Option.some.inj h;exact k
 |cons v l ih =>
  intro qs m h k
  cases v with
  |tmp n =>
   simp only [mw] at h
   split at h
   ·rename_i l' hl
    obtain rfl:=Option.some.inj h
    simp only [iC] at k
    split at k
    ·rename_i m' hm
     obtain rfl:=Option.some.inj k
     simp only [oA,yy,ih hl hm]
    ·cases k
   ·cases h
  |cell n t =>
   simp only [mw] at h
   split at h
   ·rename_i lk l' hk hl
    obtain rfl:=Option.some.inj h
    simp only [iC] at k
    split at k
    ·rename_i a m' ha hm
     obtain rfl:=Option.some.inj k
     rw [<-tn hk] at ha
     simp only [oA,yy,ha,ih hl hm]
    ·cases k
   ·cases h
theorem ry {rs:Array ResultVar}{qs:List QR}{R:AV->U->Prop}(hr:mw P.toTables rs.toList=some qs) (h:lA qs R ex α S):uO P rs R ex α S:=by
 obtain⟨r,S',h,k⟩:=h
 unfold qz at h
 split at h
 ·rename_i he hd
  have key:∀ m,iC α.tm (eK S α.df) qs=some m->oA P α (eK S α.df) rs.toList=some m:=fun m hm=>DG hr hm
  unfold uO
  rw [hd]
  have fin:qA P rs α (eK S α.df)=some r/\eK S α.df=S':=by
   split at h
   ·rename_i a hq
    injection h with h;injection h with h1 h2
    subst h1
    exact⟨by unfold qA;rw [key _ hq],h2⟩
   ·rename_i l aM hq
    injection h with h;injection h with h1 h2
    subst h1
    refine⟨?_,h2⟩
    unfold qA
    rw [key _ hq]
    split
    ·rename_i e;injection e with e;subst e;exact (aM _ rfl).elim
    ·rename_i e;injection e with e;subst e;rfl
    ·rename_i e;cases e
   ·cases h
  rw [fin.1,fin.2]
  cases ex<;>first|exact k|cases he
 ·cases h
theorem ab.fin {qs:List QR}{R:AV->U->Prop}(h:qz qs ex α S=some (r,S')) (k:R r S'):ab P w0 rd n (lA qs R) (.out ex []) α S:=⟨r,S',h,k⟩
structure bN (P:Program) (f:FuncId) (q:QC × List QR) (n:Nat):Prop where
 out:∃ fn c,P.funcs[f]?=some fn/\fn.body=some c/\fn.ntmps=n/\mw P.toTables fn.results.toList=some q.2/\comp P.toTables n c=some q.1/\bS P c=true/\∀ (xs:Array Value) (w:World),(callFunc f xs).run P w=.ok (.enter f xs) w
def ur (T:Tables) (fn:Func):Option (QC × List QR):=match fn.body with
 |some c=>match comp T fn.ntmps c,mw T fn.results.toList with
  |some q,some qs=>some (q,qs)
  |_,_=>none
 |none=>none
def rz (P:Program) (fn:Func):Bool:=match fn.body with|some c=>bS P c|none=>false
theorem bN.of {f:FuncId}{q:QC × List QR}{fn:Func}{T:Tables}(hf:P.funcs[f]?=some fn) (hq:ur T fn=some q) (hT:P.toTables=T) (hn:fn.ntmps=n) (hd:rz P fn=true)
  (hc:∀ (xs:Array Value) (w:World),(callFunc f xs).run P w=.ok (.enter f xs) w):bN P f q n:=by
 subst hT
 unfold ur at hq
 unfold rz at hd
 cases hb:fn.body with
 |none=>rw [hb] at hq;cases hq
 |some c =>
  rw [hb] at hq hd
  simp only at hq
  split at hq
  ·rename_i q1 qs h1 h2
   obtain rfl:=Option.some.inj hq
   exact⟨⟨fn,c,hf,hb,hn,h2,by rw [<-hn];exact h1,hd,hc⟩⟩
  ·cases hq
theorem ab.mono {Q':Exit->AA->U->Prop}(hm:∀ ex α S,Q ex α S->Q' ex α S) {c:QC}(h:ab P w0 rd n Q (.run c []) α S):ab P w0 rd n Q' (.run c []) α S:=by
 intro c0 hc hd
 obtain⟨ex,af,S',h1,h2⟩:=h c0 hc hd
 exact⟨ex,af,S',h1,hm _ _ _ h2⟩
theorem bN.bc {f:FuncId}{q:QC × List QR}{args:List AV}(F:bN P f q n) (aH:args.length<=n) (hp:Pure r) (h:ab P w0 false n (lA q.2 fun r' S=>bG S r' r) (.run q.1 []) ⟨iH args,[]⟩ U.none_):ag P w0 f args r:=by
 obtain⟨fn,c,hf,hb,hn,hr,hq,hd,hc⟩:=F.out
 exact ag.of_wp hf hb hc hn aH hp (ab.mono (fun ex α S=>ry hr) h c hq hd)
theorem bN.tj {f:FuncId}{q:QC × List QR}{args:List AV}{R:AV->U->Prop}(F:bN P f q n) (aH:args.length<=n) (h:ab P w0 false n (lA q.2 R) (.run q.1 []) ⟨iH args,[]⟩ S):∃ r S',aR P w0 f args S r S'/\R r S':=by
 obtain⟨fn,c,hf,hb,hn,hr,hq,hd,hc⟩:=F.out
 exact aR.of_wp hf hb hc hn aH (ab.mono (fun ex α S=>ry hr) h c hq hd)
theorem bG.of_eq {S:U}{a b:AV}(h:a=b):bG S a b:=by subst h;exact bG.refl _
end
structure Hd where
 h:{α β:Type}->(α->β)->α->β
 eq:∀ {α β:Type}(f:α->β) (a:α),h f a=f a
def Hd.plain:Hd:=⟨fun f a=>f a,fun _ _=>rfl⟩
def dZ (ρ:Hd) {T:Type}(f:T->List AV) (ex:Bool) (l:List T):AV:=.sl ex (ρ.h (List.map f) l)
section
variable {ρ:Hd}{T:Type}{f:T->List AV}{l:List T}{ex:Bool}
theorem jj:dZ ρ f ex l=.sl ex (l.map f):=by rw [dZ,ρ.eq]
theorem aq:(ρ.h (List.map f) l).length=l.length:=by rw [ρ.eq,List.length_map]
theorem bg {i:Int}{k:Nat}{x:T}(hi:i=(k:Int)) (h:l[k]?=some x):idx (ρ.h (List.map f) l) i=some (f x):=by
 rw [ρ.eq]
 exact HA hi h
theorem ba {m:Nat}(h:∀ x,(f x).length=m):∀ r ∈ ρ.h (List.map f) l,r.length=m:=by
 rw [ρ.eq]
 intro r hr
 obtain⟨x,_,rfl⟩:=List.mem_map.1 hr
 exact h x
theorem fO (h:∀ x ∈ l,∀ a ∈ f x,Pure a):Pure (dZ ρ f ex l):=by
 rw [jj]
 refine .sl fun row hr a ha=>?_
 obtain⟨x,hx,rfl⟩:=List.mem_map.1 hr
 exact h x hx a ha
end
end Go.Proofs.YtbofilglphfceaaGreat
