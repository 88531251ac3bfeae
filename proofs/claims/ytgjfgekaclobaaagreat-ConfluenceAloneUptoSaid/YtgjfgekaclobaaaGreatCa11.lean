import Derived.Laws.BytesString
import Derived.Shelf.SlIterI.Collect
import Derived.Shelf.SlIterI.Sorted
import Derived.Shelf.SortM.Plain
import Derived.Shelf.SortM.SortNone
import Derived.Test.YtgjfgekaclobaaaGreatProg
import Derived.Test.YtgjfgekaclobaaaGreatCa10
namespace Go.Proofs.YtgjfgekaclobaaaGreat
set_option linter.unusedVariables false
set_option linter.unusedSimpArgs false
open Go.RowKit
theorem tP {P:Program}{F:Fence}(h:gU F) (m:Machine):m.fenced P F:=by
 intro g _
 refine⟨fun h'=>?_,Or.inl (h.1 _),fun _ _=>h.1 _,fun _ h'=>?_⟩
 ·rw [h.2.2] at h';cases h'
 ·rw [h.2.1] at h';cases h'
theorem CallsIn.Qp {P:Program}{F:Fence}{m:Nat}{f:FuncId}{args:Array Value}{w:World}{R:Ending->World->Prop}(hF:gU F) (h:Calls P f args w R):CallsIn F m P f args w R:=by
 obtain⟨_,h2⟩:=callsIn_wide (n:=0).2 h
 refine⟨hF.1 f,fun cs _=>?_⟩
 obtain⟨e,w',fr,r,s,x⟩:=h2 cs (room_wide _)
 refine⟨e,w',fr,r,?_,x⟩
 cases e with
 |returned v=>exact StepsIn.mono (fun m _=>tP hF m) s
 |panicked chain=>exact StepsIn.mono (fun m _=>tP hF m) s
 |outgrown=>exact s
section
variable {P:Program}{w0:World}{S:ad}{r:AV}
theorem St.below {A:Nat->Prop}{g:Gh}{w w':World}(hS:St w0 A g S w) (hb:Below w.heap.size w w') :
  Ext A g w ⟨g.ob,g.cp,g.al,fun b q=>g.fz b q\/(w.heap.size<=b/\b < w'.heap.size),g.fo⟩ w'/\St w0 A ⟨g.ob,g.cp,g.al,fun b q=>g.fz b q\/(w.heap.size<=b/\b < w'.heap.size),g.fo⟩ S w':=by
 have hL:Later g w ⟨g.ob,g.cp,g.al,fun b q=>g.fz b q\/(w.heap.size<=b/\b < w'.heap.size),g.fo⟩ w':=⟨fun _ h=>h,fun _ _=>rfl,fun _ _=>rfl,fun _ _ h=>.inl h,fun b q hf=>World.cell?_of_block (hb.block b (hS.cC b q hf))⟩
 have hE:Ext A g w ⟨g.ob,g.cp,g.al,fun b q=>g.fz b q\/(w.heap.size<=b/\b < w'.heap.size),g.fo⟩ w':={ hL with size:=hb.size,a7:=fun b aA _=>hb.block b aA,gF:=fun b q h=>h.elim .inl fun e=>.inr (hS.up b e.1) }
 refine⟨hE,hS.next hE hb.os hb.tape hb.output hS.al (fun k p hk ha=>?_) hS.inj (fun b q hf=>?_) rfl (fun _ _ h1 h2=>⟨h1,h2⟩) (fun k o h1 h2=>.inr ⟨k,o,h2,h1,rfl,.inl rfl⟩)⟩
 ·obtain⟨h2,h3,h4⟩:=hS.bR k p hk ha
  exact⟨h2,Nat.lt_of_lt_of_le h3 hb.size,h4.later hL (hb.block _ h3) (fun q hq=>hq.elim id fun e=>absurd e.1 (by show ¬ w.heap.size<=g.ob k;omega)) fun J hJ=>⟨rfl,hb.size,fun c hc=>hb.block c (hS.ic k J (by rw [<-hJ];exact hk) ha c hc).2,fun c q hc hq=>hq.elim id fun h=>absurd h.1 (by have:=(hS.ic k J (by rw [<-hJ];exact hk) ha c hc).2;omega)⟩⟩
 ·rcases hf with hf|hf
  ·exact Nat.lt_of_lt_of_le (hS.cC b q hf) hb.size
  ·exact hf.2
theorem St.start (w:World):St w (fun b=>w.heap.size<=b) ⟨fun _=>0,fun _=>0,fun _=>False,fun b _=>b < w.heap.size,fun _ _=>False⟩ ad.none_ w :=
 have e0:∀ k o,¬ ad.none_.get k=some o:=fun k o h=>by simp [ad.none_] at h
 ⟨Below.refl _ _,fun _ h=>h,fun _ h=>h,fun k hk=>hk.elim,fun k o hk=>absurd hk (e0 k o),fun j k o p hj=>absurd hj (e0 j o),fun b q h=>h,fun b q h=>h,fun k J hk=>absurd hk (e0 k _),fun k J j o hk=>absurd hk (e0 k _),fun j k J J' hj=>absurd hj (e0 j _)⟩
theorem ah.calls {f:FuncId}{args:List AV}{x:Value}{aQ:Array Value}{w:World}(h:ah P w f args (.v x)) (hA:iP ⟨fun _=>0,fun _=>0,fun _=>False,fun b _=>b < w.heap.size,fun _ _=>False⟩ w args aQ) :
  Calls P f aQ w fun e w'=>e=.returned x/\Below w.heap.size w w':=by
 obtain⟨_,S',_,h⟩:=h
 refine (callsIn_wide (n:=0).1 (h Fence.wide 0 _ _ aQ w gU.wide (St.start w) hA)).mono ?_
 rintro e w' ⟨v,g',rfl,hr,hS,hE⟩
 obtain rfl:=bO hr
 exact⟨rfl,hS.base⟩
end
section
variable {P:Program}{w0:World}{n:Nat}{o:Op}{α:AA}{S S':ad}{r:AV}{q:dp}{dr:Bool}
theorem XH {op:BinOp}{isB:BK}{t:TypeId}{a b:AV}{e:Bool}(hB:isB=.b->P.underlying t=some .bool) (h:JJ op isB a b=some e):∃ x y,a=.v x/\b=.v y/\qe P op t x y=some (.bool e)/\(∀ k i j,x=.int k i->y=.int k j->arith op i j=none)/\(∀ s s',x=.string s->y=.string s'->op ≠ .add):=by
 unfold JJ at h
 split at h
 ·rename_i k a k' b
  split at h
  ·rename_i hk
   refine⟨_,_,rfl,rfl,?_,?_,fun s s' h=>by cases h⟩
   ·simp only [qe,hk]
    cases op<;>simp only [oI_,reduceCtorEq] at h ⊢<;>subst h<;>rfl
   ·intro k i j h1 h2
    cases op<;>simp only [reduceCtorEq] at h<;>rfl
  ·cases h
 ·rename_i a b
  refine⟨_,_,rfl,rfl,?_,(fun k i j h=>by cases h),fun s s' h1 h2 he=>?_⟩
  ·simp only [qe]
   cases op<;>simp only [oI_,reduceCtorEq] at h ⊢<;>subst h<;>rfl
  ·subst he;simp at h
 ·rename_i a b
  refine⟨_,_,rfl,rfl,?_,(fun k i j h=>by cases h),fun s s' h=>by cases h⟩
  split at h
  ·simp only [qe,hB rfl];simp only [oI_] at h;subst h;rfl
  ·simp only [qe,hB rfl];simp only [oI_] at h;subst h;rfl
  ·cases h
 ·cases h
theorem q8 {op:BinOp}{isB:BK}{x y:QO}(h:res P.toTables o=some (.bin op isB x y)):∃ t u v s,o=.binOp op t u v s/\x=qo u/\y=qo v/\(isB=.b->P.underlying t=some .bool):=by
 cases o with
 |binOp YX t u v s =>
  simp only [res,bF] at h
  split at h
  ·rename_i hu
   injection h with h;injection h with h1 h2 h3 h4
   subst h1 h2 h3 h4
   exact⟨_,_,_,_,rfl,rfl,rfl,fun _=>hu⟩
  ·injection h with h;injection h with h1 h2 h3 h4
   subst h1 h2 h3 h4
   exact⟨_,_,_,_,rfl,rfl,rfl,fun h=>by cases h⟩
  ·injection h with h;injection h with h1 h2 h3 h4
   subst h1 h2 h3 h4
   exact⟨_,_,_,_,rfl,rfl,rfl,fun h=>by cases h⟩
  ·injection h with h;injection h with h1 h2 h3 h4
   subst h1 h2 h3 h4
   exact⟨_,_,_,_,rfl,rfl,rfl,fun h=>by cases h⟩
  ·split at h<;>cases h
  ·injection h with h;injection h with h1 h2 h3 h4
   subst h1 h2 h3 h4
   exact⟨_,_,_,_,rfl,rfl,rfl,fun h=>by cases h⟩
 |_ =>
  simp only [res] at h
  repeat' split at h
  all_goals cases h
theorem ae.bit {op:BinOp}{isB:BK}{x y:QO}{e:Bool}(h:JJ op isB (x.ev α.tm) (y.ev α.tm)=some e):ae P w0 dr (.bin op isB x y) α S (.v (.bool e)) S:=by
 refine ae.of rfl fun o hr=>?_
 obtain⟨t,u,v,s,rfl,rfl,rfl,hB⟩:=q8 hr
 rw [aJ,aJ] at h
 obtain⟨x,y,h1,h2,h3,h4,h5⟩:=XH hB h
 simp only [aX,h1,h2]
 split
 ·rename_i k a k' b e1 e2
  injection e1 with e1;injection e2 with e2
  subst e1 e2
  split
  ·rename_i c hc
   split
   ·rename_i hk
    have:k=k':=of_decide_eq_true hk
    subst this
    rw [h4 _ _ _ rfl rfl] at hc;cases hc
   ·rename_i hk
    simp only [qe] at h3
    rw [hk] at h3
    simp at h3
  ·rw [h3];exact rG.mk ⟨rfl,rfl⟩
 ·rename_i a b e1 e2
  injection e1 with e1;injection e2 with e2
  subst e1 e2
  have h6:=h5 _ _ rfl rfl
  split
  ·exact absurd rfl h6
  ·rw [h3];exact rG.mk ⟨rfl,rfl⟩
 ·rename_i a b ha hb e1 e2
  injection e1 with e1;injection e2 with e2
  subst e1 e2
  rw [h3];exact rG.mk ⟨rfl,rfl⟩
 ·rename_i h7 h8 h9
  exact absurd rfl (h9 x y rfl)
theorem ae.YY {op:BinOp}{isB:BK}{x y:QO}{k:IntKind}{a b c:Int}(h1:x.ev α.tm=.v (.int k a)) (h2:y.ev α.tm=.v (.int k b)) (h:arith op a b=some c):ae P w0 dr (.bin op isB x y) α S (.v (.int k (k.wrap c))) S:=by
 refine ae.of rfl fun o hr=>?_
 obtain⟨t,u,v,s,rfl,rfl,rfl,hB⟩:=q8 hr
 rw [aJ] at h1 h2
 simp only [aX,h1,h2,h,decide_true]
 exact⟨_,rfl,rfl,rfl⟩
theorem ae.cat {isB:BK}{x y:QO}{a b:ByteArray}(h1:x.ev α.tm=.v (.string a)) (h2:y.ev α.tm=.v (.string b)) (h:a.size+b.size<=9223372036854775807):ae P w0 dr (.bin .add isB x y) α S (.v (.string (a++b))) S:=by
 refine ae.of rfl fun o hr=>?_
 obtain⟨t,u,v,s,rfl,rfl,rfl,hB⟩:=q8 hr
 rw [aJ] at h1 h2
 simp only [aX,h1,h2]
 exact⟨h,rfl,rfl⟩
theorem ae.neg {x:QO}{k:IntKind}{a:Int}(h1:x.ev α.tm=.v (.int k a)):ae P w0 dr (.neg x) α S (.v (.int k (k.wrap (0 - a)))) S:=by
 refine ae.of rfl fun o hr=>?_
 cases o<;>simp only [res] at hr<;>(repeat' split at hr)<;>(try cases hr)
 rw [aJ] at h1
 simp only [aX,h1]
 exact⟨_,rfl,rfl,rfl⟩
theorem ae.conv {x:QO}{k k':IntKind}{a:Int}(h1:x.ev α.tm=.v (.int k' a)):ae P w0 dr (.conv k x) α S (.v (.int k (k.wrap a))) S:=by
 refine ae.of rfl fun o hr=>?_
 cases o<;>simp only [res,bF] at hr<;>(repeat' split at hr)<;>(try cases hr)
 rename_i e1 e2
 rw [aJ] at h1
 simp only [aX,h1,e1,e2]
 exact⟨_,rfl,rfl,rfl⟩
theorem ae.qL {x:QO}{a:ByteArray}(h1:x.ev α.tm=.v (.string a)):ae P w0 dr (.qL x) α S (.v (.string a)) S:=by
 refine ae.of rfl fun o hr=>?_
 cases o<;>simp only [res,bF] at hr<;>(repeat' split at hr)<;>(try cases hr)
 rename_i e1 e2
 rw [aJ] at h1
 simp only [aX,h1,e1,e2]
 exact⟨rfl,rfl⟩
def dM (f:AV) (args:List AV):Option (FuncId × List AV):=match f with
 |.v (.func (.func g) a b)=>match a.toList,b.toList with
  |[],[]=>some (g,args)
  |_,_=>none
 |.fn (.func g) first cap=>some (g,first++args++cap)
 |_=>none
theorem jP {f:QO}{args:List QO}(h:res P.toTables o=some (.call f args)):∃ c u,o=.call c/\c.callee=.value u/\f=qo u/\args=c.args.toList.map qo:=by
 cases o with
 |call c =>
  simp only [res] at h
  split at h
  ·rename_i u hu
   injection h with h;injection h with h1 h2
   exact⟨c,u,rfl,hu,h1.symm,h2.symm⟩
  ·repeat' split at h
   all_goals cases h
  ·cases h
 |_ =>
  simp only [res] at h
  repeat' split at h
  all_goals cases h
theorem ij {l:List Operand}:(l.map qo).map (·.ev α.tm)=l.map α.ev:=by
 rw [List.map_map]
 exact List.map_congr_left fun x _=>aJ x
theorem ae.call {f:QO}{aZ9:List QO}{g:FuncId}{args:List AV}(h:dM (f.ev α.tm) (aZ9.map (·.ev α.tm))=some (g,args)) (hc:aK P w0 g args S r S') (hd:dr=true->S'=S):ae P w0 dr (.call f aZ9) α S r S':=by
 cases dr with
 |false =>
  intro n o hr
  refine ef.Dx ?_
  obtain⟨c,u,ho,hu,rfl,rfl⟩:=jP hr
  rw [ij,aJ] at h
  unfold dM at h
  rw [ho]
  simp only [aX,hu]
  split at h
  ·rename_i g' a b he
   split at h
   ·rename_i e1 e2
    injection h with h;injection h with h1 h2
    subst h1 h2
    simp only [yD,he,e1,e2]
    exact⟨r,S',hc,rfl,rfl⟩
   ·cases h
  ·rename_i g' a b he
   injection h with h;injection h with h1 h2
   subst h1 h2
   simp only [yD,he]
   exact⟨r,S',hc,rfl,rfl⟩
  ·cases h
 |true =>
  intro n o hr
  refine Ik.ofD ?_
  obtain⟨c,u,ho,hu,rfl,rfl⟩:=jP hr
  rw [ij,aJ] at h
  unfold dM at h
  obtain rfl:=hd rfl
  rw [ho]
  simp only [gm,hu]
  split at h
  ·rename_i g' a b he
   split at h
   ·rename_i e1 e2
    injection h with h;injection h with h1 h2
    subst h1 h2
    simp only [AX,he,e1,e2]
    exact⟨r,hc,rfl,rfl⟩
   ·cases h
  ·rename_i g' a b he
   injection h with h;injection h with h1 h2
   subst h1 h2
   simp only [AX,he]
   exact⟨r,hc,rfl,rfl⟩
  ·cases h
def Qq (str:Bool):AV->Option Nat
 |.sl _ rows=>match str with|false=>some rows.length|true=>none
 |.ob _ _ _ len _=>match str with|false=>some len|true=>none
 |.v (.string s)=>match str with|true=>some s.size|false=>none
 |_=>none
theorem ae.len {str:Bool}{x:QO}{m:Nat}(h:Qq str (x.ev α.tm)=some m):ae P w0 dr (.len str x) α S (.v (.int .i64 m)) S:=by
 refine ae.of rfl fun o hr=>?_
 cases o<;>simp only [res,bF] at hr<;>(repeat' split at hr)<;>(try cases hr)
 all_goals
  rw [aJ] at h
  simp only [aX,lZ,List.map_cons,List.map_nil, *]
  refine aZ.mk (a:=m) ?_ ⟨rfl,rfl⟩
  unfold lenOf
  unfold Qq at h
  split at h<;>(try split at h)<;>(try cases h)<;>first|contradiction|simp only [isStr,m7, *]
theorem ae.ind {m:Nat}{x i:QO}{ex:Bool}{rows:List (List AV)}{row:List AV}{k:IntKind}{j:Int}(h1:x.ev α.tm=.sl ex rows) (h2:i.ev α.tm=.v (.int k j)) (h3:idx rows j=some row) (h4:∀ r ∈ rows,r.length=m):ae P w0 dr (.ny m x i) α S (.ip row) S:=by
 refine ae.of rfl fun o hr=>?_
 cases o<;>simp only [res,bF,dJ] at hr<;>(repeat' split at hr)<;>(try cases hr)
 rw [aJ] at h1 h2
 simp only [aX, *]
 exact aZ.mk rfl ⟨h4,rfl,rfl⟩
theorem ae.YZ {m:Nat}{x i:QO}{k off len:Nat}{cx:Option Nat}{ik:IntKind}{j:Int}(h1:x.ev α.tm=.ob k m off len cx) (h2:i.ev α.tm=.v (.int ik j)) (h3:0<=j) (h4:j < len):ae P w0 dr (.ny m x i) α S (.pt k m (off+j.toNat) 0) S:=by
 refine ae.of rfl fun o hr=>?_
 cases o<;>simp only [res,bF,dJ] at hr<;>(repeat' split at hr)<;>(try cases hr)
 rw [aJ] at h1 h2
 rename_i e1 _ e2
 simp only [aX,h1,h2,e1,e2]
 exact⟨trivial,h3,h4,rfl,rfl⟩
theorem ae.Qr {x i:QO}{s:ByteArray}{ik:IntKind}{j:Int}{b:UInt8}(h1:x.ev α.tm=.v (.string s)) (h2:i.ev α.tm=.v (.int ik j)) (h3:idx s.data.toList j=some b):ae P w0 dr (.wD x i) α S (.v (.int .u8 b.toNat)) S:=by
 refine ae.of rfl fun o hr=>?_
 cases o<;>simp only [res,bF,dJ] at hr<;>(repeat' split at hr)<;>(try cases hr)
 rw [aJ] at h1 h2
 simp only [aX, *]
 exact aZ.mk rfl ⟨rfl,rfl⟩
theorem ae.min {x y:QO}{k:IntKind}{a b:Int}(h1:x.ev α.tm=.v (.int k a)) (h2:y.ev α.tm=.v (.int k b)):ae P w0 dr (.min x y) α S (.v (.int k (min a b))) S:=by
 refine ae.of rfl fun o hr=>?_
 cases o<;>simp only [res,bF] at hr<;>(repeat' split at hr)<;>(try cases hr)
 rw [aJ] at h1 h2
 simp only [aX,lZ,List.map_cons,List.map_nil,decide_true, *]
 exact⟨rfl,rfl⟩
theorem ae.max {x y:QO}{k:IntKind}{a b:Int}(h1:x.ev α.tm=.v (.int k a)) (h2:y.ev α.tm=.v (.int k b)):ae P w0 dr (.max x y) α S (.v (.int k (max a b))) S:=by
 refine ae.of rfl fun o hr=>?_
 cases o<;>simp only [res,bF] at hr<;>(repeat' split at hr)<;>(try cases hr)
 rw [aJ] at h1 h2
 simp only [aX,lZ,List.map_cons,List.map_nil,decide_true, *]
 exact⟨rfl,rfl⟩
end
section
variable {P:Program}{w0:World}{rd:Bool}{n:Nat}{α aw:AA}{S S':ad}{Q:Exit->AA->ad->Prop}{ex:Exit}{r:AV}{i:QI}{l:List QI}{K:List fc}{dr:Bool}{cf rF:QF}
theorem aa.op (hw:bD α.tm i.g=some true) (h:ae P w0 dr i.q α S r S') (k:aa P w0 rd n Q (.aU dr l K) (bS i.d α r) S'):aa P w0 rd n Q (.aU dr (i::l) K) α S:=eH.op hw h k
theorem aa.bif {e:Bool}(hw:bD α.tm i.g=some true) (h:ae P w0 dr i.q α S (.v (.bool e)) S') (k1:e=true->aa P w0 rd n Q (.aU dr l K) (bS i.d α (.v (.bool true))) S') (k2:e=false->aa P w0 rd n Q (.aU dr l K) (bS i.d α (.v (.bool false))) S') :
  aa P w0 rd n Q (.aU dr (i::l) K) α S:=by
 refine eH.op hw h ?_
 cases e with
 |true=>exact k1 rfl
 |false=>exact k2 rfl
theorem aa.int {ik:IntKind}{e:Int}(hw:bD α.tm i.g=some true) (h:ae P w0 dr i.q α S (.v (.int ik e)) S') (k:∀ d,d=e->aa P w0 rd n Q (.aU dr l K) (bS i.d α (.v (.int ik d))) S'):aa P w0 rd n Q (.aU dr (i::l) K) α S:=eH.op hw h (k e rfl)
theorem aa.str {e:ByteArray}(hw:bD α.tm i.g=some true) (h:ae P w0 dr i.q α S (.v (.string e)) S') (k:∀ d,d=e->aa P w0 rd n Q (.aU dr l K) (bS i.d α (.v (.string d))) S'):aa P w0 rd n Q (.aU dr (i::l) K) α S:=eH.op hw h (k e rfl)
theorem acX {c:Int}(h1:-9223372036854775808<=c) (h2:c<=9223372036854775807):IntKind.i64.wrap c=c:=wrap64 h1 h2
theorem ae.AY {op:BinOp}{isB:BK}{x y:QO}{a b c:Int}(h1:x.ev α.tm=.v (.int .i64 a)) (h2:y.ev α.tm=.v (.int .i64 b)) (h:arith op a b=some c) (hl:-9223372036854775808<=c) (hh:c<=9223372036854775807):ae P w0 dr (.bin op isB x y) α S (.v (.int .i64 c)) S:=by
 have:=ae.YY (P:=P) (w0:=w0) (S:=S) (dr:=dr) (isB:=isB) h1 h2 h
 rw [acX hl hh] at this
 exact this
theorem ae.aL {f:QO}{aZ9:List QO}{g:FuncId}{args:List AV}(h:dM (f.ev α.tm) (aZ9.map (·.ev α.tm))=some (g,args)) (hc:ah P w0 g args r) (hp:dm args):ae P w0 dr (.call f aZ9) α S r S:=ae.call h (hc.zW hp S) fun _=>rfl
theorem ae.AZ {f:QO}{aZ9:List QO}{g:FuncId}{args ec:List AV}(h:dM (f.ev α.tm) (aZ9.map (·.ev α.tm))=some (g,ec)) (hc:ah P w0 g args r) (hp:dm args) (hs:rH r) (hf:fH S ec args):ae P w0 dr (.call f aZ9) α S r S:=ae.call h (hc.Ff hp hs hf) fun _=>rfl
def lpQ (P:Program) (w0:World) (rd:Bool) (n:Nat) (I:Nat->AA->ad->Prop) (Q:Exit->AA->ad->Prop) (K:List fc) (k:Nat):Exit->AA->ad->Prop :=
 fun ex α S=>match ex with|.normal=>∃ j,j < k/\I j α S|e=>aa P w0 rd n Q (.out e K) α S
def LpI {σ:Type}(st:σ->List (Nat × AV)) (ds:List DE) (so:σ->ad) (I:σ->Prop) (μ:σ->Nat) (k:Nat) (α:AA) (S:ad):Prop:=∃ s,I s/\μ s=k/\α.has (st s)/\α.df=ds/\S=so s
def j6 (f:Nat->AV):List (Nat × AV)->Nat->AV
 |[]=>f
 |p::l=>a8 (j6 f l) p.1 p.2
theorem aa.next {σ:Type}{st:σ->List (Nat × AV)}{ds:List DE}{so:σ->ad}{I:σ->Prop}{μ:σ->Nat}{k:Nat}(s:σ) (hI:I s) (hk:μ s < k) (h:α.has (st s)) (hd:α.df=ds) (hS:S=so s) :
  aa P w0 rd n (lpQ P w0 rd n (LpI st ds so I μ) Q K k) (.out .normal []) α S:=⟨μ s,hk,s,hI,rfl,h,hd,hS⟩
inductive QR where
 |t (n:Nat)
 |cell (k:LK) (n:Nat)
def tt (T:Tables):List ResultVar->Option (List QR)
 |[]=>some []
 |.tmp n::l=>match tt T l with
  |some l'=>some (.t n::l')
  |none=>none
 |.cell n t::l=>match Fg T t,tt T l with
  |some k,some l'=>some (.cell k n::l')
  |_,_=>none
def lO (f:Nat->AV) (S:ad):List QR->Option (List AV)
 |[]=>some []
 |.t n::l=>match lO f S l with
  |some l'=>some (f n::l')
  |none=>none
 |.cell k n::l=>match kX k S (f n),lO f S l with
  |some a,some l'=>some (a::l')
  |_,_=>none
def uV (qs:List QR) (ex:Exit) (α:AA) (S:ad):Option (AV × ad):=match A0 ex,wE S α.df with
 |true,true=>match lO α.tm (jr S α.df) qs with
  |some [a]=>some (a,jr S α.df)
  |some l=>some (.aE l,jr S α.df)
  |none=>none
 |_,_=>none
def og (qs:List QR) (R:AV->ad->Prop) (ex:Exit) (α:AA) (S:ad):Prop:=∃ r S',uV qs ex α S=some (r,S')/\R r S'
theorem zX {l:List ResultVar}:∀ {qs:List QR}{m:List AV},tt P.toTables l=some qs->lO α.tm S qs=some m->wF P α S l=some m:=by
 induction l with
 |nil=>intro qs m h k;obtain rfl:=oJ_ h;exact k
 |cons v l ih =>
  intro qs m h k
  cases v with
  |tmp n =>
   simp only [tt] at h
   split at h
   ·rename_i l' hl
    obtain rfl:=oJ_ h
    simp only [lO] at k
    split at k
    ·rename_i m' hm
     obtain rfl:=oJ_ k
     simp only [wF,JK,ih hl hm]
    ·cases k
   ·cases h
  |cell n t =>
   simp only [tt] at h
   split at h
   ·rename_i lk l' hk hl
    obtain rfl:=oJ_ h
    simp only [lO] at k
    split at k
    ·rename_i a m' ha hm
     obtain rfl:=oJ_ k
     rw [<-DA hk] at ha
     simp only [wF,JK,ha,ih hl hm]
    ·cases k
   ·cases h
theorem wG {rs:Array ResultVar}{qs:List QR}{R:AV->ad->Prop}(hr:tt P.toTables rs.toList=some qs) (h:og qs R ex α S):Fh P rs R ex α S:=by
 obtain⟨r,S',h,k⟩:=h
 unfold uV at h
 split at h
 ·rename_i he hd
  have key:∀ m,lO α.tm (jr S α.df) qs=some m->wF P α (jr S α.df) rs.toList=some m:=fun m hm=>zX hr hm
  unfold Fh
  rw [hd]
  have fin:uW P rs α (jr S α.df)=some r/\jr S α.df=S':=by
   split at h
   ·rename_i a hq
    injection h with h;injection h with h1 h2
    subst h1
    exact⟨by unfold uW;rw [key _ hq],h2⟩
   ·rename_i l a_ hq
    injection h with h;injection h with h1 h2
    subst h1
    refine⟨?_,h2⟩
    unfold uW
    rw [key _ hq]
    split
    ·rename_i e;injection e with e;subst e;exact (a_ _ rfl).elim
    ·rename_i e;injection e with e;subst e;rfl
    ·rename_i e;cases e
   ·cases h
  rw [fin.1,fin.2]
  cases ex<;>first|exact k|cases he
 ·cases h
theorem aa.fin {qs:List QR}{R:AV->ad->Prop}(h:uV qs ex α S=some (r,S')) (k:R r S'):aa P w0 rd n (og qs R) (.out ex []) α S:=⟨r,S',h,k⟩
structure aT (P:Program) (f:FuncId) (q:QC × List QR) (n:Nat):Prop where
 out:∃ fn c,P.funcs[f]?=some fn/\fn.body=some c/\fn.ntmps=n/\tt P.toTables fn.results.toList=some q.2/\comp P.toTables n c=some q.1/\cI P c=true/\∀ (xs:Array Value) (w:World),(callFunc f xs).run P w=.ok (.enter f xs) w
def ES (T:Tables) (fn:Func):Option (QC × List QR):=match fn.body with
 |some c=>match comp T fn.ntmps c,tt T fn.results.toList with
  |some q,some qs=>some (q,qs)
  |_,_=>none
 |none=>none
def A1 (P:Program) (fn:Func):Bool:=match fn.body with|some c=>cI P c|none=>false
theorem aT.of {f:FuncId}{q:QC × List QR}{fn:Func}{T:Tables}(hf:P.funcs[f]?=some fn) (hq:ES T fn=some q) (hT:P.toTables=T) (hn:fn.ntmps=n) (hd:A1 P fn=true)
  (hc:∀ (xs:Array Value) (w:World),(callFunc f xs).run P w=.ok (.enter f xs) w):aT P f q n:=by
 subst hT
 unfold ES at hq
 unfold A1 at hd
 cases hb:fn.body with
 |none=>rw [hb] at hq;cases hq
 |some c =>
  rw [hb] at hq hd
  simp only at hq
  split at hq
  ·rename_i q1 qs h1 h2
   obtain rfl:=oJ_ hq
   exact⟨⟨fn,c,hf,hb,hn,h2,by rw [<-hn];exact h1,hd,hc⟩⟩
  ·cases hq
theorem aa.mono {Q':Exit->AA->ad->Prop}(hm:∀ ex α S,Q ex α S->Q' ex α S) {c:QC}(h:aa P w0 rd n Q (.run c []) α S):aa P w0 rd n Q' (.run c []) α S:=by
 intro c0 hc hd
 obtain⟨ex,aw,S',h1,h2⟩:=h c0 hc hd
 exact⟨ex,aw,S',h1,hm _ _ _ h2⟩
theorem aT.bu {f:FuncId}{q:QC × List QR}{args:List AV}(F:aT P f q n) (aY:args.length<=n) (hp:Pure r) (h:aa P w0 false n (og q.2 fun r' S=>bp S r' r) (.run q.1 []) ⟨j_ args,[]⟩ ad.none_):ah P w0 f args r:=by
 obtain⟨fn,c,hf,hb,hn,hr,hq,hd,hc⟩:=F.out
 exact ah.of_wp hf hb hc hn aY hp (aa.mono (fun ex α S=>wG hr) h c hq hd)
theorem aT.A3 {f:FuncId}{q:QC × List QR}{args:List AV}{R:AV->ad->Prop}(F:aT P f q n) (aY:args.length<=n) (h:aa P w0 false n (og q.2 R) (.run q.1 []) ⟨j_ args,[]⟩ S):∃ r S',aK P w0 f args S r S'/\R r S':=by
 obtain⟨fn,c,hf,hb,hn,hr,hq,hd,hc⟩:=F.out
 exact aK.of_wp hf hb hc hn aY (aa.mono (fun ex α S=>wG hr) h c hq hd)
theorem bp.of_eq {S:ad}{a b:AV}(h:a=b):bp S a b:=by subst h;exact bp.refl _
end
structure Hd where
 h:{α β:Type}->(α->β)->α->β
 eq:∀ {α β:Type}(f:α->β) (a:α),h f a=f a
def Hd.plain:Hd:=⟨fun f a=>f a,fun _ _=>rfl⟩
def cE (ρ:Hd) {T:Type}(f:T->List AV) (ex:Bool) (l:List T):AV:=.sl ex (ρ.h (List.map f) l)
section
variable {ρ:Hd}{T:Type}{f:T->List AV}{l:List T}{ex:Bool}
theorem cO:cE ρ f ex l=.sl ex (l.map f):=by rw [cE,ρ.eq]
theorem aF:(ρ.h (List.map f) l).length=l.length:=by rw [ρ.eq,List.length_map]
theorem bU {i:Int}{k:Nat}{x:T}(hi:i=(k:Int)) (h:l[k]?=some x):idx (ρ.h (List.map f) l) i=some (f x):=by
 rw [ρ.eq]
 exact XI hi h
theorem bV {m:Nat}(h:∀ x,(f x).length=m):∀ r ∈ ρ.h (List.map f) l,r.length=m:=by
 rw [ρ.eq]
 intro r hr
 obtain⟨x,_,rfl⟩:=List.mem_map.1 hr
 exact h x
theorem fg (h:∀ x ∈ l,∀ a ∈ f x,Pure a):Pure (cE ρ f ex l):=by
 rw [cO]
 refine .sl fun row hr a ha=>?_
 obtain⟨x,hx,rfl⟩:=List.mem_map.1 hr
 exact h x hx a ha
end
section
open Go.Shelf
def Tryz.DB:Go.Shelf.Ren:=⟨fun|7=>374|10=>406|n=>n,fun|23=>371|26=>3|3=>3|28=>258|0=>0|27=>257|33=>197|4=>4|n=>n,fun|n=>n⟩
theorem Tryz.acY:Go.Proofs.SlLaysZI.n7 Tryz.prog Tryz.DB:={
 mixed:=by kernel_rfl
 f7:=⟨Tryz.f374.name,by decide,Tryz.func374.trans (congrArg some (by kernel_rfl))⟩
 f10:=⟨Tryz.f406.name,by decide,Tryz.func406.trans (congrArg some (by kernel_rfl))⟩
 t0:=Tryz.underlying0
 a0:=Tryz.isAgg0
 z0:=Tryz.sizeOf0
 v0:=Tryz.zeroValue0
 t4:=Tryz.underlying4
 a4:=Tryz.isAgg4
 z4:=Tryz.sizeOf4
 v4:=Tryz.zeroValue4
 t23:=Tryz.underlying371
 a23:=Tryz.isAgg371
 z23:=Tryz.sizeOf371
 v23:=Tryz.zeroValue371
 t26:=Tryz.underlying3
 a26:=Tryz.isAgg3
 z26:=Tryz.sizeOf3
 v26:=Tryz.zeroValue3
 t27:=Tryz.underlying257
 a27:=Tryz.isAgg257
 z27:=Tryz.sizeOf257
 v27:=Tryz.zeroValue257
 t28:=Tryz.underlying258
 a28:=Tryz.isAgg258
 z28:=Tryz.sizeOf258
 v28:=Tryz.zeroValue258
 t33:=Tryz.underlying197
 a33:=Tryz.isAgg197
 z33:=Tryz.sizeOf197
 v33:=Tryz.zeroValue197 }
def Tryz.zi:Go.Shelf.Ren:=⟨fun|6=>373|8=>404|9=>405|11=>427|13=>429|12=>428|23=>443|24=>444|14=>434|15=>435|16=>436|17=>437|18=>438|19=>439|20=>440|21=>441|22=>442|25=>454|26=>455|27=>456|28=>457|29=>458|30=>283|31=>462|n=>n,fun|26=>3|28=>258|24=>38|0=>0|3=>3|37=>41|48=>423|50=>435|4=>4|40=>428|39=>427|45=>213|5=>5|9=>9|51=>442|55=>446|57=>450|58=>451|33=>197|n=>n,fun|n=>n⟩
theorem Tryz.XJ:Go.Proofs.SlLaysZI.n6 Tryz.prog Tryz.zi:={
 mixed:=by kernel_rfl
 f6:=⟨Tryz.f373.name,by decide,Tryz.func373.trans (congrArg some (by kernel_rfl))⟩
 f8:=⟨Tryz.f404.name,by decide,Tryz.func404.trans (congrArg some (by kernel_rfl))⟩
 f11:=⟨Tryz.f427.name,by decide,Tryz.func427.trans (congrArg some (by kernel_rfl))⟩
 t0:=Tryz.underlying0
 a0:=Tryz.isAgg0
 z0:=Tryz.sizeOf0
 v0:=Tryz.zeroValue0
 t24:=Tryz.underlying38
 a24:=Tryz.isAgg38
 z24:=Tryz.sizeOf38
 v24:=Tryz.zeroValue38
 t26:=Tryz.underlying3
 a26:=Tryz.isAgg3
 z26:=Tryz.sizeOf3
 v26:=Tryz.zeroValue3
 t28:=Tryz.underlying258
 a28:=Tryz.isAgg258
 z28:=Tryz.sizeOf258
 v28:=Tryz.zeroValue258
 i26:=by kernel_rfl }
def Tryz.N5:Go.Shelf.Ren:=⟨fun|5=>405|8=>429|7=>428|19=>443|20=>444|10=>434|11=>435|12=>436|13=>437|14=>438|15=>439|16=>440|17=>441|18=>442|30=>454|31=>455|32=>456|33=>457|34=>458|35=>283|40=>462|n=>n,fun|23=>38|25=>3|3=>3|32=>41|22=>38|0=>0|44=>423|46=>435|4=>4|36=>428|35=>427|41=>213|5=>5|9=>9|53=>442|57=>446|63=>450|64=>451|n=>n,fun|n=>n⟩
theorem Tryz.TI:Go.Proofs.SlLaysM.n5 Tryz.prog Tryz.N5:={
 mixed:=by kernel_rfl
 f5:=⟨Tryz.f405.name,by decide,Tryz.func405.trans (congrArg some (by kernel_rfl))⟩
 f7:=⟨Tryz.f428.name,by decide,Tryz.func428.trans (congrArg some (by kernel_rfl))⟩
 f8:=Tryz.func429.trans (congrArg some (by kernel_rfl))
 f10:=⟨Tryz.f434.name,by decide,Tryz.func434.trans (congrArg some (by kernel_rfl))⟩
 f11:=⟨Tryz.f435.name,by decide,Tryz.func435.trans (congrArg some (by kernel_rfl))⟩
 f12:=⟨Tryz.f436.name,by decide,Tryz.func436.trans (congrArg some (by kernel_rfl))⟩
 f13:=⟨Tryz.f437.name,by decide,Tryz.func437.trans (congrArg some (by kernel_rfl))⟩
 f14:=⟨Tryz.f438.name,by decide,Tryz.func438.trans (congrArg some (by kernel_rfl))⟩
 f15:=⟨Tryz.f439.name,by decide,Tryz.func439.trans (congrArg some (by kernel_rfl))⟩
 f16:=⟨Tryz.f440.name,by decide,Tryz.func440.trans (congrArg some (by kernel_rfl))⟩
 f17:=⟨Tryz.f441.name,by decide,Tryz.func441.trans (congrArg some (by kernel_rfl))⟩
 f18:=⟨Tryz.f442.name,by decide,Tryz.func442.trans (congrArg some (by kernel_rfl))⟩
 f19:=Tryz.func443.trans (congrArg some (by kernel_rfl))
 f20:=Tryz.func444.trans (congrArg some (by kernel_rfl))
 f30:=⟨Tryz.f454.name,by decide,Tryz.func454.trans (congrArg some (by kernel_rfl))⟩
 f31:=Tryz.func455.trans (congrArg some (by kernel_rfl))
 f32:=Tryz.func456.trans (congrArg some (by kernel_rfl))
 f33:=⟨Tryz.f457.name,by decide,Tryz.func457.trans (congrArg some (by kernel_rfl))⟩
 f34:=⟨Tryz.f458.name,by decide,Tryz.func458.trans (congrArg some (by kernel_rfl))⟩
 f35:=⟨Tryz.f283.name,by decide,Tryz.func283.trans (congrArg some (by kernel_rfl))⟩
 f40:=⟨Tryz.f462.name,by decide,Tryz.func462.trans (congrArg some (by kernel_rfl))⟩
 t0:=Tryz.underlying0
 a0:=Tryz.isAgg0
 z0:=Tryz.sizeOf0
 v0:=Tryz.zeroValue0
 t3:=Tryz.underlying3
 a3:=Tryz.isAgg3
 z3:=Tryz.sizeOf3
 v3:=Tryz.zeroValue3
 t4:=Tryz.underlying4
 a4:=Tryz.isAgg4
 z4:=Tryz.sizeOf4
 v4:=Tryz.zeroValue4
 t5:=Tryz.underlying5
 a5:=Tryz.isAgg5
 z5:=Tryz.sizeOf5
 v5:=Tryz.zeroValue5
 t9:=Tryz.underlying9
 a9:=Tryz.isAgg9
 z9:=Tryz.sizeOf9
 v9:=Tryz.zeroValue9
 t22:=Tryz.underlying38
 a22:=Tryz.isAgg38
 z22:=Tryz.sizeOf38
 v22:=Tryz.zeroValue38
 t23:=Tryz.underlying38
 a23:=Tryz.isAgg38
 z23:=Tryz.sizeOf38
 v23:=Tryz.zeroValue38
 t25:=Tryz.underlying3
 a25:=Tryz.isAgg3
 z25:=Tryz.sizeOf3
 v25:=Tryz.zeroValue3
 t32:=Tryz.underlying41
 a32:=Tryz.isAgg41
 z32:=Tryz.sizeOf41
 v32:=Tryz.zeroValue41
 t35:=Tryz.underlying427
 a35:=Tryz.isAgg427
 z35:=Tryz.sizeOf427
 v35:=Tryz.zeroValue427
 t36:=Tryz.underlying428
 a36:=Tryz.isAgg428
 z36:=Tryz.sizeOf428
 v36:=Tryz.zeroValue428
 t41:=Tryz.underlying213
 a41:=Tryz.isAgg213
 z41:=Tryz.sizeOf213
 v41:=Tryz.zeroValue213
 t44:=Tryz.underlying423
 a44:=Tryz.isAgg423
 z44:=Tryz.sizeOf423
 v44:=Tryz.zeroValue423
 t46:=Tryz.underlying435
 a46:=Tryz.isAgg435
 z46:=Tryz.sizeOf435
 v46:=Tryz.zeroValue435
 t53:=Tryz.underlying442
 a53:=Tryz.isAgg442
 z53:=Tryz.sizeOf442
 v53:=Tryz.zeroValue442
 t57:=Tryz.underlying446
 a57:=Tryz.isAgg446
 z57:=Tryz.sizeOf446
 v57:=Tryz.zeroValue446
 t63:=Tryz.underlying450
 a63:=Tryz.isAgg450
 z63:=Tryz.sizeOf450
 v63:=Tryz.zeroValue450
 t64:=Tryz.underlying451
 a64:=Tryz.isAgg451
 z64:=Tryz.sizeOf451
 v64:=Tryz.zeroValue451 }
end
end Go.Proofs.YtgjfgekaclobaaaGreat
