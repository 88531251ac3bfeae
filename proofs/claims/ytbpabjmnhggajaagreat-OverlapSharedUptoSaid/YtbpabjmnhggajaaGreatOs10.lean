import Derived.Laws.BytesString
import Derived.Test.YtbpabjmnhggajaaGreatOs9
namespace Go.Proofs.YtbpabjmnhggajaaGreat
set_option linter.unusedVariables false
set_option linter.unusedSimpArgs false
open Go.RowKit
theorem vJ {P:Program}{F:Fence}(h:ir F) (m:Machine):m.fenced P F:=by
 intro g _;refine⟨fun h'=>?_,Or.inl (h.1 _),fun _ _=>h.1 _,fun _ h'=>?_⟩
 ·rw[h.2.2] at h';cases h'
 ·rw[h.2.1] at h';cases h'
theorem CallsIn.RO {P:Program}{F:Fence}{m:Nat}{f:FuncId}{args:Array Value}{w:World}{R:Ending->World->Prop}(hF:ir F) (h:Calls P f args w R):CallsIn F m P f args w R:=by
 obtain⟨_,h2⟩:=callsIn_wide (n:=0).2 h;refine⟨hF.1 f,fun cs _=>?_⟩;obtain⟨e,w',fr,r,s,x⟩:=h2 cs (room_wide _);refine⟨e,w',fr,r,?_,x⟩;cases e with
 |returned v=>exact StepsIn.mono (fun m _=>vJ hF m) s
 |panicked chain=>exact StepsIn.mono (fun m _=>vJ hF m) s
 |outgrown=>exact s
section
variable {P:Program}{w0:World}{S:ae}{r:AV}
theorem St.below {A:Nat->Prop}{g:Gh}{w w':World}(hS:St w0 A g S w) (hb:Below w.heap.size w w') :
  Ext A g w ⟨g.ob,g.cp,g.al,fun b q=>g.fz b q\/(w.heap.size<=b/\b < w'.heap.size),g.fo⟩ w'/\St w0 A ⟨g.ob,g.cp,g.al,fun b q=>g.fz b q\/(w.heap.size<=b/\b < w'.heap.size),g.fo⟩ S w':=by
 have hL:Later g w ⟨g.ob,g.cp,g.al,fun b q=>g.fz b q\/(w.heap.size<=b/\b < w'.heap.size),g.fo⟩ w':=⟨fun _ h=>h,fun _ _=>rfl,fun _ _=>rfl,fun _ _ h=>.inl h,fun b q hf=>World.cell?_of_block (hb.block b (hS.cK b q hf))⟩;have hE:Ext A g w ⟨g.ob,g.cp,g.al,fun b q=>g.fz b q\/(w.heap.size<=b/\b < w'.heap.size),g.fo⟩ w':={ hL with size:=hb.size,aU:=fun b aA _=>hb.block b aA,h_:=fun b q h=>h.elim .inl fun e=>.inr (hS.up b e.1) };refine⟨hE,hS.next hE hb.os hb.tape hb.output hS.al (fun k p hk ha=>?_) hS.inj (fun b q hf=>?_) rfl (fun _ _ h1 h2=>⟨h1,h2⟩) (fun k o h1 h2=>.inr ⟨k,o,h2,h1,rfl,.inl rfl⟩)⟩
 ·obtain⟨h2,h3,h4⟩:=hS.bT k p hk ha;exact⟨h2,Nat.lt_of_lt_of_le h3 hb.size,h4.later hL (hb.block _ h3) (fun q hq=>hq.elim id fun e=>absurd e.1 (by grind)) fun J hJ=>⟨rfl,hb.size,fun c hc=>hb.block c (hS.iE k J (by grind) ha c hc).2,fun c q hc hq=>hq.elim id fun h=>absurd h.1 (by have:=(hS.iE k J (by grind) ha c hc).2;omega)⟩⟩
 ·rcases hf with hf|hf
  ·exact Nat.lt_of_lt_of_le (hS.cK b q hf) hb.size
  ·grind
theorem St.start (w:World):St w (fun b=>w.heap.size<=b) ⟨fun _=>0,fun _=>0,fun _=>False,fun b _=>b < w.heap.size,fun _ _=>False⟩ ae.none_ w :=
 have e0:∀ k o,¬ ae.none_.get k=some o:=fun k o h=>by simp[ae.none_] at h
 ⟨Below.refl _ _,fun _ h=>h,fun _ h=>h,fun k hk=>hk.elim,fun k o hk=>absurd hk (e0 k o),fun j k o p hj=>absurd hj (e0 j o),fun b q h=>h,fun b q h=>h,fun k J hk=>absurd hk (e0 k _),fun k J j o hk=>absurd hk (e0 k _),fun j k J J' hj=>absurd hj (e0 j _)⟩
theorem ah.calls {f:FuncId}{args:List AV}{x:Value}{args':Array Value}{w:World}(h:ah P w f args (.v x)) (hA:jc ⟨fun _=>0,fun _=>0,fun _=>False,fun b _=>b < w.heap.size,fun _ _=>False⟩ w args args') :
  Calls P f args' w fun e w'=>e=.returned x/\Below w.heap.size w w':=by
 obtain⟨_,S',_,h⟩:=h;refine (callsIn_wide (n:=0).1 (h Fence.wide 0 _ _ args' w ir.wide (St.start w) hA)).mono ?_;rintro e w' ⟨v,g',rfl,hr,hS,hE⟩;obtain rfl:=bI hr;exact⟨rfl,hS.base⟩
end
section
variable {P:Program}{w0:World}{n:Nat}{o:Op}{α:AA}{S S':ae}{r:AV}{q:ee}{dr:Bool}
theorem Wt {op:BinOp}{isB:BK}{t:TypeId}{a b:AV}{e:Bool}(hB:isB=.b->P.underlying t=some .bool) (h:MB op isB a b=some e):∃ x y,a=.v x/\b=.v y/\rG P op t x y=some (.bool e)/\(∀ k i j,x=.int k i->y=.int k j->arith op i j=none)/\(∀ s s',x=.string s->y=.string s'->op ≠ .add):=by
 unfold MB at h;split at h
 ·rename_i k a k' b;split at h
  ·rename_i hk;refine⟨_,_,rfl,rfl,?_,?_,fun s s' h=>by grind⟩
   ·grind[rG]
   ·intro k i j h1 h2;cases op<;>simp only[reduceCtorEq] at h<;>rfl
  ·grind
 ·rename_i a b;refine⟨_,_,rfl,rfl,?_,(fun k i j h=>by grind),fun s s' h1 h2 he=>?_⟩
  ·grind[rG]
  ·grind
 ·rename_i a b;refine⟨_,_,rfl,rfl,?_,(fun k i j h=>by grind),fun s s' h=>by grind⟩;split at h
  ·grind[rG]
  ·grind[rG]
  ·grind
 ·grind
theorem oU {op:BinOp}{isB:BK}{x y:QO}(h:res P.toTables o=some (.bin op isB x y)):∃ t u v s,o=.binOp op t u v s/\x=qo u/\y=qo v/\(isB=.b->P.underlying t=some .bool):=by
 cases o with
 |binOp UN t u v s =>
  simp only[res,bE] at h;split at h
  ·rename_i hu;injection h with h;injection h with h1 h2 h3 h4;subst h1 h2 h3 h4;exact⟨_,_,_,_,rfl,rfl,rfl,fun _=>hu⟩
  ·injection h with h;injection h with h1 h2 h3 h4;subst h1 h2 h3 h4;exact⟨_,_,_,_,rfl,rfl,rfl,fun h=>by grind⟩
  ·injection h with h;injection h with h1 h2 h3 h4;subst h1 h2 h3 h4;exact⟨_,_,_,_,rfl,rfl,rfl,fun h=>by grind⟩
  ·injection h with h;injection h with h1 h2 h3 h4;subst h1 h2 h3 h4;exact⟨_,_,_,_,rfl,rfl,rfl,fun h=>by grind⟩
  ·grind
  ·injection h with h;injection h with h1 h2 h3 h4;subst h1 h2 h3 h4;exact⟨_,_,_,_,rfl,rfl,rfl,fun h=>by grind⟩
 |_ =>
  simp only[res] at h
  repeat' split at h
  all_goals cases h
theorem af.bit {op:BinOp}{isB:BK}{x y:QO}{e:Bool}(h:MB op isB (x.ev α.tm) (y.ev α.tm)=some e):af P w0 dr (.bin op isB x y) α S (.v (.bool e)) S:=by
 refine af.of rfl fun o hr=>?_;obtain⟨t,u,v,s,rfl,rfl,rfl,hB⟩:=oU hr;rw[aI,aI] at h;obtain⟨x,y,h1,h2,h3,h4,h5⟩:=Wt hB h;simp only[a8,h1,h2];split
 ·rename_i k a k' b e1 e2;injection e1 with e1;injection e2 with e2;subst e1 e2;split
  ·rename_i c hc;split
   ·grind
   ·rename_i hk;simp only[rG] at h3;rw[hk] at h3;simp at h3
  ·rw[h3];exact s8.mk ⟨rfl,rfl⟩
 ·rename_i a b e1 e2;injection e1 with e1;injection e2 with e2;subst e1 e2;have h6:=h5 _ _ rfl rfl;split
  ·grind
  ·rw[h3];exact s8.mk ⟨rfl,rfl⟩
 ·rename_i a b ha hb e1 e2;injection e1 with e1;injection e2 with e2;subst e1 e2;rw[h3];exact s8.mk ⟨rfl,rfl⟩
 ·grind
theorem af.X5 {op:BinOp}{isB:BK}{x y:QO}{k:IntKind}{a b c:Int}(h1:x.ev α.tm=.v (.int k a)) (h2:y.ev α.tm=.v (.int k b)) (h:arith op a b=some c):af P w0 dr (.bin op isB x y) α S (.v (.int k (k.wrap c))) S:=by
 refine af.of rfl fun o hr=>?_;obtain⟨t,u,v,s,rfl,rfl,rfl,hB⟩:=oU hr;rw[aI] at h1 h2;simp only[a8,h1,h2,h,decide_true];exact⟨_,rfl,rfl,rfl⟩
theorem af.cat {isB:BK}{x y:QO}{a b:ByteArray}(h1:x.ev α.tm=.v (.string a)) (h2:y.ev α.tm=.v (.string b)) (h:a.size+b.size<=9223372036854775807):af P w0 dr (.bin .add isB x y) α S (.v (.string (a++b))) S:=by
 refine af.of rfl fun o hr=>?_;obtain⟨t,u,v,s,rfl,rfl,rfl,hB⟩:=oU hr;rw[aI] at h1 h2;simp only[a8,h1,h2];exact⟨h,rfl,rfl⟩
theorem af.neg {x:QO}{k:IntKind}{a:Int}(h1:x.ev α.tm=.v (.int k a)):af P w0 dr (.neg x) α S (.v (.int k (k.wrap (0 - a)))) S:=by
 refine af.of rfl fun o hr=>?_;cases o<;>simp only[res] at hr<;>(repeat' split at hr)<;>(try cases hr)
 rw[aI] at h1;simp only[a8,h1];exact⟨_,rfl,rfl,rfl⟩
theorem af.conv {x:QO}{k k':IntKind}{a:Int}(h1:x.ev α.tm=.v (.int k' a)):af P w0 dr (.conv k x) α S (.v (.int k (k.wrap a))) S:=by
 refine af.of rfl fun o hr=>?_;cases o<;>simp only[res,bE] at hr<;>(repeat' split at hr)<;>(try cases hr)
 rename_i e1 e2;rw[aI] at h1;simp only[a8,h1,e1,e2];exact⟨_,rfl,rfl,rfl⟩
theorem af.sD {x:QO}{a:ByteArray}(h1:x.ev α.tm=.v (.string a)):af P w0 dr (.sD x) α S (.v (.string a)) S:=by
 refine af.of rfl fun o hr=>?_;cases o<;>simp only[res,bE] at hr<;>(repeat' split at hr)<;>(try cases hr)
 rename_i e1 e2;rw[aI] at h1;simp only[a8,h1,e1,e2];exact⟨rfl,rfl⟩
def dW (f:AV) (args:List AV):Option (FuncId × List AV):=match f with
 |.v (.func (.func g) a b)=>match a.toList,b.toList with
  |[],[]=>some (g,args)
  |_,_=>none
 |.fn (.func g) first cap=>some (g,first++args++cap)
 |_=>none
theorem kF {f:QO}{args:List QO}(h:res P.toTables o=some (.call f args)):∃ c u,o=.call c/\c.callee=.value u/\f=qo u/\args=c.args.toList.map qo:=by
 cases o with
 |call c =>
  simp only[res] at h;split at h
  ·grind
  ·repeat' split at h
   all_goals cases h
  ·grind
 |_ =>
  simp only[res] at h
  repeat' split at h
  all_goals cases h
theorem iF {l:List Operand}:(l.map qo).map (·.ev α.tm)=l.map α.ev:=by
 rw[List.map_map];exact List.map_congr_left fun x _=>aI x
theorem af.call {f:QO}{aZ9:List QO}{g:FuncId}{args:List AV}(h:dW (f.ev α.tm) (aZ9.map (·.ev α.tm))=some (g,args)) (hc:aC P w0 g args S r S') (hd:dr=true->S'=S):af P w0 dr (.call f aZ9) α S r S':=by
 cases dr with
 |false =>
  intro n o hr;refine ez.Fs ?_;obtain⟨c,u,ho,hu,rfl,rfl⟩:=kF hr;rw[iF,aI] at h;unfold dW at h;rw[ho];simp only[a8,hu];split at h
  ·rename_i g' a b he;split at h
   ·rename_i e1 e2;injection h with h;injection h with h1 h2;subst h1 h2;simp only[Ay,he,e1,e2];exact⟨r,S',hc,rfl,rfl⟩
   ·grind
  ·rename_i g' a b he;injection h with h;injection h with h1 h2;subst h1 h2;simp only[Ay,he];exact⟨r,S',hc,rfl,rfl⟩
  ·grind
 |true =>
  intro n o hr;refine K1.ofD ?_;obtain⟨c,u,ho,hu,rfl,rfl⟩:=kF hr;rw[iF,aI] at h;unfold dW at h;obtain rfl:=hd rfl;rw[ho];simp only[fe,hu];split at h
  ·rename_i g' a b he;split at h
   ·rename_i e1 e2;injection h with h;injection h with h1 h2;subst h1 h2;simp only[CJ,he,e1,e2];exact⟨r,hc,rfl,rfl⟩
   ·grind
  ·rename_i g' a b he;injection h with h;injection h with h1 h2;subst h1 h2;simp only[CJ,he];exact⟨r,hc,rfl,rfl⟩
  ·grind
def RP (str:Bool):AV->Option Nat
 |.sl _ rows=>match str with|false=>some rows.length|true=>none
 |.ob _ _ _ len _=>match str with|false=>some len|true=>none
 |.v (.string s)=>match str with|true=>some s.size|false=>none
 |_=>none
theorem af.len {str:Bool}{x:QO}{m:Nat}(h:RP str (x.ev α.tm)=some m):af P w0 dr (.len str x) α S (.v (.int .i64 m)) S:=by
 refine af.of rfl fun o hr=>?_;cases o<;>simp only[res,bE] at hr<;>(repeat' split at hr)<;>(try cases hr)
 all_goals
  rw[aI] at h;simp only[a8,mR,List.map_cons,List.map_nil, *];refine bc.mk (a:=m) ?_ ⟨rfl,rfl⟩;unfold lenOf;unfold RP at h;split at h<;>(try split at h)<;>(try cases h)<;>first|contradiction|simp only[isStr,nR, *]
theorem af.ind {m:Nat}{x i:QO}{ex:Bool}{rows:List (List AV)}{row:List AV}{k:IntKind}{j:Int}(h1:x.ev α.tm=.sl ex rows) (h2:i.ev α.tm=.v (.int k j)) (h3:idx rows j=some row) (h4:∀ r ∈ rows,r.length=m):af P w0 dr (.ox m x i) α S (.ip row) S:=by
 refine af.of rfl fun o hr=>?_;cases o<;>simp only[res,bE,dS] at hr<;>(repeat' split at hr)<;>(try cases hr)
 rw[aI] at h1 h2;simp only[a8, *];exact bc.mk rfl ⟨h4,rfl,rfl⟩
theorem af.X6 {m:Nat}{x i:QO}{k off len:Nat}{cx:Option Nat}{ik:IntKind}{j:Int}(h1:x.ev α.tm=.ob k m off len cx) (h2:i.ev α.tm=.v (.int ik j)) (h3:0<=j) (h4:j < len):af P w0 dr (.ox m x i) α S (.pt k m (off+j.toNat) 0) S:=by
 refine af.of rfl fun o hr=>?_;cases o<;>simp only[res,bE,dS] at hr<;>(repeat' split at hr)<;>(try cases hr)
 rw[aI] at h1 h2;rename_i e1 _ e2;simp only[a8,h1,h2,e1,e2];exact⟨trivial,h3,h4,rfl,rfl⟩
theorem af.RQ {x i:QO}{s:ByteArray}{ik:IntKind}{j:Int}{b:UInt8}(h1:x.ev α.tm=.v (.string s)) (h2:i.ev α.tm=.v (.int ik j)) (h3:idx s.data.toList j=some b):af P w0 dr (.yv x i) α S (.v (.int .u8 b.toNat)) S:=by
 refine af.of rfl fun o hr=>?_;cases o<;>simp only[res,bE,dS] at hr<;>(repeat' split at hr)<;>(try cases hr)
 rw[aI] at h1 h2;simp only[a8, *];exact bc.mk rfl ⟨rfl,rfl⟩
theorem af.min {x y:QO}{k:IntKind}{a b:Int}(h1:x.ev α.tm=.v (.int k a)) (h2:y.ev α.tm=.v (.int k b)):af P w0 dr (.min x y) α S (.v (.int k (min a b))) S:=by
 refine af.of rfl fun o hr=>?_;cases o<;>simp only[res,bE] at hr<;>(repeat' split at hr)<;>(try cases hr)
 rw[aI] at h1 h2;simp only[a8,mR,List.map_cons,List.map_nil,decide_true, *];exact⟨rfl,rfl⟩
theorem af.max {x y:QO}{k:IntKind}{a b:Int}(h1:x.ev α.tm=.v (.int k a)) (h2:y.ev α.tm=.v (.int k b)):af P w0 dr (.max x y) α S (.v (.int k (max a b))) S:=by
 refine af.of rfl fun o hr=>?_;cases o<;>simp only[res,bE] at hr<;>(repeat' split at hr)<;>(try cases hr)
 rw[aI] at h1 h2;simp only[a8,mR,List.map_cons,List.map_nil,decide_true, *];exact⟨rfl,rfl⟩
theorem af.quo {isB:BK}{x y:QO}{k:IntKind}{a b:Int}(h1:x.ev α.tm=.v (.int k a)) (h2:y.ev α.tm=.v (.int k b)) (hb:b ≠ 0):af P w0 false (.bin .quo isB x y) α S (.v (.int k (k.wrap (a.tdiv b)))) S:=by
 refine af.run fun n o hr=>?_;obtain⟨t,u,v,s,ho,rfl,rfl,hB⟩:=oU hr;rw[aI] at h1 h2;refine aQ.quiet fun A g q w hS hA=>?_;have e1:=hA.ev u;have e2:=hA.ev v;rw[h1] at e1;rw[h2] at e2;refine⟨_,?_,.v⟩;simp[execOp,ho,bI e1,bI e2,eqGuard,binOp,Op.intDiv,hb]
theorem af.rem {isB:BK}{x y:QO}{k:IntKind}{a b:Int}(h1:x.ev α.tm=.v (.int k a)) (h2:y.ev α.tm=.v (.int k b)) (hb:b ≠ 0):af P w0 false (.bin .rem isB x y) α S (.v (.int k (a.tmod b))) S:=by
 refine af.run fun n o hr=>?_;obtain⟨t,u,v,s,ho,rfl,rfl,hB⟩:=oU hr;rw[aI] at h1 h2;refine aQ.quiet fun A g q w hS hA=>?_;have e1:=hA.ev u;have e2:=hA.ev v;rw[h1] at e1;rw[h2] at e2;refine⟨_,?_,.v⟩;simp[execOp,ho,bI e1,bI e2,eqGuard,binOp,Op.intDiv,hb]
end
section
variable {P:Program}{w0:World}{rd:Bool}{n:Nat}{α au:AA}{S S':ae}{Q:Exit->AA->ae->Prop}{ex:Exit}{r:AV}{i:QI}{l:List QI}{K:List ff}{dr:Bool}{cf s9:QF}
theorem ad.op (hw:bm α.tm i.g=some true) (h:af P w0 dr i.q α S r S') (k:ad P w0 rd n Q (.aN dr l K) (bC i.d α r) S'):ad P w0 rd n Q (.aN dr (i::l) K) α S:=eX.op hw h k
theorem ad.bif {e:Bool}(hw:bm α.tm i.g=some true) (h:af P w0 dr i.q α S (.v (.bool e)) S') (k1:e=true->ad P w0 rd n Q (.aN dr l K) (bC i.d α (.v (.bool true))) S') (k2:e=false->ad P w0 rd n Q (.aN dr l K) (bC i.d α (.v (.bool false))) S') :
  ad P w0 rd n Q (.aN dr (i::l) K) α S:=by
 refine eX.op hw h ?_;cases e with
 |true=>exact k1 rfl
 |false=>exact k2 rfl
theorem ad.int {ik:IntKind}{e:Int}(hw:bm α.tm i.g=some true) (h:af P w0 dr i.q α S (.v (.int ik e)) S') (k:∀ d,d=e->ad P w0 rd n Q (.aN dr l K) (bC i.d α (.v (.int ik d))) S'):ad P w0 rd n Q (.aN dr (i::l) K) α S:=eX.op hw h (k e rfl)
theorem ad.str {e:ByteArray}(hw:bm α.tm i.g=some true) (h:af P w0 dr i.q α S (.v (.string e)) S') (k:∀ d,d=e->ad P w0 rd n Q (.aN dr l K) (bC i.d α (.v (.string d))) S'):ad P w0 rd n Q (.aN dr (i::l) K) α S:=eX.op hw h (k e rfl)
theorem MC {c:Int}(h1:-9223372036854775808<=c) (h2:c<=9223372036854775807):IntKind.i64.wrap c=c:=wrap64 h1 h2
theorem af.wJ {op:BinOp}{isB:BK}{x y:QO}{a b c:Int}(h1:x.ev α.tm=.v (.int .i64 a)) (h2:y.ev α.tm=.v (.int .i64 b)) (h:arith op a b=some c) (hl:-9223372036854775808<=c) (hh:c<=9223372036854775807):af P w0 dr (.bin op isB x y) α S (.v (.int .i64 c)) S:=by
 have:=af.X5 (P:=P) (w0:=w0) (S:=S) (dr:=dr) (isB:=isB) h1 h2 h;rw[MC hl hh] at this;exact this
theorem af.X7 {x:QO}{k':IntKind}{a:Int}(h1:x.ev α.tm=.v (.int k' a)) (hl:-9223372036854775808<=a) (hh:a<=9223372036854775807):af P w0 dr (.conv .i64 x) α S (.v (.int .i64 a)) S:=by
 have:=af.conv (P:=P) (w0:=w0) (S:=S) (dr:=dr) (k:=.i64) h1;rw[MC hl hh] at this;exact this
theorem af.aw {f:QO}{aZ9:List QO}{g:FuncId}{args:List AV}(h:dW (f.ev α.tm) (aZ9.map (·.ev α.tm))=some (g,args)) (hc:ah P w0 g args r) (hp:dK args):af P w0 dr (.call f aZ9) α S r S:=af.call h (hc.BX hp S) fun _=>rfl
theorem af.Az {f:QO}{aZ9:List QO}{g:FuncId}{args eF:List AV}(h:dW (f.ev α.tm) (aZ9.map (·.ev α.tm))=some (g,eF)) (hc:ah P w0 g args r) (hp:dK args) (hs:s_ r) (hf:eY S eF args):af P w0 dr (.call f aZ9) α S r S:=af.call h (hc.Hv hp hs hf) fun _=>rfl
def lpQ (P:Program) (w0:World) (rd:Bool) (n:Nat) (I:Nat->AA->ae->Prop) (Q:Exit->AA->ae->Prop) (K:List ff) (k:Nat):Exit->AA->ae->Prop :=
 fun ex α S=>match ex with|.normal=>∃ j,j < k/\I j α S|e=>ad P w0 rd n Q (.out e K) α S
def LpI {σ:Type}(st:σ->List (Nat × AV)) (ds:List DE) (so:σ->ae) (I:σ->Prop) (μ:σ->Nat) (k:Nat) (α:AA) (S:ae):Prop:=∃ s,I s/\μ s=k/\α.has (st s)/\α.df=ds/\S=so s
def kW (f:Nat->AV):List (Nat × AV)->Nat->AV
 |[]=>f
 |p::l=>a7 (kW f l) p.1 p.2
theorem ad.next {σ:Type}{st:σ->List (Nat × AV)}{ds:List DE}{so:σ->ae}{I:σ->Prop}{μ:σ->Nat}{k:Nat}(s:σ) (hI:I s) (hk:μ s < k) (h:α.has (st s)) (hd:α.df=ds) (hS:S=so s) :
  ad P w0 rd n (lpQ P w0 rd n (LpI st ds so I μ) Q K k) (.out .normal []) α S:=⟨μ s,hk,s,hI,rfl,h,hd,hS⟩
inductive QR where
 |t (n:Nat)
 |cell (k:LK) (n:Nat)
def vm (T:Tables):List ResultVar->Option (List QR)
 |[]=>some []
 |.tmp n::l=>match vm T l with
  |some l'=>some (.t n::l')
  |none=>none
 |.cell n t::l=>match Hw T t,vm T l with
  |some k,some l'=>some (.cell k n::l')
  |_,_=>none
def mJ (f:Nat->AV) (S:ae):List QR->Option (List AV)
 |[]=>some []
 |.t n::l=>match mJ f S l with
  |some l'=>some (f n::l')
  |none=>none
 |.cell k n::l=>match mc k S (f n),mJ f S l with
  |some a,some l'=>some (a::l')
  |_,_=>none
def yw (qs:List QR) (ex:Exit) (α:AA) (S:ae):Option (AV × ae):=match CK ex,yx S α.df with
 |true,true=>match mJ α.tm (jS S α.df) qs with
  |some [a]=>some (a,jS S α.df)
  |some l=>some (.aG l,jS S α.df)
  |none=>none
 |_,_=>none
def nS (qs:List QR) (R:AV->ae->Prop) (ex:Exit) (α:AA) (S:ae):Prop:=∃ r S',yw qs ex α S=some (r,S')/\R r S'
theorem Hx {l:List ResultVar}:∀ {qs:List QR}{m:List AV},vm P.toTables l=some qs->mJ α.tm S qs=some m->yy P α S l=some m:=by
 induction l with
 |nil=>intro qs m h k;obtain rfl:=oJ_ h;exact k
 |cons v l ih =>
  intro qs m h k;cases v with
  |tmp n =>
   simp only[vm] at h;split at h
   ·grind[mJ,yy,MD]
   ·grind
  |cell n t =>
   simp only[vm] at h;split at h
   ·grind[mJ,Ft,yy,MD]
   ·grind
theorem yz {rs:Array ResultVar}{qs:List QR}{R:AV->ae->Prop}(hr:vm P.toTables rs.toList=some qs) (h:nS qs R ex α S):Hz P rs R ex α S:=by
 obtain⟨r,S',h,k⟩:=h;unfold yw at h;split at h
 ·rename_i he hd;have key:∀ m,mJ α.tm (jS S α.df) qs=some m->yy P α (jS S α.df) rs.toList=some m:=fun m hm=>Hx hr hm;unfold Hz;rw[hd];have fin:yA P rs α (jS S α.df)=some r/\jS S α.df=S':=by grind[yA]
  rw[fin.1,fin.2];cases ex<;>first|exact k|cases he
 ·grind
theorem ad.fin {qs:List QR}{R:AV->ae->Prop}(h:yw qs ex α S=some (r,S')) (k:R r S'):ad P w0 rd n (nS qs R) (.out ex []) α S:=⟨r,S',h,k⟩
structure mK (P:Program) (f:FuncId) (q:QC × List QR) (n:Nat):Prop where
 out:∃ fn c,P.funcs[f]?=some fn/\fn.body=some c/\fn.ntmps=n/\vm P.toTables fn.results.toList=some q.2/\comp P.toTables n c=some q.1/\cU P c=true/\∀ (xs:Array Value) (w:World),(callFunc f xs).run P w=.ok (.enter f xs) w
def ME (T:Tables) (fn:Func):Option (QC × List QR):=match fn.body with
 |some c=>match comp T fn.ntmps c,vm T fn.results.toList with
  |some q,some qs=>some (q,qs)
  |_,_=>none
 |none=>none
def AD (P:Program) (fn:Func):Bool:=match fn.body with|some c=>cU P c|none=>false
theorem mK.of {f:FuncId}{q:QC × List QR}{fn:Func}{T:Tables}(hf:P.funcs[f]?=some fn) (hq:ME T fn=some q) (hT:P.toTables=T) (hn:fn.ntmps=n) (hd:AD P fn=true)
  (hc:∀ (xs:Array Value) (w:World),(callFunc f xs).run P w=.ok (.enter f xs) w):mK P f q n:=by
 subst hT;unfold ME at hq;unfold AD at hd;cases hb:fn.body with
 |none=>rw[hb] at hq;cases hq
 |some c =>
  rw[hb] at hq hd;simp only at hq;split at hq
  ·rename_i q1 qs h1 h2;obtain rfl:=oJ_ hq;exact⟨⟨fn,c,hf,hb,hn,h2,by grind,hd,hc⟩⟩
  ·grind
theorem ad.mono {Q':Exit->AA->ae->Prop}(hm:∀ ex α S,Q ex α S->Q' ex α S) {c:QC}(h:ad P w0 rd n Q (.run c []) α S):ad P w0 rd n Q' (.run c []) α S:=by
 intro c0 hc hd;obtain⟨ex,au,S',h1,h2⟩:=h c0 hc hd;exact⟨ex,au,S',h1,hm _ _ _ h2⟩
theorem mK.Ep {f:FuncId}{q:QC × List QR}{args:List AV}(F:mK P f q n) (bj:args.length<=n) (hp:Pure r) (h:ad P w0 false n (nS q.2 fun r' S=>aR S r' r) (.run q.1 []) ⟨kG args,[]⟩ ae.none_):ah P w0 f args r:=by
 obtain⟨fn,c,hf,hb,hn,hr,hq,hd,hc⟩:=F.out;exact ah.of_wp hf hb hc hn bj hp (ad.mono (fun ex α S=>yz hr) h c hq hd)
theorem mK.CL {f:FuncId}{q:QC × List QR}{args:List AV}{R:AV->ae->Prop}(F:mK P f q n) (bj:args.length<=n) (h:ad P w0 false n (nS q.2 R) (.run q.1 []) ⟨kG args,[]⟩ S):∃ r S',aC P w0 f args S r S'/\R r S':=by
 obtain⟨fn,c,hf,hb,hn,hr,hq,hd,hc⟩:=F.out;exact aC.of_wp hf hb hc hn bj (ad.mono (fun ex α S=>yz hr) h c hq hd)
theorem aR.of_eq {S:ae}{a b:AV}(h:a=b):aR S a b:=by subst h;exact aR.refl _
end
structure Hd where
 h:{α β:Type}->(α->β)->α->β
 eq:∀ {α β:Type}(f:α->β) (a:α),h f a=f a
def Hd.plain:Hd:=⟨fun f a=>f a,fun _ _=>rfl⟩
def aX (ρ:Hd) {T:Type}(f:T->List AV) (ex:Bool) (l:List T):AV:=.sl ex (ρ.h (List.map f) l)
section
variable {ρ:Hd}{T:Type}{f:T->List AV}{l:List T}{ex:Bool}
theorem bQ:aX ρ f ex l=.sl ex (l.map f):=by rw[aX,ρ.eq]
theorem aE:(ρ.h (List.map f) l).length=l.length:=by rw[ρ.eq,List.length_map]
theorem aY {i:Int}{k:Nat}{x:T}(hi:i=(k:Int)) (h:l[k]?=some x):idx (ρ.h (List.map f) l) i=some (f x):=by
 rw[ρ.eq];exact Wu hi h
theorem aZ {m:Nat}(h:∀ x,(f x).length=m):∀ r ∈ ρ.h (List.map f) l,r.length=m:=by
 rw[ρ.eq];intro r hr;obtain⟨x,_,rfl⟩:=List.mem_map.1 hr;exact h x
theorem eR (h:∀ x ∈ l,∀ a ∈ f x,Pure a):Pure (aX ρ f ex l):=by
 rw[bQ];refine .sl fun row hr a ha=>?_;obtain⟨x,hx,rfl⟩:=List.mem_map.1 hr;exact h x hx a ha
end
inductive dz (B:Nat):AV->Prop where
 |u:dz B .u
 |v {x:Value}:dz B (.v x)
 |agg {l:List AV}(h:∀ a ∈ l,dz B a):dz B (.agg l)
 |aG {l:List AV}(h:∀ a ∈ l,dz B a):dz B (.aG l)
 |sl {ex:Bool}{rows:List (List AV)}(h:∀ row ∈ rows,∀ a ∈ row,dz B a):dz B (.sl ex rows)
 |ip {cs:List AV}(h:∀ a ∈ cs,dz B a):dz B (.ip cs)
 |ob {k sz off len:Nat}{cx:Option Nat}(h:k < B):dz B (.ob k sz off len cx)
 |pt {k sz i j:Nat}(h:k < B):dz B (.pt k sz i j)
 |mp {k:Nat}(h:k < B):dz B (.mp k)
 |yl {k:Nat}(h:k < B):dz B (.yl k)
 |gr {k sz len:Nat}(h:k < B):dz B (.gr k sz len)
 |fn {f:Fn}{l m:List AV}(h3:∀ a ∈ l,dz B a) (h4:∀ a ∈ m,dz B a):dz B (.fn f l m)
theorem Pure.aV {B:Nat}{a:AV}(h:Pure a):dz B a:=by
 induction h with
 |v=>exact .v
 |agg _ ih=>exact .agg ih
 |aG _ ih=>exact .aG ih
 |sl _ ih=>exact .sl ih
 |ip _ ih=>exact .ip ih
 |fn _ _ OR HA=>exact .fn OR HA
theorem aF.aV {g g':Gh}{w:World}{B:Nat}(aK:∀ k,k < B->g.al k->g'.al k) (jm:∀ k,k < B->g'.ob k=g.ob k) (cw:∀ k,k < B->g'.cp k=g.cp k) (hf:∀ b o,g.fz b o->g'.fz b o) {a:AV}{x:Value}(h:aF g w a x) (hp:dz B a) :
  aF g' w a x:=by
 induction h with
 |u=>exact .u
 |v=>exact .v
 |agg hs h ih=>cases hp with|agg hp=>exact .agg hs fun i a x h1 h2=>ih i a x h1 h2 (hp _ (List.mem_of_getElem? h1))
 |aG hs h ih=>cases hp with|aG hp=>exact .aG hs fun i a x h1 h2=>ih i a x h1 h2 (hp _ (List.mem_of_getElem? h1))
 |nil hc=>exact .nil hc
 |sl hn nH hle hl h hr ih =>
  cases hp with
  |sl hp =>
   exact .sl hn nH hle hl (fun i j row a h1 h2=>⟨hf _ _ (h i j row a h1 h2).1,(h i j row a h1 h2).2⟩)
    (fun i j row a h1 h2=>ih i j row a h1 h2 (hp _ (List.mem_of_getElem? h1) _ (List.mem_of_getElem? h2)))
 |ip h hr ih =>
  cases hp with
  |ip hp=>exact .ip (fun j a h1=>⟨hf _ _ (h j a h1).1,(h j a h1).2⟩) (fun j a h1=>ih j a h1 (hp _ (List.mem_of_getElem? h1)))
 |ob hk hc h1 hx hle=>cases hp with|ob hp=>rw[<-jm _ hp];exact .ob (aK _ hp hk) hc (by grind) (by grind) hle
 |pt hk=>cases hp with|pt hp=>rw[<-jm _ hp];exact .pt (aK _ hp hk)
 |mp hk=>cases hp with|mp hp=>rw[<-jm _ hp];exact .mp (aK _ hp hk)
 |yl hk=>cases hp with|yl hp=>rw[<-jm _ hp];exact .yl (aK _ hp hk)
 |jw=>exact .jw
 |gr hk hx hle=>cases hp with|gr hp=>rw[<-jm _ hp];exact .gr (aK _ hp hk) (by grind) hle
 |fn h1 h2 h3 h4 OO OP =>
  cases hp with
  |fn hp hq=>exact .fn h1 h2 (fun i a x h1 h2=>OO i a x h1 h2 (hp _ (List.mem_of_getElem? h1))) (fun i a x h1 h2=>OP i a x h1 h2 (hq _ (List.mem_of_getElem? h1)))
def fR (B:Nat):Ob->Prop
 |.arr _ rows _ _=>∀ row ∈ rows,∀ a ∈ row,dz B a
 |.mp es=>∀ e ∈ es,dz B e.2
 |.mb es=>∀ e ∈ es,dz B e.2
 |.lp _ _ tm _ _ _=>∀ t,dz B (tm t)
 |.df=>True
 |.si _ _=>True
 |.fo _=>True
 |.un=>True
def dE (B:Nat) (f:Nat->Nat) (j:Nat):Nat:=match Nat.blt j B with|true=>j|false=>f j
theorem lh {B j:Nat}{f:Nat->Nat}(h:j < B):dE B f j=j:=by
 have:Nat.blt j B=true:=Nat.ble_eq_true_of_le h;simp only[dE,this]
def Gh.fX (g:Gh) (B N:Nat) (f:Nat->Nat):Gh:=⟨fun j=>g.ob (dE B f j),fun j=>g.cp (dE B f j),fun j=>j < N/\g.al (dE B f j),g.fz,g.fo⟩
section
variable {w0:World}{A:Nat->Prop}{g gs:Gh}{S S':ae}{w ws:World}{B:Nat}{f:Nat->Nat}
theorem aF.fX {a:AV}{x:Value}{N:Nat}(hN:B<=N) (h:aF g w a x) (hp:dz B a):aF (g.fX B N f) w a x:=by
 refine aF.aV (g:=g) (g':=g.fX B N f) (B:=B) (fun k hk ha=>(⟨by omega,by grind[lh]⟩:k < N/\g.al (dE B f k))) (fun k hk=>?_) (fun k hk=>?_) (fun b o h=>h) h hp
 ·show g.ob (dE B f k)=g.ob k;rw[lh hk]
 ·show g.cp (dE B f k)=g.cp k;rw[lh hk]
theorem dJ.fX {b cp N:Nat}{o:Ob}(hN:B<=N) (h:dJ g w b cp o) (hk:fR B o):dJ (g.fX B N f) w b cp o:=by
 cases o with
 |arr sz rows fz ex =>
  obtain⟨cs,ty,h1,h2,h3,h4,h5,h6,h7⟩:=h;refine⟨cs,ty,h1,h2,h3,h4,fun i row hr=>⟨(h5 i row hr).1,fun j a ha=>?_⟩,h6,h7⟩;obtain⟨x,hx,dR⟩:=(h5 i row hr).2 j a ha;exact⟨x,hx,dR.fX hN (hk _ (List.mem_of_getElem? hr) _ (List.mem_of_getElem? ha))⟩
 |mp es =>
  obtain⟨entries,clock,h1,h2,h3⟩:=h;refine⟨entries,clock,h1,h2,fun i k a ha=>?_⟩;obtain⟨e,he,gT,hr⟩:=h3 i k a ha;exact⟨e,he,gT,hr.fX hN (hk _ (List.mem_of_getElem? ha))⟩
 |mb es =>
  obtain⟨entries,h1,h2,h3,h4⟩:=h;refine⟨entries,h1,h2,fun i k a ha=>?_,h4⟩;obtain⟨e,he,gT,hr⟩:=h3 i k a ha;exact⟨e,he,gT,hr.fX hN (hk _ (List.mem_of_getElem? ha))⟩
 |lp st mP tm ps assign body =>
  obtain⟨L,h1,h2,h3,h4,h5,h6,h7,h8⟩:=h;exact⟨L,h1,h2,h3,h4,h5,h6,fun t ht=>(h7 t ht).fX hN (hk t),h8⟩
 |df=>exact h
 |si s pos=>exact h
 |fo J=>exact h
 |un=>exact h.elim
theorem St.fX (hS:St w0 A g S w) (hN:B<=S'.nx) (iG:∀ j o,S'.get j=some o->(∃ bY,S.get (dE B f j)=some bY/\(∀ b cp,dJ g w b cp bY->dJ (g.fX B S'.nx f) w b cp o)/\∀ J,o=.fo J->bY=.fo J)\/S.nx<=dE B f j)
  (iH:∀ i j o p,S'.get i=some o->S'.get j=some p->dE B f i=dE B f j->i=j):St w0 A (g.fX B S'.nx f) S' w:=by
 have hs:∀ j o,S'.get j=some o->(g.fX B S'.nx f).al j->∃ bY,S.get (dE B f j)=some bY/\(∀ b cp,dJ g w b cp bY->dJ (g.fX B S'.nx f) w b cp o)/\∀ J,o=.fo J->bY=.fo J:=fun j o hj ha=>(iG j o hj).resolve_right fun h=>absurd (hS.al _ ha.2) (by omega);refine⟨hS.base,hS.up,hS.lo,fun k hk=>hk.1,fun k o hk ha=>?_,fun i j o p hi hj ai aj e=>?_,hS.cK,hS.oT,fun k J hk ha=>?_,fun k J j o hk ha hj aj bU=>?_,fun j k J J' hj hk aj ak=>?_⟩
 ·obtain⟨bY,h0,ht,_⟩:=hs k o hk ha;obtain⟨h1,h2,h3⟩:=hS.bT _ bY h0 ha.2;exact⟨h1,h2,ht _ _ h3⟩
 ·obtain⟨bY,h0,_⟩:=hs i o hi ai;obtain⟨wK,h1,_⟩:=hs j p hj aj;exact iH i j o p hi hj (hS.inj _ _ bY wK h0 h1 ai.2 aj.2 e)
 ·obtain⟨bY,h0,_,h1⟩:=hs k _ hk ha;exact hS.iE _ J (by grind) ha.2
 ·obtain⟨bY,h0,_,h1⟩:=hs k _ hk ha;obtain⟨wK,h2,_⟩:=hs j _ hj aj;exact hS.kL _ J _ wK (by grind) ha.2 h2 aj.2 (fun e=>bU (iH j k o _ hj hk e))
 ·obtain⟨bY,h0,_,h1⟩:=hs j _ hj aj;obtain⟨wK,h2,_,h3⟩:=hs k _ hk ak;exact iH j k _ _ hj hk (hS.mQ _ _ J J' (by grind) (by grind) aj.2 ak.2)
theorem Ext.fX {N:Nat}(hE:Ext A gs ws g w) (hN:B<=N) (hB:∀ k,gs.al k->k < B):Ext A gs ws (g.fX B N f) w :=
 { al:=fun k hk=>⟨by grind,by rw[lh (hB k hk)];exact hE.al k hk⟩
   ob:=fun k hk=>by show g.ob (dE B f k)=gs.ob k;rw[lh (hB k hk)];exact hE.ob k hk
   cp:=fun k hk=>by show g.cp (dE B f k)=gs.cp k;rw[lh (hB k hk)];exact hE.cp k hk
   fz:=hE.fz
   cell:=hE.cell
   size:=hE.size
   aU:=hE.aU
   h_:=hE.h_ }
end
def aJ:List (Nat × Nat)->Nat->Nat
 |[],j=>j
 |p::m,j=>match Nat.beq p.1 j with|true=>p.2|false=>aJ m j
def dL:List (Nat × Ob)->Nat->Option Ob
 |[],_=>none
 |p::l,j=>match Nat.beq p.1 j with|true=>some p.2|false=>dL l j
theorem fg:∀ {l:List (Nat × Ob)}{j:Nat}{o:Ob},dL l j=some o->(j,o) ∈ l
 |[],j,o,h=>by cases h
 |(a,b)::l,j,o,h=>by
  simp only[dL] at h;split at h
  ·rename_i e;obtain rfl:=Nat.eq_of_beq_eq_true e;obtain rfl:=oJ_ h;simp
  ·exact List.mem_cons_of_mem _ (fg h)
inductive ur (B:Nat) (m:List (Nat × Nat)) (N:Nat) (f:Nat->AV):Nat->AV->Prop where
 |ao {t:Nat}{a:AV}(h:f t=a) (hk:dz B a):ur B m N f t a
 |new {t j sz off len:Nat}{cx:Option Nat}(h:f t=.ob (dE B (aJ m) j) sz off len cx) (hj:Nat.blt j N=true):ur B m N f t (.ob j sz off len cx)
 |iR {t j sz len:Nat}(h:f t=.gr (dE B (aJ m) j) sz len) (hj:Nat.blt j N=true):ur B m N f t (.gr j sz len)
 |jw {t j sz:Nat}(h:f t=.sl true []):ur B m N f t (.gr j sz 0)
 |mS {t j sz i q:Nat}(h:f t=.pt (dE B (aJ m) j) sz i q) (hj:Nat.blt j N=true):ur B m N f t (.pt j sz i q)
 |qm {t j:Nat}(h:f t=.mp (dE B (aJ m) j)) (hj:Nat.blt j N=true):ur B m N f t (.mp j)
def CM (B:Nat) (m:List (Nat × Nat)) (N:Nat) (f:Nat->AV):List (Nat × AV)->Prop
 |[]=>True
 |p::l=>ur B m N f p.1 p.2/\CM B m N f l
inductive ij (B:Nat) (m:List (Nat × Nat)) (N:Nat):AV->AV->Prop where
 |ao {a:AV}(hk:dz B a):ij B m N a a
 |new {j k sz off len:Nat}{cx:Option Nat}(h:k=dE B (aJ m) j) (hj:Nat.blt j N=true):ij B m N (.ob k sz off len cx) (.ob j sz off len cx)
 |iR {j k sz len:Nat}(h:k=dE B (aJ m) j) (hj:Nat.blt j N=true):ij B m N (.gr k sz len) (.gr j sz len)
 |jw {j sz:Nat}:ij B m N (.sl true []) (.gr j sz 0)
 |mS {j k sz i q:Nat}(h:k=dE B (aJ m) j) (hj:Nat.blt j N=true):ij B m N (.pt k sz i q) (.pt j sz i q)
 |qm {j k:Nat}(h:k=dE B (aJ m) j) (hj:Nat.blt j N=true):ij B m N (.mp k) (.mp j)
def vK (B:Nat) (m:List (Nat × Nat)) (N:Nat):List AV->List AV->Prop
 |[],[]=>True
 |a::l,b::l'=>ij B m N a b/\vK B m N l l'
 |_,_=>False
def CN (B:Nat) (m:List (Nat × Nat)) (N:Nat):List (List AV)->List (List AV)->Prop
 |[],[]=>True
 |a::l,b::l'=>vK B m N a b/\CN B m N l l'
 |_,_=>False
theorem vK.at {B N:Nat}{m:List (Nat × Nat)}:∀ {l l':List AV},vK B m N l l'->l.length=l'.length/\∀ (i:Nat) (b:AV),l'[i]?=some b->∃ a,l[i]?=some a/\ij B m N a b
 |[],[],_=>⟨rfl,fun i b h=>by grind⟩
 |a::l,b::l',hc=>⟨by simp[hc.2.at.1],fun i c h=>by
  cases i with
  |zero=>simp at h;subst h;exact⟨a,rfl,hc.1⟩
  |succ i=>simp at h;obtain⟨d,h1,h2⟩:=hc.2.at.2 i c h;exact⟨d,by grind,h2⟩⟩
 |[],_::_,h=>h.elim
 |_::_,[],h=>h.elim
theorem CN.at {B N:Nat}{m:List (Nat × Nat)}:∀ {l l':List (List AV)},CN B m N l l'->l.length=l'.length/\∀ (i:Nat) (b:List AV),l'[i]?=some b->∃ a,l[i]?=some a/\vK B m N a b
 |[],[],_=>⟨rfl,fun i b h=>by grind⟩
 |a::l,b::l',hc=>⟨by simp[hc.2.at.1],fun i c h=>by
  cases i with
  |zero=>simp at h;subst h;exact⟨a,rfl,hc.1⟩
  |succ i=>simp at h;obtain⟨d,h1,h2⟩:=hc.2.at.2 i c h;exact⟨d,by grind,h2⟩⟩
 |[],_::_,h=>h.elim
 |_::_,[],h=>h.elim
inductive yB (B:Nat) (m:List (Nat × Nat)) (N:Nat):Ob->Ob->Prop where
 |same {o:Ob}(hk:fR B o):yB B m N o o
 |arr {sz fz:Nat}{rows cV:List (List AV)}{ex:Bool}(h:CN B m N rows cV):yB B m N (.arr sz rows fz ex) (.arr sz cV fz ex)
def fY (B:Nat) (m:List (Nat × Nat)) (N:Nat) (S:ae):List (Nat × Ob)->Prop
 |[]=>True
 |p::l=>((∃ bY,S.get (dE B (aJ m) p.1)=some bY/\yB B m N bY p.2)\/Nat.ble S.nx (dE B (aJ m) p.1)=true)/\fY B m N S l
theorem fY.mem {B N:Nat}{m:List (Nat × Nat)}{S:ae}:∀ {l:List (Nat × Ob)},fY B m N S l->∀ p ∈ l,(∃ bY,S.get (dE B (aJ m) p.1)=some bY/\yB B m N bY p.2)\/Nat.ble S.nx (dE B (aJ m) p.1)=true
 |[],_,p,h=>by grind
 |q::l,hc,p,h=>by
  rcases List.mem_cons.1 h with rfl|h
  ·exact hc.1
  ·exact hc.2.mem p h
def nu (B:Nat) (m:List (Nat × Nat)):List Nat->Bool
 |[]=>true
 |j::l=>l.all (fun i=>!Nat.beq (dE B (aJ m) i) (dE B (aJ m) j)) && nu B m l
theorem nu.inj {B:Nat}{m:List (Nat × Nat)}:∀ {l:List Nat},nu B m l=true->∀ i j,i ∈ l->j ∈ l->dE B (aJ m) i=dE B (aJ m) j->i=j
 |[],_,i,j,h,_,_=>by grind
 |a::l,hd,i,j,hi,hj,e=>by
  simp only[nu,Bool.and_eq_true,List.all_eq_true,Bool.not_eq_true'] at hd;have ne:∀ x ∈ l,dE B (aJ m) x ≠ dE B (aJ m) a:=fun x hx h=>by
   have:=hd.1 x hx;rw[h,Nat.beq_refl] at this;cases this
  by_cases h1:i=a
  ·grind
  ·by_cases h2:j=a
   ·grind
   ·exact nu.inj hd.2 i j ((List.mem_cons.1 hi).resolve_left h1) ((List.mem_cons.1 hj).resolve_left h2) e
def eJ (l:List (Nat × AV)) (ds:List DE):AA:=⟨kW (fun _=>.u) l,ds⟩
def aq (l:List (Nat × Ob)) (N:Nat):ae:=⟨dL l,N⟩
structure Canon (B N:Nat) (m:List (Nat × Nat)) (α:AA) (S:ae) (l:List (Nat × AV)) (ds:List DE) (so:List (Nat × Ob)):Prop where
 ab5:CM B m N α.tm l
 df:α.df=ds
 agL:fY B m N S so
 agM:nu B m (so.map (·.1))=true
 bn:Nat.ble B N=true
 dl:ds.all (fun d=>Nat.blt d.k B)=true
section
variable {P:Program}{w0:World}{rd:Bool}{n:Nat}{A:Nat->Prop}{g gs:Gh}{S S':ae}{w ws:World}{B N:Nat}{m:List (Nat × Nat)}{α:AA}{l:List (Nat × AV)}{ds:List DE}{so:List (Nat × Ob)}{a:Act}
theorem dM {i j:Nat}(h:Nat.blt i j=true):i < j:=Nat.le_of_ble_eq_true h
theorem ij.rep {a b:AV}{x:Value}(hN:B<=N) (h:ij B m N a b) (hr:aF g w a x):aF (g.fX B N (aJ m)) w b x:=by
 cases h with
 |ao hk=>exact hr.fX hN hk
 |@new j k sz off len cx e hj =>
  subst e;cases hr with
  |ob hk hc hp hx hle=>exact .ob (g:=g.fX B N (aJ m)) (k:=j) ⟨Nat.le_of_ble_eq_true hj,hk⟩ hc hp hx hle
 |@iR j k sz len e hj =>
  subst e;cases hr with
  |jw=>exact .jw
  |gr hk hx hle=>exact .gr (g:=g.fX B N (aJ m)) (k:=j) ⟨Nat.le_of_ble_eq_true hj,hk⟩ hx hle
 |jw =>
  cases hr with
  |nil hc=>rw[hc rfl];exact .jw
  |sl hn=>exact absurd rfl hn
 |@mS j k sz i q e hj =>
  subst e;cases hr with
  |pt hk=>exact .pt (g:=g.fX B N (aJ m)) (k:=j) ⟨Nat.le_of_ble_eq_true hj,hk⟩
 |@qm j k e hj =>
  subst e;cases hr with
  |mp hk=>exact .mp (g:=g.fX B N (aJ m)) (k:=j) ⟨Nat.le_of_ble_eq_true hj,hk⟩
theorem yB.rep {o o':Ob}{b cp:Nat}(hN:B<=N) (h:yB B m N o o') (hr:dJ g w b cp o):dJ (g.fX B N (aJ m)) w b cp o':=by
 cases h with
 |same hk=>exact hr.fX hN hk
 |@arr sz fz rows cV ex hc =>
  obtain⟨hl,ha⟩:=hc.at;obtain⟨cs,ty,h1,h2,h3,h4,h5,h6,h7⟩:=hr;refine⟨cs,ty,h1,h2,by grind,fun he=>by grind,fun i row hr=>?_,by grind,h7⟩;obtain⟨agN,e1,e2⟩:=ha i row hr;obtain⟨lj,kN⟩:=e2.at;refine⟨by grind,fun j a hj=>?_⟩;obtain⟨a0,e3,e4⟩:=kN j a hj;obtain⟨x,hx,dR⟩:=(h5 i agN e1).2 j a0 e3;exact⟨x,hx,e4.rep hN dR⟩
theorem Canon.st (hC:Canon B N m α S l ds so) (hS:St w0 A g S w):St w0 A (g.fX B N (aJ m)) (aq so N) w :=
 St.fX (S':=aq so N) hS (Nat.le_of_ble_eq_true hC.bn) (fun j o h=>by
   rcases hC.agL.mem _ (fg h) with ⟨bY,h0,hc⟩|hv
   case inr=>exact .inr (Nat.le_of_ble_eq_true hv)
   exact .inl ⟨bY,h0,fun b cp hr=>hc.rep (Nat.le_of_ble_eq_true hC.bn) hr,fun J hJ=>by subst hJ;cases hc;rfl⟩)
  (fun i j o p hi hj e=>nu.inj hC.agM i j (List.mem_map.2 ⟨_,fg hi,rfl⟩) (List.mem_map.2 ⟨_,fg hj,rfl⟩) e)
theorem Fu (hN:B<=N) (hA:bR g w n α a):∀ {l:List (Nat × AV)},CM B m N α.tm l->(∀ t,t < n->aF (g.fX B N (aJ m)) w (kW (fun _=>.u) l t) (a.tmps.getD t undef))/\∀ t,n<=t->kW (fun _=>.u) l t=.u
 |[],_=>⟨fun _ _=>.u,fun _ _=>rfl⟩
 |(s,b)::l,h=>by
  obtain⟨h1,h2⟩:=Fu hN hA h.2;have hs:ur B m N α.tm s b:=h.1;refine⟨fun t ht=>?_,fun t ht=>?_⟩
  ·show aF _ w (a7 (kW (fun _=>.u) l) s b t) _;by_cases e:t=s
   ·subst e;rw[az];have hr:=hA.tm t ht;cases hs with
    |ao e hk=>rw[e] at hr;exact hr.fX hN hk
    |@new j sz off len cx e hj =>
     rw[e] at hr;exact ij.rep hN (.new rfl hj) hr
    |@iR j sz len e hj=>rw[e] at hr;exact ij.rep hN (.iR rfl hj) hr
    |@jw j sz e=>rw[e] at hr;exact ij.rep hN .jw hr
    |@mS j sz i q e hj=>rw[e] at hr;exact ij.rep hN (.mS rfl hj) hr
    |@qm j e hj=>rw[e] at hr;exact ij.rep hN (.qm rfl hj) hr
   ·grind[aD]
  ·show a7 (kW (fun _=>.u) l) s b t=.u;by_cases e:t=s
   ·subst e;rw[az];have hr:=hA.out t ht;cases hs with
    |ao e hk=>exact e.symm.trans hr
    |new e hj=>rw[hr] at e;cases e
    |iR e hj=>rw[hr] at e;cases e
    |jw e=>rw[hr] at e;cases e
    |mS e hj=>rw[hr] at e;cases e
    |qm e hj=>rw[hr] at e;cases e
   ·grind[aD]
theorem Canon.MF (hC:Canon B N m α S l ds so) (hA:bR g w n α a):bR (g.fX B N (aJ m)) w n (eJ l ds) a:=by
 have hN:=Nat.le_of_ble_eq_true hC.bn;obtain⟨h1,h2⟩:=Fu hN hA hC.ab5;have hd:=hC.dl;rw[List.all_eq_true] at hd;refine⟨hA.size,h1,h2,?_,fun k hk=>?_⟩
 ·rw[hA.df,hC.df];refine List.map_congr_left fun k hk=>?_;refine (yC ?_).symm;show g.ob (dE B (aJ m) k.k)=_;rw[lh (dM (hd k hk))]
 ·have:=dM (hd k hk);refine⟨by omega,?_⟩;rw[lh this];exact hA.rY k (by rw[hC.df];exact hk)
def tc (P:Program) (w0:World) (rd:Bool) (n B:Nat) (c:Code) (α:AA) (S:ae) (ex:Exit) (au:AA) (S':ae):Prop :=
 ∀ (F:Fence) (m:Nat) (A:Nat->Prop) (g gs:Gh) (a:Act) (w ws:World),ir F->F.round.isSome=rd->St w0 A g S w->bR g w n α a->Ext A gs ws g w->(∀ k,gs.al k->k < B)->∀ (b:Frame) (k:List Item) (cs:List Frame),b.roundOf=F.round->F.fn b.fn->F.room (cs.length+1+m) ->
  ∃ e a' w',nv w0 n A gs ws ex au S' e a' w'/\ArrivesIn (Machine.fenced P F) P (lone (b.atR a (.code c::.inLoop c::k)) cs w) b k cs e a' w'
section
variable {c:Code}{bF au:AA}{bW:ae}{ex:Exit}
theorem tc.step (h:cC P w0 rd n c α S .normal bF bW) (hC:Canon B N m bF bW l ds so) (k:tc P w0 rd n B c (eJ l ds) (aq so N) ex au S'):tc P w0 rd n B c α S ex au S':=by
 intro F mm A g gs a w ws hF hR hS hA hE hB b q cs kO hb hr;obtain⟨e,lk,jx,hq,ll⟩:=h F mm A g a w hF hR hS hA b (.inLoop c::q) cs kO hb hr;obtain⟨rfl,BY,CO,CP,ab6⟩:=hq;obtain⟨RR,RU,RV,MG,Er⟩:=k F mm A _ gs lk jx ws hF hR (hC.st CO) (hC.MF CP) ((hE.trans ab6).fX (Nat.le_of_ble_eq_true hC.bn) hB) hB b q cs kO hb hr;exact⟨RR,RU,RV,MG,.of_steps (StepsIn.trans ll (.one (fenced_calm hb hr rfl) stepR_inLoop)) Er⟩
theorem tc.done (h:cC P w0 rd n c α S ex au S') (he:ex ≠ .normal):tc P w0 rd n B c α S ex au S':=by
 intro F mm A g gs a w ws hF hR hS hA hE hB b q cs kO hb hr;obtain⟨e,lk,jx,hq,ll⟩:=h F mm A g a w hF hR hS hA b (.inLoop c::q) cs kO hb hr;obtain⟨rfl,hq⟩:=hq;exact⟨e,lk,jx,nv.ext hE ⟨rfl,hq⟩,.pass (x:=.inLoop c) rfl (fun _ _=>.inl he) ll⟩
theorem tc.start (hn:Nat.ble S.nx B=true) (hC:Canon B N m α S l ds so) (k:tc P w0 rd n B c (eJ l ds) (aq so N) ex au S'):vn P w0 rd n c α S ex au S':=by
 intro F mm A g a w hF hR hS hA b q cs kO hb hr;have hB:∀ k,g.al k->k < B:=fun k hk=>Nat.lt_of_lt_of_le (hS.al k hk) (Nat.le_of_ble_eq_true hn);exact k F mm A _ g a w w hF hR (hC.st hS) (hC.MF hA) ((Ext.refl A g w).fX (Nat.le_of_ble_eq_true hC.bn) hB) hB b q cs kO hb hr
end
def K2 {σ:Type}(P:Program) (w0:World) (rd:Bool) (n B N:Nat) (st:σ->List (Nat × AV)) (ds:List DE) (so:σ->List (Nat × Ob)) (I:σ->Prop) (μ:σ->Nat) (Q:Exit->AA->ae->Prop) (K:List ff) (k:Nat):Exit->AA->ae->Prop :=
 fun ex α S=>match ex with|.normal=>∃ s m,I s/\μ s < k/\Canon B N m α S (st s) ds (so s)|e=>ad P w0 rd n Q (.out e K) α S
variable {Q:Exit->AA->ae->Prop}{K:List ff}
theorem ad.bu {σ:Type}(B N:Nat) (m:List (Nat × Nat)) (st:σ->List (Nat × AV)) (ds:List DE) (so:σ->List (Nat × Ob)) (I:σ->Prop) (μ:σ->Nat) (s0:σ) {c:QC}(h0:I s0) (hn:Nat.ble S.nx B=true) (hC:Canon B N m α S (st s0) ds (so s0))
  (h:∀ s,I s->ad P w0 rd n (K2 P w0 rd n B N st ds so I μ Q K (μ s)) (.run c []) (eJ (st s) ds) (aq (so s) N)):ad P w0 rd n Q (.run (.loop c) K) α S:=by
 intro c0 hc hd;obtain⟨c1,rfl,h1⟩:=OS hc;have key:∀ (k:Nat) (s:σ),I s->μ s=k->∃ ex au S',tc P w0 rd n B c1 (eJ (st s) ds) (aq (so s) N) ex au S'/\dx P w0 rd n Q K ex au S':=by
  intro k
  induction k using Nat.strongRecOn with
  |_ k ih =>
   intro s hI hk;obtain⟨ex,bF,bW,h3,h4⟩:Wp P w0 rd n c1 (K2 P w0 rd n B N st ds so I μ Q K (μ s)) (eJ (st s) ds) (aq (so s) N):=h s hI c1 h1 hd;cases ex with
   |normal =>
    obtain⟨s',m',hI',aA,hC'⟩:=h4;obtain⟨ex,au,S',h5,h6⟩:=ih (μ s') (by omega) s' hI' rfl;exact⟨ex,au,S',tc.step h3 hC' h5,h6⟩
   |_=>exact⟨_,bF,bW,tc.done h3 (by simp),h4⟩
 obtain⟨ex,au,S',h2,h3⟩:=key _ s0 h0 rfl;exact⟨ex,au,S',cC.loop (tc.start hn hC h2),h3⟩
theorem ad.aO {σ:Type}{st:σ->List (Nat × AV)}{so:σ->List (Nat × Ob)}{I:σ->Prop}{μ:σ->Nat}{k:Nat}(s:σ) (m:List (Nat × Nat)) (hI:I s) (hk:μ s < k) (hC:Canon B N m α S (st s) ds (so s)) :
  ad P w0 rd n (K2 P w0 rd n B N st ds so I μ Q K k) (.out .normal []) α S:=⟨s,m,hI,hk,hC⟩
theorem ad.aH {σ:Type}{st:σ->List (Nat × AV)}{so:σ->List (Nat × Ob)}{I:σ->Prop}{μ:σ->Nat}{k id:Nat}(h:ad P w0 rd n Q (.out (.exit id) K) α S):ad P w0 rd n (K2 P w0 rd n B N st ds so I μ Q K k) (.out (.exit id) []) α S:=h
theorem ad.cP {σ:Type}{st:σ->List (Nat × AV)}{so:σ->List (Nat × Ob)}{I:σ->Prop}{μ:σ->Nat}{k:Nat}(h:ad P w0 rd n Q (.out .ret K) α S):ad P w0 rd n (K2 P w0 rd n B N st ds so I μ Q K k) (.out .ret []) α S:=h
end
end Go.Proofs.YtbpabjmnhggajaaGreat
