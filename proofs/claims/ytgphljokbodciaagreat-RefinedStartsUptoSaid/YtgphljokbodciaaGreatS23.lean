import Derived.Test.YtgphljokbodciaaGreatS21
namespace Go.Proofs.YtgphljokbodciaaGreat
set_option linter.unusedVariables false
set_option linter.unusedSimpArgs false
open Go.RowKit
section
set_option maxRecDepth 100000
attribute [local irreducible] ah aV ad ab
def QJ:CF Tryz.f122:=⟨_,by conv=>lhs;cbv⟩
theorem aap:aD Tryz.prog 122 QJ.1 Tryz.f122.ntmps:=aO Tryz.func122 QJ.2 Tryz.call122
def py:List Nat:=[11,5,0,2,8,10,12,9,3,24]
def QK:CF Tryz.f214:=⟨_,by conv=>lhs;cbv⟩
theorem aaq:aD Tryz.prog 214 QK.1 Tryz.f214.ntmps:=aO Tryz.func214 QK.2 Tryz.call214
def jf:List Nat:=[3,0,2,6,10,45]
def iL {T:Type}(ok:T->Bool) (lt:T->T->Bool):Option T->List T->Bool
 |_,[]=>true
 |pr,x::l=>ok x && (match pr with|none=>true|some p=>lt p x) && iL ok lt (some x) l
def r8 {T:Type}(lt:T->T->Bool):Option T->T->Bool
 |none,_=>true
 |some p,x=>lt p x
theorem jx {T:Type}{ok:T->Bool}{lt:T->T->Bool}{pr:Option T}{x:T}{l:List T}:iL ok lt pr (x::l)=(ok x && r8 lt pr x && iL ok lt (some x) l):=by cases pr<;>rfl
theorem lT {T:Type}{ok:T->Bool}{lt:T->T->Bool}{pr:Option T}:iL ok lt pr []=true:=by cases pr<;>rfl
def xX (x:Im):Bool:=decide (1<=x.id) && eu ⟨x.n,x.a⟩
def Ao (p x:Im):Bool:=decide (p.id < x.id)
def jP (l:List Im):Bool:=decide ((l.length:Int)<=500) && iL xX Ao none l
def kZ:List Int->List Int->Int
 |[],[]=>0
 |[],_::_=>-1
 |_::_,[]=>1
 |x::a,y::b=>cR (eQ x y) (kZ a b)
def mJ (x y:Fi):Int:=cR (eQ x.jM y.jM) (cR (eQ x.ids.length y.ids.length) (kZ x.ids y.ids))
def nC:List Int->List Int->Bool
 |_,[]=>true
 |s,x::l=>decide (1<=x) && !s.contains x && nC (s++[x]) l
def nD (f:Fi):Bool:=decide (0<=f.jM) && decide (f.jM < 40) && decide (1<=(f.ids.length:Int)) && decide ((f.ids.length:Int)<=4) && nC [] f.ids
def iB (l:List Fi):Bool:=decide ((l.length:Int)<=5000) && iL nD (fun p x=>decide (mJ p x < 0)) none l
def Im.ok (x:Im):Prop:=nv x.a/\x.n.size<=1099511627776
def ta {T:Type}(l:List T) (k:Nat) (pr:Option T):Prop:=(k=0/\pr=none)\/∃ y,0 < k/\l[k - 1]?=some y/\pr=some y
theorem eX {T:Type}{l:List T}{k:Nat}{x:T}(h:l[k]?=some x):ta l (k+1) (some x):=.inr ⟨x,by omega,by simpa using h,rfl⟩
section
variable {w0:World}{ρ:Hd}
theorem KO (l:List Im) (hl:l.length<=1099511627776) (hk:∀ x ∈ l,x.ok):ah Tryz.prog w0 122 [fN ρ l] (.v (.bool (jP l))):=by
 obtain⟨R,hR⟩:∃ R,R=jP l:=⟨_,rfl⟩
 rw [<-hR]
 unfold jP at hR
 refine aap.aH (by simp [Tryz.ntmps122]) (.v) ?_
 refine gq py ?_
 repeat' (first
  |(refine bq (fun hb=>?_) (fun hb=>?_)<;>(try simp only [aq] at hb)<;>(first|refine gq py ?_))
  |(refine az fun m hm=>?_;(try rw [af] at hm);refine gq py ?_)
  |(refine fq ?_))
 ·refine aI ?_;rw [hR,decide_eq_false (by omega)];rfl
 rw [decide_eq_true (by omega),Bool.true_and] at hR
 refine ab.aP (σ:=Int × Int) 0 0 [] (fun p=>[(3,.v (.int .i64 p.2)),(9,fN ρ l),(10,.v (.int .i64 m)),(11,.v (.int .i64 p.1))]) [] (fun _=>[])
  (fun p=>∃ (k:Nat) (pr:Option Im),p.1=k/\k<=l.length/\R=iL xX Ao pr (l.drop k)/\(pr=none/\p.2=0\/∃ y,pr=some y/\p.2=y.id/\1<=y.id)) (fun p=>l.length - p.1.toNat) (0,0) ⟨0,none,rfl,by simp,by simpa using hR,.inl ⟨rfl,rfl⟩⟩ rfl cq ?_
 rintro⟨i,la⟩ ⟨k,pr,hi,dD,hp,ju⟩
 simp only at hi ju
 clear hR
 refine gq py ?_
 by_cases au:k < l.length
 ·obtain⟨x,hx,aQ⟩:=aA au
  rw [aQ,jx] at hp
  obtain⟨xi,xn,xa⟩:=x
  obtain⟨l0,VM⟩:=hk _ (aZ hx)
  have hA:=wA (w0:=w0) (ρ:=ρ) ⟨xn,xa⟩ ⟨l0.len,l0.1⟩ VM
  have e1:(xX ⟨xi,xn,xa⟩ && r8 Ao pr ⟨xi,xn,xa⟩)=(decide (la < xi) && eu ⟨xn,xa⟩):=by
   rcases ju with ⟨rfl,rfl⟩|⟨y,rfl,rfl,hy⟩
   ·simp only [xX,r8,Bool.and_true]
    rw [decide_eq_decide.2 (show 1<=xi ↔ 0 < xi from ⟨fun h=>by omega,fun h=>by omega⟩)]
   ·simp only [xX,Ao,r8]
    rw [Bool.eq_iff_iff]
    simp only [Bool.and_eq_true,decide_eq_true_eq]
    exact⟨fun h=>⟨h.2,h.1.2⟩,fun h=>⟨⟨by omega,h.2⟩,h.1⟩⟩
  rw [e1] at hp
  repeat' (first
   |(refine ab.op rfl (ad.ind rfl rfl (ay (l:=l) hi hx) (aw fun _=>rfl)) ?_;refine gq py ?_)
   |(refine ab.bif rfl (ad.ag rfl hA ⟨cX (ρ:=ρ) ⟨xn,xa⟩,trivial⟩) (fun _=>?_) (fun _=>?_)<;>refine gq py ?_)
   |(refine bq (fun hb=>?_) (fun hb=>?_)<;>(try simp only [aq] at hb)<;>(first|refine gq py ?_))
   |(refine aS fun _ _=>?_;refine gq py ?_)
   |(refine ab.ao ?_;refine gq py ?_)
   |(refine ab.bK ?_;refine gq py ?_)
   |(refine fq ?_))
  all_goals first
   |(exfalso;omega)
   |(refine aI ?_;rw [hp,decide_eq_false (show ¬ la < xi by omega)];rfl)
   |(refine aI ?_;rw [hp,show eu ⟨xn,xa⟩=false by assumption];simp;done)
   |(refine ab.aK (σ:=Int × Int) (_,xi) [] ?_ ?_ cq
     ·refine⟨k+1,some ⟨xi,xn,xa⟩,by simp only;omega,by omega,?_,.inr ⟨_,rfl,rfl,?_⟩⟩
      ·rw [hp,decide_eq_true (show la < xi by omega),show eu ⟨xn,xa⟩=true by assumption];rfl
      ·rcases ju with ⟨rfl,rfl⟩|⟨y,rfl,rfl,hy⟩<;>simp only<;>omega
     ·simp only;omega)
 ·skip
  repeat' (first
   |(refine bq (fun hb=>?_) (fun hb=>?_)<;>(try simp only [aq] at hb)<;>(first|refine gq py ?_))
   |(refine ab.ao ?_;refine gq py ?_)
   |(refine fq ?_))
  all_goals first
   |(exfalso;omega)
   |(rw [hp,List.drop_eq_nil_of_le (by omega),lT];exact aI rfl)
theorem KP (l:List Im) (hl:l.length<=1099511627776) (hk:∀ x ∈ l,x.ok):ah Tryz.prog w0 214 [fN ρ l] (.v (.bool (jP l))):=by
 obtain⟨R,hR⟩:∃ R,R=jP l:=⟨_,rfl⟩
 rw [<-hR]
 unfold jP at hR
 refine aaq.aH (by simp [Tryz.ntmps214]) (.v) ?_
 refine gq jf ?_
 repeat' (first
  |(refine bq (fun hb=>?_) (fun hb=>?_)<;>(try simp only [aq] at hb)<;>(first|refine gq jf ?_))
  |(refine az fun m hm=>?_;(try rw [af] at hm);refine gq jf ?_)
  |(refine fq ?_))
 ·refine aI ?_;rw [hR,decide_eq_false (by omega)];rfl
 rw [decide_eq_true (by omega),Bool.true_and] at hR
 refine ab.aP (σ:=Int) 0 0 [] (fun i=>[(0,fN ρ l),(3,.v (.int .i64 i))]) [] (fun _=>[])
  (fun i=>∃ (k:Nat) (pr:Option Im),i=k/\k<=l.length/\R=iL xX Ao pr (l.drop k)/\ta l k pr) (fun i=>l.length - i.toNat) 0 ⟨0,none,rfl,by simp,by simpa using hR,.inl ⟨rfl,rfl⟩⟩ rfl cq ?_
 rintro i ⟨k,pr,hi,dD,hp,ju⟩
 clear hR
 refine gq jf ?_
 by_cases au:k < l.length
 ·obtain⟨x,hx,aQ⟩:=aA au
  rw [aQ,jx] at hp
  obtain⟨xi,xn,xa⟩:=x
  obtain⟨l0,VM⟩:=hk _ (aZ hx)
  have hA:=xS (w0:=w0) (ρ:=ρ) ⟨xn,xa⟩ l0 VM
  rw [xX] at hp
  rcases ju with ⟨rfl,rfl⟩|⟨⟨yi,yn,ya⟩,ga,hy,rfl⟩
  ·simp only [r8] at hp
   repeat' (first
    |(refine ab.op rfl (ad.ind rfl rfl (ay (l:=l) hi hx) (aw fun _=>rfl)) ?_;refine gq jf ?_)
    |(refine ab.bif rfl (ad.ag rfl hA ⟨cX (ρ:=ρ) ⟨xn,xa⟩,trivial⟩) (fun _=>?_) (fun _=>?_)<;>refine gq jf ?_)
    |(refine bq (fun hb=>?_) (fun hb=>?_)<;>(try simp only [aq] at hb)<;>(first|refine gq jf ?_))
    |(refine az fun m hm=>?_;(try rw [af] at hm);refine gq jf ?_)
    |(refine aS fun _ _=>?_;refine gq jf ?_)
    |(refine ab.ao ?_;refine gq jf ?_)
    |(refine ab.bK ?_;refine gq jf ?_)
    |(refine fq ?_))
   all_goals first
    |(exfalso;omega)
    |(refine aI ?_;rw [hp,decide_eq_false (show ¬ 1<=xi by omega)];rfl)
    |(refine aI ?_;rw [hp,show eu ⟨xn,xa⟩=false by assumption];simp;done)
    |(refine ab.aK (σ:=Int) _ [] ?_ ?_ cq
      ·refine⟨0+1,some ⟨xi,xn,xa⟩,by omega,by omega,?_,eX hx⟩
       rw [hp,decide_eq_true (show 1<=xi by omega),show eu ⟨xn,xa⟩=true by assumption];rfl
      ·omega)
  ·simp only [Ao,r8] at hp
   repeat' (first
    |(refine ab.op rfl (ad.ind rfl rfl (ay (l:=l) hi hx) (aw fun _=>rfl)) ?_;refine gq jf ?_)
    |(refine ab.op rfl (ad.ind rfl rfl (ay (l:=l) (k:=k - 1) (by omega) hy) (aw fun _=>rfl)) ?_;refine gq jf ?_)
    |(refine ab.bif rfl (ad.ag rfl hA ⟨cX (ρ:=ρ) ⟨xn,xa⟩,trivial⟩) (fun _=>?_) (fun _=>?_)<;>refine gq jf ?_)
    |(refine bq (fun hb=>?_) (fun hb=>?_)<;>(try simp only [aq] at hb)<;>(first|refine gq jf ?_))
    |(refine az fun m hm=>?_;(try rw [af] at hm);refine gq jf ?_)
    |(refine aS fun _ _=>?_;refine gq jf ?_)
    |(refine ab.ao ?_;refine gq jf ?_)
    |(refine ab.bK ?_;refine gq jf ?_)
    |(refine fq ?_))
   all_goals first
    |(exfalso;omega)
    |(refine aI ?_;rw [hp,decide_eq_false (show ¬ 1<=xi by omega)];rfl)
    |(refine aI ?_;rw [hp,decide_eq_false (show ¬ yi < xi by omega)];simp;done)
    |(refine aI ?_;rw [hp,show eu ⟨xn,xa⟩=false by assumption];simp;done)
    |(refine ab.aK (σ:=Int) _ [] ?_ ?_ cq
      ·refine⟨k+1,some ⟨xi,xn,xa⟩,by omega,by omega,?_,eX hx⟩
       rw [hp,decide_eq_true (show 1<=xi by omega),decide_eq_true (show yi < xi by omega),show eu ⟨xn,xa⟩=true by assumption];rfl
      ·omega)
 ·skip
  repeat' (first
   |(refine bq (fun hb=>?_) (fun hb=>?_)<;>(try simp only [aq] at hb)<;>(first|refine gq jf ?_))
   |(refine az fun m hm=>?_;(try rw [af] at hm);refine gq jf ?_)
   |(refine ab.ao ?_;refine gq jf ?_)
   |(refine fq ?_))
  all_goals first
   |(exfalso;omega)
   |(rw [hp,List.drop_eq_nil_of_le (by omega),lT];exact aI rfl)
end
end
section
set_option maxRecDepth 100000
attribute [local irreducible] ah aV ad ab
def QL:CF Tryz.f367:=⟨_,by conv=>lhs;cbv⟩
theorem aar:aD Tryz.prog 367 QL.1 Tryz.f367.ntmps:=aO Tryz.func367 QL.2 Tryz.call367
def q8:List Nat:=[6,4,0,5,10,1,19]
def Bd.ok (x:Bd):Prop:=x.t.ok/\cQ x.t<=1099511627776
def Nc:Tm:=⟨0,0,⟨#[]⟩,[]⟩
def oU (b:List Bd) (v:Int):Tm × Bool:=match b.find? fun x=>x.v == v with|some x=>(x.t,true)|none=>(Nc,false)
theorem Nd {S:ae}{ρ:Hd}:aX S (.agg [.v (.int .i64 0),.v (.int .i64 0),.v (.string ⟨#[]⟩),.sl true []]) (tm ρ Nc):=by
 refine .agg rfl fun i a a' h1 h2=>?_
 match i,h1,h2 with
 |0,h1,h2=>obtain rfl:=Option.some.inj h1;obtain rfl:=Option.some.inj h2;exact .refl _
 |1,h1,h2=>obtain rfl:=Option.some.inj h1;obtain rfl:=Option.some.inj h2;exact .refl _
 |2,h1,h2=>obtain rfl:=Option.some.inj h1;obtain rfl:=Option.some.inj h2;exact .refl _
 |3,h1,h2 =>
  obtain rfl:=Option.some.inj h1
  obtain rfl:=Option.some.inj h2
  rw [Nc,tl,dE]
  exact aX.wk
theorem TQ {S:ae}{a a':AV}{b:Bool}(h:aX S a a'):aX S (.bc [a,.v (.bool b)]) (.bc [a',.v (.bool b)]):=by
 refine .bc rfl fun i x x' h1 h2=>?_
 match i,h1,h2 with
 |0,h1,h2=>obtain rfl:=Option.some.inj h1;obtain rfl:=Option.some.inj h2;exact h
 |1,h1,h2=>obtain rfl:=Option.some.inj h1;obtain rfl:=Option.some.inj h2;exact .refl _
section
variable {w0:World}{ρ:Hd}
theorem KQ (b:List Bd) (v:Int) (hl:b.length<=1099511627776):ah Tryz.prog w0 367 [eL ρ b,iv v] (.bc [tm ρ (oU b v).1,.v (.bool (oU b v).2)]):=by
 obtain⟨R,hR⟩:∃ R,R=oU b v:=⟨_,rfl⟩
 rw [<-hR]
 refine aar.aH (by simp [Tryz.ntmps367]) ((.bc fun a ha=>by simp only [List.mem_cons,List.not_mem_nil,or_false] at ha;rcases ha with rfl|rfl;exact bf _;exact .v)) ?_
 refine gq q8 ?_
 refine ab.aP (σ:=Int) 1 1 [] (fun i=>[(0,eL ρ b),(1,.v (.int .i64 v)),(4,.pt 0 4 0 0),(6,.v (.int .i64 i))]) [] (fun _=>[(0,.arr 4 [[.v (.int .i64 0),.v (.int .i64 0),.v (.string ⟨#[]⟩),.sl true []]] 0 true)]) (fun i=>∃ k:Nat,i=k/\k<=b.length/\R=oU (b.drop k) v) (fun i=>b.length - i.toNat) 0 ⟨0,rfl,by simp,by simpa using hR⟩ rfl (by exact⟨sq,rfl,⟨.inl ⟨_,rfl,.arr (by exact⟨kq,trivial⟩)⟩,trivial⟩,rfl,rfl,rfl⟩) ?_
 rintro i ⟨k,hi,hk,hp⟩
 clear hR
 refine gq q8 ?_
 by_cases au:k < b.length
 ·obtain⟨x,hx,aQ⟩:=aA au
  rw [aQ,oU,List.find?_cons] at hp
  obtain⟨xv,xk,xi,xn,xa⟩:=x
  repeat' (first
   |(refine ab.op rfl (ad.ind rfl rfl (ay (l:=b) hi hx) (aw fun _=>rfl)) ?_;refine gq q8 ?_)
   |(refine bq (fun hb=>?_) (fun hb=>?_)<;>(try simp only [aq] at hb)<;>(first|refine gq q8 ?_))
   |(refine az fun m hm=>?_;(try rw [af] at hm);refine gq q8 ?_)
   |(refine aS fun _ _=>?_;refine gq q8 ?_)
   |(refine ab.ao ?_;refine gq q8 ?_)
   |(refine ab.bK ?_;refine gq q8 ?_)
   |(refine fq ?_))
  all_goals first
   |(exfalso;omega)
   |(rw [show (xv == v)=true by simp_all] at hp
     subst hp
     exact aX.of_eq rfl)
   |(rw [show (xv == v)=false by simp_all] at hp;(refine ab.aK (σ:=Int) _ [] ?_ ?_ (by exact⟨sq,rfl,⟨.inl ⟨_,rfl,.arr (by exact⟨kq,trivial⟩)⟩,trivial⟩,rfl,rfl,rfl⟩)<;>first|omega|exact⟨k+1,by omega,by omega,by rw [hp];rfl⟩))
 ·skip
  repeat' (first
   |(refine bq (fun hb=>?_) (fun hb=>?_)<;>(try simp only [aq] at hb)<;>(first|refine gq q8 ?_))
   |(refine az fun m hm=>?_;(try rw [af] at hm);refine gq q8 ?_)
   |(refine ab.ao ?_;refine gq q8 ?_)
   |(refine fq ?_))
  all_goals first
   |(exfalso;omega)
   |skip
  rw [List.drop_eq_nil_of_le (by omega),oU] at hp
  subst hp
  exact TQ Nd
end
end
def kQ (c:Value->Bool):List (Value × AV)->Option Nat
 |[]=>none
 |p::es=>if c p.1 then some 0 else (kQ c es).map (·+1)
section
variable {P:Program}{w0:World}{n:Nat}{o:Oper}{α:AA}{S S':ae}{r:AV}
structure vo (P:Program) (kt:Nat) (v:Value) (es:List (Value × AV)) (c:Value->Bool):Prop where
 VN:∀ b w,(Instr.checkKey b 10000 kt v).run P w=.ok () w
 str:∃ fs,P.underlying kt=some (.struct fs)
 eq:∀ p ∈ es,∀ w,(Op.equal kt v p.1).run P w=.ok (c p.1) w
theorem FK {c:Value->Bool}:∀ {es:List (Value × AV)}{j:Nat},kQ c es=some j->∃ k a,es[j]?=some (k,a)/\c k=true
 |[],j,h=>by cases h
 |p::es,j,h=>by
  rw [kQ] at h
  split at h
  ·obtain rfl:=Option.some.inj h
   exact⟨p.1,p.2,rfl,by assumption⟩
  ·cases hx:kQ c es with
   |none=>rw [hx] at h;cases h
   |some j' =>
    rw [hx] at h
    obtain rfl:=Option.some.inj h
    obtain⟨k,a,h1,h2⟩:=FK hx
    exact⟨k,a,by simpa using h1,h2⟩
theorem Bj {kt:Nat}{v:Value}{c:Value->Bool}{w:World}:∀ {es:List (Value × AV)}{L:List MapEntry}{o:Nat},(∀ p ∈ es,∀ w,(Op.equal kt v p.1).run P w=.ok (c p.1) w)->L.length=es.length ->
  (∀ (j:Nat) (k:Value) (a:AV) (e:MapEntry),es[j]?=some (k,a)->L[j]?=some e->e.key=k) ->
  (Instr.findAsking kt v L o).run P w=.ok (match kQ c es with|some j=>(L[j]?).map fun e=>(j+o,e.val)|none=>none) w
 |[],[],o,_,_,_=>rfl
 |p::es,e::L,o,hq,hl,h=>by
  have VO:e.key=p.1:=h 0 p.1 p.2 e rfl rfl
  have ih:=Bj (w:=w) (es:=es) (L:=L) (o:=o+1) (fun q QM=>hq q (by simp [QM])) (by simpa using hl) (fun j k a e' h1 h2=>h (j+1) k a e' (by simpa using h1) (by simpa using h2))
  simp only [Instr.findAsking,Sem.run_bind,VO,hq p (by simp) w,Result.andThen_ok,kQ]
  cases hc:c p.1 with
  |true=>simp [Sem.run_pure]
  |false =>
   simp only [if_false,Bool.false_eq_true,ih]
   congr 1
   cases kQ c es with
   |none=>rfl
   |some j=>simp only [Option.map_some,List.getElem?_cons_succ];congr 1;funext x;congr 1;omega
 |[],_::_,_,_,hl,_=>by simp at hl
 |_::_,[],_,_,hl,_=>by simp at hl
theorem vo.find {kt:Nat}{v:Value}{es:List (Value × AV)}{c:Value->Bool}(h:vo P kt v es c) {g:Gh}{w:World}{entries:Array MapEntry}(bI:entries.size=es.length) (he:∀ (i:Nat) (k:Value) (a:AV),es[i]?=some (k,a)->∃ e:MapEntry,entries[i]?=some e/\e.key=k/\aL g w a e.val) :
  (Instr.findKey kt v entries.toList).run P w=.ok (match kQ c es with|some j=>(entries[j]?).map fun e=>(j,e.val)|none=>none) w:=by
 obtain⟨fs,hfs⟩:=h.str
 have hq:=Bj (P:=P) (w:=w) (es:=es) (L:=entries.toList) (o:=0) h.eq (by simpa using bI) (fun j k a e h1 h2=>by
  obtain⟨e',h3,h4,_⟩:=he j k a h1
  rw [Array.getElem?_toList,h3] at h2
  rw [<-Option.some.inj h2];exact h4)
 simp only [Array.getElem?_toList,Nat.add_zero] at hq
 simp only [Instr.findKey,Sem.run_bind,run_underlying hfs,Result.andThen_ok]
 cases hL:entries.toList with
 |nil =>
  rw [hL] at hq
  simp only [Instr.findNow,Sem.run_pure]
  simp only [Instr.findAsking,Sem.run_pure] at hq
  exact hq
 |cons e L =>
  rw [<-hL]
  have:Instr.findNow (.struct fs) v entries.toList 0=none:=by rw [hL];simp [Instr.findNow,Instr.sameNow]
  rw [this]
  exact hq
def eU (c:Value->Bool) (es:List (Value × AV)):Option AV:=match kQ c es with|some j=>(es[j]?).map (·.2)|none=>none
theorem KR {o:Op}{kt:Nat}{z:AV}{c:Bool}{x i:QO}(h:res P.toTables o=some (.eU kt z c x i)):∃ t u v et zv,o=.lookup t u v c/\x=qo u/\i=qo v/\P.underlying t=some (.map kt et)/\cY P et=some zv/\z=lift zv:=by
 cases o with
 |lookup t u v c' =>
  simp only [res,b_,gV] at h
  split at h
  ·rename_i kt' et hu
   split at h
   ·cases h
   ·rename_i _ _ zv hk hz
    simp only [Option.some.injEq,dz.eU.injEq] at h
    obtain⟨rfl,rfl,rfl,rfl,rfl⟩:=h
    exact⟨_,_,_,_,_,rfl,rfl,rfl,hu,hz,rfl⟩
   ·rename_i _ zv hk hz
    simp only [Option.some.injEq,dz.eU.injEq] at h
    obtain⟨rfl,rfl,rfl,rfl,rfl⟩:=h
    exact⟨_,_,_,_,_,rfl,rfl,rfl,hu,hz,rfl⟩
   all_goals cases h
  ·cases h
 |_ =>
  simp only [res] at h
  repeat' split at h
  all_goals cases h
theorem KS {o:Op}{kt:Nat}{x i b:QO}(h:res P.toTables o=some (.k_ kt x i b)):∃ t u v y et,o=.mapUpdate t u v y/\x=qo u/\i=qo v/\b=qo y/\P.underlying t=some (.map kt et):=by
 cases o with
 |mapUpdate t u v y =>
  simp only [res,b_] at h
  split at h
  ·rename_i kt' et hu
   split at h
   ·cases h
   ·simp only [Option.some.injEq,dz.k_.injEq] at h
    obtain⟨rfl,rfl,rfl,rfl⟩:=h
    exact⟨_,_,_,_,_,rfl,rfl,rfl,rfl,hu⟩
   ·simp only [Option.some.injEq,dz.k_.injEq] at h
    obtain⟨rfl,rfl,rfl,rfl⟩:=h
    exact⟨_,_,_,_,_,rfl,rfl,rfl,rfl,hu⟩
   all_goals cases h
  ·cases h
 |_ =>
  simp only [res] at h
  repeat' split at h
  all_goals cases h
theorem KT {t kt et:TypeId}{x i:Operand}{k:Nat}{es:List (Value × AV)}{z v:Value}{m:AV}{cm:Bool}{c:Value->Bool}(ho:o.op=.lookup t x i cm) (ht:P.underlying t=some (.map kt et)) (hz:cY P et=some z)
  (hx:α.ev x=.mp k) (hS:S.get k=some (.mp es)) (hi:toV (α.ev i)=some v) (hk:vo P kt v es c):bg P w0 n o α S (match eU c es with|some a=>(if cm then .bc [a,.v (.bool true)] else a)|none=>(if cm then .bc [lift z,.v (.bool false)] else lift z)) S:=by
 refine bg.quiet fun A g q w cZ hA=>?_
 have h1:=hA.ev x
 rw [hx] at h1
 have e2:=s4 (hA.ev i) hi
 obtain⟨e1,bG⟩:=yX h1
 obtain⟨_,_,entries,clock,p1,p2,p3⟩:=cZ.cH k _ hS bG
 have hf:=hk.find p2 p3
 have fin:∀ (v:Value) (b:Bool) (a:AV),aL g w a v->aL g w (if cm then .bc [a,.v (.bool b)] else a) (if cm then .tuple #[v,.bool b] else v):=by
  intro v b a hr
  cases cm with
  |false=>exact hr
  |true =>
   refine .bc rfl fun i y x hy hx=>?_
   match i with
   |0=>simp at hy hx;subst hy hx;exact hr
   |1=>simp at hy hx;subst hy hx;exact .v
   |i+2=>simp at hy
 unfold eU
 cases hj:kQ c es with
 |none =>
  rw [hj] at hf
  refine⟨_,?_,fin z false (lift z) (xU z)⟩
  simp only [execOp,ho,e1,e2,Instr.lookup,Sem.run_bind,run_underlying ht,Result.andThen_ok,ko p1,Sem.run_pure,hk.VN,hf,m7 hz]
 |some j =>
  obtain⟨k',a,ha,_⟩:=FK hj
  obtain⟨e,q1,q2,q3⟩:=p3 j _ a ha
  rw [hj] at hf
  simp only [q1,Option.map_some] at hf
  simp only [ha,Option.map_some]
  refine⟨_,?_,fin e.val true a q3⟩
  simp only [execOp,ho,e1,e2,Instr.lookup,Sem.run_bind,run_underlying ht,Result.andThen_ok,ko p1,Sem.run_pure,hk.VN,hf]
theorem ad.eU {kt:Nat}{z:AV}{cm:Bool}{x i:QO}{k:Nat}{es:List (Value × AV)}{v:Value}{c:Value->Bool}(hx:x.ev α.tm=.mp k) (hS:S.get k=some (.mp es)) (hi:toV (i.ev α.tm)=some v) (hk:vo P kt v es c) :
  ad P w0 false (.eU kt z cm x i) α S (match eU c es with|some a=>(if cm then .bc [a,.v (.bool true)] else a)|none=>(if cm then .bc [z,.v (.bool false)] else z)) S:=ad.run fun n o hr=>by
 obtain⟨t,u,y,et,zv,ho,rfl,rfl,h1,h2,rfl⟩:=KR hr
 rw [aU] at hx hi
 exact KT (m:=.u) ho h1 h2 hx hS hi hk
theorem ad.k_ {kt:Nat}{x i b:QO}{k:Nat}{es:List (Value × AV)}{v:Value}{a:AV}{c:Value->Bool}(hx:x.ev α.tm=.mp k) (hS:S.get k=some (.mp es)) (hi:toV (i.ev α.tm)=some v) (hk:vo P kt v es c) (hn:kQ c es=none) (hb:b.ev α.tm=a) :
  ad P w0 false (.k_ kt x i b) α S (.v undef) (S.set k (some (.mp (es++[(v,a)])))):=ad.run fun n o hr=>by
 obtain⟨t,u,y,b',et,ho,rfl,rfl,rfl,ht⟩:=KS hr
 rw [aU] at hx hi hb
 intro A g q w cZ hA
 have h1:=hA.ev u
 have h3:=hA.ev b'
 rw [hx] at h1
 rw [hb] at h3
 have e2:=s4 (hA.ev y) hi
 obtain⟨e1,bG⟩:=yX h1
 obtain⟨x,hv⟩:∃ x,q.eval b'=x:=⟨_,rfl⟩
 rw [hv] at h3
 obtain⟨_,_,entries,clock,p1,p2,p3⟩:=cZ.cH k _ hS bG
 have hf:=hk.find p2 p3
 rw [hn] at hf
 obtain⟨w',q1,q2,q3⟩:=cZ.Di (P:=P) hS bG p1 (entries':=entries.push { key:=v,val:=x,born:=clock }) (clock':=clock+1) (es':=es++[(v,a)]) (by simp [p2]) (fun i key a' hi=>by
  by_cases c:i < es.length
  ·rw [List.getElem?_append_left c] at hi
   obtain⟨e,r1,r2,r3⟩:=p3 i key a' hi
   exact⟨e,by rw [Array.getElem?_push_lt (by omega)];rw [Array.getElem?_eq_getElem (by omega)] at r1;exact r1,r2,r3⟩
  ·rw [List.getElem?_append_right (by omega)] at hi
   have KU:i=es.length:=by
    have:=(List.getElem?_eq_some_iff.1 hi).1
    simp at this;omega
   subst KU
   simp at hi
   obtain⟨rfl,rfl⟩:=hi
   exact⟨{ key:=v,val:=x,born:=clock },by rw [<-p2];simp,rfl,h3⟩)
 refine⟨undef,w',g,.inr ⟨?_,rfl⟩,.v,q2,q3⟩
 simp only [execOp,ho,e1,e2,hv,Instr.mapUpdate,Sem.run_bind,run_underlying ht,Result.andThen_ok,ko p1,hk.VN,hf,q1,Sem.run_pure]
end
section
variable {P:Program}{w0:World}{rd:Bool}{n B N:Nat}{α:AA}{S:ae}{Q:Exit->AA->ae->Prop}{K:List iq}{ds:List DE}{ch:List PanicEntry}
theorem ab.pz {σ:Type}{st:σ->List (Nat × AV)}{so:σ->List (Nat × Ob)}{I:σ->Prop}{μ:σ->Nat}{k:Nat}(h:ab P w0 rd n Q (.out (.panic ch) K) α S):ab P w0 rd n (FL P w0 rd n B N st ds so I μ Q K k) (.out (.panic ch) []) α S:=h
end
section
variable {P:Program}{w0:World}{r r':AV}{S':ae}
theorem ah.KV {f:FuncId}{args:List AV}(h1:aV P w0 f args ae.none_ r' S') (h2:aX S' r' r) (hp:Pure r):ah P w0 f args r:=by
 refine⟨hp,ae.none_,h1.1,fun F m A g bO w hF hS hA=>(h1.2 F m A g bO w hF hS hA).mono ?_⟩
 rintro e w' ⟨v,g',rfl,h3,h4,h5⟩
 have hk:∀ b q,(g'.still S').fz b q->g.fz b q\/A b:=by
  rintro b q (hq|⟨k,sz,rows,fz,ex,hk,bG,rfl,hq⟩)
  ·exact h5.gH b q hq
  ·exact .inr (h4.cH k _ hk bG).1
 have hr:=h2.rep h4 h3
 obtain⟨g2,vp⟩:∃ g2:Gh,g2=⟨g.ob,g.cp,fun _=>False,(g'.still S').fz,g.fo⟩:=⟨_,rfl⟩
 have uR:∀ k,¬ g.al k:=fun k hk=>absurd (hS.al k hk) (Nat.not_lt_zero k)
 have hL:Later g w g2 w':=by
  rw [vp]
  exact⟨fun k hk=>uR k hk,fun _ _=>rfl,fun _ _=>rfl,fun b q hq=>.inl (h5.fz b q hq),h5.cell⟩
 refine⟨v,g2,rfl,?_,?_,{ hL with size:=h5.size,aT:=h5.aT,gH:=by rw [vp];exact hk }⟩
 ·rw [vp]
  exact aL.pure (g:=g'.still S') (g':=⟨g.ob,g.cp,fun _=>False,(g'.still S').fz,g.fo⟩) (fun _ _ h=>h) (fun _ _ _=>rfl) hr hp
 ·have e0:∀ k o,¬ ae.none_.get k=some o:=fun k o h=>by simp [ae.none_] at h
  refine⟨h4.base,h4.up,h4.lo,fun k hk=>?_,fun k o hk=>absurd hk (e0 k o),fun j k o p hj=>absurd hj (e0 j o),?_,fun b q hb=>hL.fz b q (hS.nn b q hb),fun k J hk=>absurd hk (e0 k _),fun k J j o hk=>absurd hk (e0 k _),fun j k J J' hj=>absurd hj (e0 j _)⟩
  ·rw [vp] at hk
   exact hk.elim
  ·rw [vp]
   rintro b q (hq|⟨k,sz,rows,fz,ex,hk,bG,rfl,hq⟩)
   ·exact h4.cK b q hq
   ·exact (h4.cH k _ hk bG).2.1
end
end Go.Proofs.YtgphljokbodciaaGreat
