import Derived.Test.YtbofilglphfceaaGreatD40
import Derived.Test.YtbofilglphfceaaGreatD41
namespace Go.Proofs.YtbofilglphfceaaGreat
set_option linter.unusedVariables false
set_option linter.unusedSimpArgs false
open Go.RowKit
section
set_option maxRecDepth 100000
attribute [local irreducible] ag aR aa ab
section
variable {w0:World}{ρ:Hd}
def varsOf (l:List Tm):List Int:=BG [] (v5 l)
end
end
section
set_option maxRecDepth 100000
attribute [local irreducible] ag aR aa ab
def Bd.ok (x:Bd):Prop:=x.t.ok/\fS x.t<=1099511627776
end
section
set_option maxRecDepth 100000
attribute [local irreducible] ag aR aa ab
end
section
set_option maxRecDepth 100000
attribute [local irreducible] ag aR aa ab
section
variable {w0:World}{ρ:Hd}
def sd (x:Gl):Prop:=rR x.a/\x.n.size<=1099511627776
end
end
section
set_option maxRecDepth 100000
attribute [local irreducible] ag aR aa ab
end
section
set_option maxRecDepth 100000
attribute [local irreducible] ag aR aa ab
end
section
set_option maxRecDepth 100000
attribute [local irreducible] ag aR aa ab
end
section
set_option maxRecDepth 100000
attribute [local irreducible] ag aR aa ab
end
section
set_option maxRecDepth 100000
attribute [local irreducible] ag aR aa ab
def TB (l:List At):List Int:=l.flatMap fun x=>varsOf x.a
def TC (L:List (List At)):List Int:=L.flatMap TB
def TD (l:List Gl):List Int:=l.flatMap fun x=>varsOf x.a
def TE (L:List (List Gl)):List Int:=L.flatMap TD
end
section
set_option maxRecDepth 100000
attribute [local irreducible] ag aR aa ab
def TF (r:Rl):List Int:=TC [r.bR,r.rem]
def TG (r:Rl):List Int:=TE [r.guard,r.body]
structure TH (r:Rl):Prop where
 n:r.n.size<=1099511627776
 ke:r.bR.length<=1099511627776
 re:r.rem.length<=1099511627776
 g:r.guard.length<=1099511627776
 b:r.body.length<=1099511627776
 kx:∀ x ∈ r.bR,rR x.a/\x.n.size<=1099511627776
 rx:∀ x ∈ r.rem,rR x.a/\x.n.size<=1099511627776
 gx:∀ x ∈ r.guard,sd x
 bx:∀ x ∈ r.body,sd x
 av:(TF r).length<=549755813888
 gv:(TG r).length<=549755813888
end
section
set_option maxRecDepth 100000
attribute [local irreducible] ag aR aa ab
end
section
set_option maxRecDepth 100000
attribute [local irreducible] ag aR aa ab
end
section
set_option maxRecDepth 100000
attribute [local irreducible] ag aR aa ab
end
section
set_option maxRecDepth 100000
end
section
set_option maxRecDepth 100000
attribute [local irreducible] ag aR aa ab
end
section
set_option maxRecDepth 100000
attribute [local irreducible] ag aR aa ab
end
section
set_option maxRecDepth 100000
attribute [local irreducible] ag aR aa ab
def Fi.ok (f:Fi):Prop:=f.ids.length<=1099511627776
end
section
set_option maxRecDepth 100000
attribute [local irreducible] ag aR aa ab
end
section
set_option maxRecDepth 100000
def ix (n:Int):AV:=.v (.int .i64 n)
def bx (b:Bool):AV:=.v (.bool b)
def sx (l:List UInt8):AV:=.v (.string ⟨l.toArray⟩)
def Fc:Bool->Bool->Bool
 |true,true=>true
 |false,false=>true
 |_,_=>false
theorem xV:∀ {a b:Bool},Fc a b=true->a=b
 |true,true,_=>rfl
 |false,false,_=>rfl
def Fe:Value->Value->Bool
 |.int .i64 a,.int .i64 b=>decide (a=b)
 |.bool a,.bool b=>Fc a b
 |.string a,.string b=>C4 a.data.toList b.data.toList
 |_,_=>false
theorem H5 {a b:Value}(h:Fe a b=true):a=b:=by
 unfold Fe at h
 split at h
 ·rw [of_decide_eq_true h]
 ·rw [xV h]
 ·rename_i a b
  rw [vO,beq_iff_eq] at h
  congr 1
  cases a;cases b
  simp only [ByteArray.mk.injEq]
  exact Array.toList_inj.1 h
 ·cases h
def s6 (f:AV->AV->Bool):List AV->List AV->Bool
 |[],[]=>true
 |a::l,b::m=>match f a b with|true=>s6 f l m|false=>false
 |_,_=>false
theorem pJ {f:AV->AV->Bool}(hf:∀ a b,f a b=true->a=b):∀ {l m:List AV},s6 f l m=true->l=m
 |[],[],_=>rfl
 |a::l,b::m,h=>by
  unfold s6 at h
  split at h
  ·rename_i e;rw [hf _ _ e,pJ hf h]
  ·cases h
def BH (f:AV->AV->Bool):List (List AV)->List (List AV)->Bool
 |[],[]=>true
 |a::l,b::m=>match s6 f a b with|true=>BH f l m|false=>false
 |_,_=>false
theorem xW {f:AV->AV->Bool}(hf:∀ a b,f a b=true->a=b):∀ {l m:List (List AV)},BH f l m=true->l=m
 |[],[],_=>rfl
 |a::l,b::m,h=>by
  unfold BH at h
  split at h
  ·rename_i e;rw [pJ hf e,xW hf h]
  ·cases h
def De:Nat->AV->AV->Bool
 |0,_,_=>false
 |n+1,a,b=>match a,b with
  |.v x,.v y=>Fe x y
  |.agg l,.agg m=>s6 (De n) l m
  |.sl e l,.sl e' m=>match Fc e e' with|true=>BH (De n) l m|false=>false
  |_,_=>false
theorem v7:∀ {n:Nat}{a b:AV},De n a b=true->a=b
 |0,_,_,h=>by cases h
 |n+1,a,b,h=>by
  unfold De at h
  split at h
  ·rw [H5 h]
  ·rw [pJ (fun a b=>v7) h]
  ·split at h
   ·rename_i e;rw [xV e,xW (fun a b=>v7) h]
   ·cases h
  ·cases h
abbrev Fa:=Nat × List AV × AV
def s7 (g:Nat) (az:List AV):List Fa->Option AV
 |[]=>none
 |f::fs=>match Nat.beq f.1 g with
  |true=>match s6 (De 30) f.2.1 az with|true=>some f.2.2|false=>s7 g az fs
  |false=>s7 g az fs
section
variable {w0:World}
def aP (w0:World) (fs:List Fa):Prop:=∀ f ∈ fs,ag Tryz.prog w0 f.1 f.2.1 f.2.2/\cF f.2.1
theorem s8 {g:Nat}{az:List AV}{r:AV}:∀ {fs:List Fa},aP w0 fs->s7 g az fs=some r->ag Tryz.prog w0 g az r/\cF az
 |[],_,h=>by cases h
 |f::fs,hf,h=>by
  have PD:aP w0 fs:=fun x hx=>hf x (List.mem_cons_of_mem _ hx)
  unfold s7 at h
  split at h
  ·rename_i e
   split at h
   ·rename_i e2
    obtain rfl:=Option.some.inj h
    rw [<-Nat.eq_of_beq_eq_true e,<-pJ (fun a b=>v7) e2]
    exact hf f List.mem_cons_self
   ·exact s8 PD h
  ·exact s8 PD h
def v8 (E:Env) (fs:List Fa):Env:={ E with ext:=fun g az=>match E.ext g az with|some r=>some r|none=>s7 g az fs }
theorem pK {E:Env}(h:dv Tryz.prog w0 E) {fs:List Fa}(hf:aP w0 fs):dv Tryz.prog w0 (v8 E fs) where
 seq:=h.seq
 key:=h.key
 vC:=h.vC
 o6:=h.o6
 nat:=h.nat
 ext:=fun g az r e=>by
  have e:(match E.ext g az with|some r=>some r|none=>s7 g az fs)=some r:=e
  split at e
  ·rename_i e2
   obtain rfl:=Option.some.inj e
   exact h.ext _ _ _ e2
  ·exact s8 hf e
theorem aP.nil:aP w0 []:=fun _ h=>by cases h
theorem aP.cons {E:Env}(h:dv Tryz.prog w0 E) {fs:List Fa}(hf:aP w0 fs) {f:Fa}(e:sU (v8 E fs) (vG (v8 E fs) 60) f.1 f.2.1=some f.2.2):aP w0 (f::fs):=by
 intro x hx
 rcases List.mem_cons.1 hx with rfl|hx
 ·exact kZ (pK h hf) (k_ (pK h hf) 60) e
 ·exact hf x hx
theorem aP.last {E:Env}(h:dv Tryz.prog w0 E) {fs:List Fa}(hf:aP w0 fs) {g:Nat}{r:AV}(e:sU (v8 E fs) (vG (v8 E fs) 60) g []=some r):ag Tryz.prog w0 g [] r :=
 (kZ (pK h hf) (k_ (pK h hf) 60) e).1
end
end
end Go.Proofs.YtbofilglphfceaaGreat
